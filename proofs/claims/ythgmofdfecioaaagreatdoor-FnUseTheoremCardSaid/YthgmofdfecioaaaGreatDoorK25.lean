/-
  Contracts of the functions that the law reaches, and plain lemmas. No condition.
-/
import Derived.Test.YthgmofdfecioaaaGreatDoorK24
namespace Go.Proofs.YthgmofdfecioaaaGreatDoor
set_option linter.unusedSimpArgs false
set_option linter.unusedVariables false
open Go.RowKit
set_option maxRecDepth 100000 in
set_option maxHeartbeats 8000000 in
theorem iequality_any (C : Option Addr) (m cc : Nat) (k n : Int) (A : Option Addr) (c b2 b3 : Nat) (l ka na : Int) (sa : List Tm) (a1 a2 : Tm) (ty : Nat → Option Tm) (w : World) (h1 : lvS (ty 0) = some l) (h2 : chkS (ty 1) (.mk ka na sa) = true) (h3 : chkS (ty 2) (.mk ka na sa) = true) (hT : TyOk b2 b3 w ty) (hr : Rd w A 0 [.mk ka na sa, a1, a2]) :
    Calls Tryz.prog 133 #[.agg #[.slice C m cc, .int .i64 k, .int .i64 n, .slice A 3 c, .func (.func 95) #[] #[.pointer (some ⟨b2, 0, none⟩), .pointer (some ⟨b3, 0, none⟩)]]] w (GotI w 2 l []) := by
  replace h1 := hide h1
  have hc1 := hide h2
  have hc2 := hide h3
  clear h2 h3
  obtain ⟨ba, oa, x1, x2, x3, Aa, ca, rfl, hk1, i1, i2, i3, hla, ra0⟩ := hr.at_ (j := 0) (by simp)
  injection hk1 with e1 e2 e3
  subst e1 e2 e3
  simp only [Nat.zero_mul, Nat.add_zero, Nat.one_mul, Nat.reduceMul] at i1 i2 i3
  go_enter Tryz.func133, Tryz.ntmps133
  go_wp2_with (go_at_call 150; refine (ilevel_any C m cc k n _ 3 c b2 b3 0 (by omega) l ty _ h1.out (hT.below (((Below.refl _ _).alloc (Nat.le_refl _) _).alloc (by simp) _))).mono ?_; rintro e w1 ⟨rfl, hb1⟩; have hZ1 : Blk w1 (w.heap.size + 1) #[.int .i64 0, .int .i64 0, .slice none 0 0] := (Blk.new_ _ 27 _ (by simp)).keep hb1; have hJ1 := ((Blk.new_ w 104 #[.slice C m cc, .int .i64 k, .int .i64 n, .slice (some ⟨ba, oa, none⟩) 3 c, .func (.func 95) #[] #[.pointer (some ⟨b2, 0, none⟩), .pointer (some ⟨b3, 0, none⟩)]] rfl).alloc (.cells #[.int .i64 0, .int .i64 0, .slice none 0 0] 27)).keep hb1; have g1 : Below w.heap.size w w1 := (((Below.refl _ _).alloc (Nat.le_refl _) _).alloc (by simp) _).trans (hb1.mono (by simp; omega)); have j0 := hJ1.at_ (i := 0) rfl; have j1 := hJ1.at_ (i := 1) rfl; have j2 := hJ1.at_ (i := 2) rfl; have j3 := hJ1.at_ (i := 3) rfl; have j4 := hJ1.at_ (i := 4) rfl; have tok1 := trivial)
  go_loopw [5, 6] (fun co s wr => ∃ j : Nat, 1 ≤ j ∧ j ≤ 3 ∧ s = .int .i64 j ∧ co = .int .i64 0 ∧ Blk wr w.heap.size #[.slice C m cc, .int .i64 k, .int .i64 n, .slice (some ⟨ba, oa, none⟩) 3 c, .func (.func 95) #[] #[.pointer (some ⟨b2, 0, none⟩), .pointer (some ⟨b3, 0, none⟩)]] ∧ Blk wr (w.heap.size + 1) #[.int .i64 0, .int .i64 0, .slice none 0 0] ∧ Below w.heap.size w wr)
    (fun co s _ => 3 - (intOf s).toNat)
  case atStart => exact ⟨1, by omega, by omega, rfl, rfl, hJ1, hZ1, g1⟩
  case round =>
    obtain ⟨j, hj1, hj3, rfl, rfl, hJr, hZr, gr⟩ := hrel
    rcases (show j = 1 ∨ j = 2 ∨ j = 3 by omega) with rfl | rfl | rfl
    · clear hj1 hj3
      go_upto_region 5 with fail
      have u0 := rule_of (hJr.at_ (i := 0) rfl)
      have u1 := rule_of (hJr.at_ (i := 1) rfl)
      have u2 := rule_of (hJr.at_ (i := 2) rfl)
      have u3 := rule_of (hJr.at_ (i := 3) rfl)
      have u4 := rule_of (hJr.at_ (i := 4) rfl)
      have y0 := rule_of ((Keeps.of_below gr) _ _ i1)
      have y1 := rule_of ((Keeps.of_below gr) _ _ i2)
      have y2 := rule_of ((Keeps.of_below gr) _ _ i3)
      obtain ⟨q0, hq0⟩ : ∃ q0, q0 = wr.drew := ⟨_, rfl⟩
      have bq0 : Below wr.heap.size wr q0 := by rw [hq0]; exact (Below.refl _ _).drew
      refine gC_start (fun w' => Below wr.heap.size wr w') [8] 9 (by kernel_rfl) rfl ?_
      refine gC_take [0, 1, 2, 3, 4, 5, 6] (f := 2) (l' := #[true, true, true, true, true, true, true, false, false]) (lT := [_, _, _, _, _, _, _]) (by rw [← hq0]; exact bq0) rfl (by kernel_rfl) (by kernel_rfl) (by kernel_rfl) rfl (fun _ _ d _ _ h => by cases d <;> exact h) ?_
      repeat (first | ((refine takeY_skip (a' := ?_) ?_ ?_ ?_); (rotate_left); (· (simp [Region.wanted, yielded, Go.undef]; done)); (· (simp only [List.getElem_toArray, List.getElem_cons_zero, List.getElem_cons_succ, Act.put, List.setIfInBounds_toArray, List.set_cons_zero, List.set_cons_succ]; exact rfl))) | ((refine takeY_step (v := ?_) (a' := ?_) ?_ ?_ ?_ ?_); (rotate_left 2); (· (simp [Region.wanted, yielded, Go.undef]; done)); (· (intro w' hS'; go_simp; try (with_reducible rfl))); (· (simp only [List.getElem_toArray, List.getElem_cons_zero, List.getElem_cons_succ, Act.put, List.setIfInBounds_toArray, List.set_cons_zero, List.set_cons_succ]; exact rfl))))
      refine takeY_nil ?_
      rw [← hq0]
      clear hq0
      refine gC_one (i := 7) (by kernel_rfl) rfl ?_
      · go_wp2_with (go_at_call 126; refine (icheck_any C m cc k n _ 3 c b2 b3 1 (by omega) ka na sa Aa ca ty _ hc1.out ((hT.below gr).below bq0) ((ra0.below gr).below bq0)).mono ?_; rintro e q1 ⟨rfl, hbq1⟩)
        have bq1 : Below wr.heap.size wr q1 := bq0.trans (hbq1.mono bq0.size)
        have lq1 := hbq1.size
        refine mid_intro bq1 ?_
        refine gC_end [8] (lB := [_]) (by simp) (by kernel_rfl) (by kernel_rfl) rfl ?_
        go_wp2_with fail
        go_roundw
        case rel => exact ⟨2, by omega, by omega, rfl, rfl, hJr.keep bq1, hZr.keep bq1, gr.trans (bq1.mono gr.size)⟩
        case measure => simp [intOf]
    · clear hj1 hj3
      go_upto_region 5 with fail
      have u0 := rule_of (hJr.at_ (i := 0) rfl)
      have u1 := rule_of (hJr.at_ (i := 1) rfl)
      have u2 := rule_of (hJr.at_ (i := 2) rfl)
      have u3 := rule_of (hJr.at_ (i := 3) rfl)
      have u4 := rule_of (hJr.at_ (i := 4) rfl)
      have y0 := rule_of ((Keeps.of_below gr) _ _ i1)
      have y1 := rule_of ((Keeps.of_below gr) _ _ i2)
      have y2 := rule_of ((Keeps.of_below gr) _ _ i3)
      obtain ⟨q0, hq0⟩ : ∃ q0, q0 = wr.drew := ⟨_, rfl⟩
      have bq0 : Below wr.heap.size wr q0 := by rw [hq0]; exact (Below.refl _ _).drew
      refine gC_start (fun w' => Below wr.heap.size wr w') [8] 9 (by kernel_rfl) rfl ?_
      refine gC_take [0, 1, 2, 3, 4, 5, 6] (f := 2) (l' := #[true, true, true, true, true, true, true, false, false]) (lT := [_, _, _, _, _, _, _]) (by rw [← hq0]; exact bq0) rfl (by kernel_rfl) (by kernel_rfl) (by kernel_rfl) rfl (fun _ _ d _ _ h => by cases d <;> exact h) ?_
      repeat (first | ((refine takeY_skip (a' := ?_) ?_ ?_ ?_); (rotate_left); (· (simp [Region.wanted, yielded, Go.undef]; done)); (· (simp only [List.getElem_toArray, List.getElem_cons_zero, List.getElem_cons_succ, Act.put, List.setIfInBounds_toArray, List.set_cons_zero, List.set_cons_succ]; exact rfl))) | ((refine takeY_step (v := ?_) (a' := ?_) ?_ ?_ ?_ ?_); (rotate_left 2); (· (simp [Region.wanted, yielded, Go.undef]; done)); (· (intro w' hS'; go_simp; try (with_reducible rfl))); (· (simp only [List.getElem_toArray, List.getElem_cons_zero, List.getElem_cons_succ, Act.put, List.setIfInBounds_toArray, List.set_cons_zero, List.set_cons_succ]; exact rfl))))
      refine takeY_nil ?_
      rw [← hq0]
      clear hq0
      refine gC_one (i := 7) (by kernel_rfl) rfl ?_
      · go_wp2_with (go_at_call 126; refine (icheck_any C m cc k n _ 3 c b2 b3 2 (by omega) ka na sa Aa ca ty _ hc2.out ((hT.below gr).below bq0) ((ra0.below gr).below bq0)).mono ?_; rintro e q1 ⟨rfl, hbq1⟩)
        have bq1 : Below wr.heap.size wr q1 := bq0.trans (hbq1.mono bq0.size)
        have lq1 := hbq1.size
        refine mid_intro bq1 ?_
        refine gC_end [8] (lB := [_]) (by simp) (by kernel_rfl) (by kernel_rfl) rfl ?_
        go_wp2_with fail
        go_roundw
        case rel => exact ⟨3, by omega, by omega, rfl, rfl, hJr.keep bq1, hZr.keep bq1, gr.trans (bq1.mono gr.size)⟩
        case measure => simp [intOf]
    · clear hj1 hj3
      go_wp2_with (go_at_call 125; refine (isort_any _ _).mono ?_; rintro e w3 ⟨rfl, hb3⟩; have hZ3 := hZr.keep hb3; have g3 := gr.trans (hb3.mono gr.size); obtain ⟨d0, d1, d2⟩ := hZ3.three; have e0 := hZ3.frozen 0; have e1 := hZ3.frozen 1; have e2 := hZ3.frozen 2)
      refine bodyPost_ret (v := .tuple #[.agg #[.int .i64 2, .int .i64 l, .slice none 0 0], .int .i64 0]) (by simp [results, Tryz.results133, go_sem, d0, d1, d2]) rfl ⟨none, 0, rfl, by simp, Rd.nil, ?_⟩
      exact ((g3.setCell (by simp) _).setCell (by simp) _).setCell (by simp) _
section
variable {p : Nat → Prop} {w : World} {g : Nat} {k0 n0 k1 n1 : Int} {s0 s1 : List Tm} {A0 A1 : Option Addr} {c0 c1 : Nat}
theorem rdp_row1 (hB : Blk w g #[.int .i64 k0, .int .i64 n0, .slice A0 s0.length c0]) (hp : p g) (l0 : s0.length ≤ 9223372036854775807) (r0 : RdP p w A0 0 s0) : RdP p w (some ⟨g, 0, none⟩) 0 [.mk k0 n0 s0] :=
  RdP.cons_iff.2 ⟨⟨g, 0, rfl, RdPC.iff.2 ⟨hp, hB.at_ (i := 0) rfl, hB.at_ (i := 1) rfl, A0, c0, hB.at_ (i := 2) rfl, l0, r0⟩⟩, RdP.nil⟩
theorem rdp_row2 (hB : Blk w g #[.int .i64 k0, .int .i64 n0, .slice A0 s0.length c0, .int .i64 k1, .int .i64 n1, .slice A1 s1.length c1]) (hp : p g) (l0 : s0.length ≤ 9223372036854775807) (l1 : s1.length ≤ 9223372036854775807) (r0 : RdP p w A0 0 s0) (r1 : RdP p w A1 0 s1) : RdP p w (some ⟨g, 0, none⟩) 0 [.mk k0 n0 s0, .mk k1 n1 s1] :=
  RdP.cons_iff.2 ⟨⟨g, 0, rfl, RdPC.iff.2 ⟨hp, hB.at_ (i := 0) rfl, hB.at_ (i := 1) rfl, A0, c0, hB.at_ (i := 2) rfl, l0, r0⟩⟩,
    RdP.cons_iff.2 ⟨⟨g, 0, rfl, RdPC.iff.2 ⟨hp, hB.at_ (i := 3) rfl, hB.at_ (i := 4) rfl, A1, c1, hB.at_ (i := 5) rfl, l1, r1⟩⟩, RdP.nil⟩⟩
end
/-- a type in new blocks, and that it is one -/
def GotIN (w : World) (k n : Int) (ks : List Tm) (e : Ending) (w' : World) : Prop :=
  ∃ A c, e = .returned (.tuple #[.agg #[.int .i64 k, .int .i64 n, .slice A ks.length c], .int .i64 0]) ∧ ks.length ≤ 9223372036854775807 ∧ RdP (fun b => w.heap.size ≤ b) w' A 0 ks ∧ Below w.heap.size w w'
set_option maxRecDepth 100000 in
set_option maxHeartbeats 8000000 in
theorem istepType_any (k0 n0 : Int) (s0 : List Tm) (A0 : Option Addr) (c0 : Nat) (k1 n1 : Int) (s1 : List Tm) (k2 n2 : Int) (s2 : List Tm) (w : World) (hv0 : validT (.mk k0 n0 s0) = true) (hs1 : shiftI 1 0 (.mk k0 n0 s0) = some (.mk k1 n1 s1)) (hs2 : shiftI 2 0 (.mk k0 n0 s0) = some (.mk k2 n2 s2)) (hv : validT (.mk 3 0 [.mk 6 0 [], .mk 3 0 [.mk 5 0 [.mk k1 n1 s1, .mk 1 0 []], .mk 5 0 [.mk k2 n2 s2, .mk 8 0 [.mk 1 1 []]]]]) = true) (hr : Rd w A0 0 s0) :
    Calls Tryz.prog 152 #[.agg #[.int .i64 k0, .int .i64 n0, .slice A0 s0.length c0]] w (GotIN w 3 0 [.mk 6 0 [], .mk 3 0 [.mk 5 0 [.mk k1 n1 s1, .mk 1 0 []], .mk 5 0 [.mk k2 n2 s2, .mk 8 0 [.mk 1 1 []]]]]) := by
  have hz := validT_size' hv0
  have hsh := hide (validT_shape hv0)
  have hS1 := hide (fun (w : World) (hr : Rd w A0 0 s0) => by have := shift_any k0 n0 s0 A0 c0 1 0 w (by omega) (by omega) (by omega) hsh.out hr; rw [hs1] at this; exact this)
  have hS2 := hide (fun (w : World) (hr : Rd w A0 0 s0) => by have := shift_any k0 n0 s0 A0 c0 2 0 w (by omega) (by omega) (by omega) hsh.out hr; rw [hs2] at this; exact this)
  have hv' := hide hv
  clear hv hv0 hs1 hs2
  go_enter Tryz.func152, Tryz.ntmps152
  go_upto_region 3 with (first
    | (go_at_call 52; have _t := tok1; refine (hS2.out _ ((hr.below g1).alloc _)).mono ?_; intro e w2 hgo; obtain ⟨A2, c2, rfl, hl2, hf2, hb2⟩ := gotO_some hgo; clear hgo; have hZ2 := (hZ1.alloc (.cells #[.int .i64 k1, .int .i64 n1, .slice A1 s1.length c1] 27)).keep hb2; have hP2 := (Blk.new_ w1 27 #[.int .i64 k1, .int .i64 n1, .slice A1 s1.length c1] rfl).keep hb2; have g2 := (g1.alloc g1.size (.cells #[.int .i64 k1, .int .i64 n1, .slice A1 s1.length c1] 27)).trans (hb2.mono (by have := g1.size; simp; omega)); have r12 := (r11.alloc (.cells #[.int .i64 k1, .int .i64 n1, .slice A1 s1.length c1] 27)).below hb2; have r22 := hf2.rd'.mono (q := fun b => w.heap.size + 2 ≤ b) (fun b hb => Nat.le_trans (by have := g1.size; have := hb1.size; simp at this; simp; omega) hb))
    | (go_at_call 52; refine (hS1.out _ ((hr.alloc _).alloc _)).mono ?_; intro e w1 hgo; obtain ⟨A1, c1, rfl, hl1, hf1, hb1⟩ := gotO_some hgo; clear hgo; have hZ1 : Blk w1 (w.heap.size + 1) #[.int .i64 0, .int .i64 0, .slice none 0 0] := (Blk.new_ _ 27 _ (by simp)).keep hb1; have hX1 := ((Blk.new_ w 27 #[.int .i64 k0, .int .i64 n0, .slice A0 s0.length c0] rfl).alloc (.cells #[.int .i64 0, .int .i64 0, .slice none 0 0] 27)).keep hb1; have g1 : Below w.heap.size w w1 := (((Below.refl _ _).alloc (Nat.le_refl _) _).alloc (by simp) _).trans (hb1.mono (by simp; omega)); have r11 := hf1.rd'.mono (q := fun b => w.heap.size + 2 ≤ b) (fun b hb => by simp at hb; omega); obtain ⟨x0, x1, x2⟩ := hX1.three; have lx := hX1.lt; have tok1 := trivial))
  refine name_world ?_
  intro wx hwx
  have hT4 : Blk wx w1.heap.size #[.int .i64 k1, .int .i64 n1, .slice A1 s1.length c1] := by rw [hwx]; exact hP2.alloc _
  have hT6 : Blk wx w2.heap.size #[.int .i64 k2, .int .i64 n2, .slice A2 s2.length c2] := by rw [hwx]; exact Blk.new_ _ 27 _ rfl
  have hZx := (show Blk wx (w.heap.size + 1) _ by rw [hwx]; exact hZ2.alloc _)
  have gx : Below w.heap.size w wx := by rw [hwx]; exact g2.alloc g2.size _
  have lzx := hZx.lt
  have r1 : RdP (fun b => w.heap.size + 2 ≤ b) wx A1 0 s1 := by rw [hwx]; exact r12.alloc _
  have r2 : RdP (fun b => w.heap.size + 2 ≤ b) wx A2 0 s2 := by rw [hwx]; exact r22.alloc _
  clear hwx
  have v0 := rule_of hT4.three.1
  have v1 := rule_of hT4.three.2.1
  have v2 := rule_of hT4.three.2.2
  have y0 := rule_of hT6.three.1
  have y1 := rule_of hT6.three.2.1
  have y2 := rule_of hT6.three.2.2
  obtain ⟨q0, hq0⟩ : ∃ q0, q0 = wx.drew := ⟨_, rfl⟩
  have bq0 : Below wx.heap.size wx q0 := by rw [hq0]; exact (Below.refl _ _).drew
  refine gC_start (fun w' => Below wx.heap.size wx w') [16, 17, 18, 20, 21, 22, 23] 24 (by kernel_rfl) rfl ?_
  refine gC_take [1, 5, 15] (f := 21) (l' := #[false, true, false, false, false, true, false, false, false, false, false, false, false, false, false, true, false, false, false, false, false, false, false, false]) (lT := [_, _, _]) (by rw [← hq0]; exact bq0) rfl (by kernel_rfl) (by kernel_rfl) (by kernel_rfl) rfl (fun _ _ d _ _ h => by cases d <;> exact h) ?_
  repeat (first | ((refine takeY_skip (a' := ?_) ?_ ?_ ?_); (rotate_left); (· (simp [Region.wanted, yielded, Go.undef]; done)); (· (simp only [List.getElem_toArray, List.getElem_cons_zero, List.getElem_cons_succ, Act.put, List.setIfInBounds_toArray, List.set_cons_zero, List.set_cons_succ]; exact rfl))) | ((refine takeY_step (v := ?_) (a' := ?_) ?_ ?_ ?_ ?_); (rotate_left 2); (· (simp [Region.wanted, yielded, Go.undef]; done)); (· (intro w' hS'; go_simp; try (with_reducible rfl))); (· (simp only [List.getElem_toArray, List.getElem_cons_zero, List.getElem_cons_succ, Act.put, List.setIfInBounds_toArray, List.set_cons_zero, List.set_cons_succ]; exact rfl))))
  refine takeY_nil ?_
  rw [← hq0]
  clear hq0
  refine gC_one (i := 0) (by kernel_rfl) rfl ?_
  · go_wp2_with (go_at_call 26; refine (inode_any 6 _ ⟨_, _, _, rfl⟩ _).mono ?_; rintro e q1 ⟨rfl, hbq1⟩)
    have bq1 : Below wx.heap.size wx q1 := bq0.trans (hbq1.mono bq0.size)
    have lq1 := hbq1.size
    refine mid_intro bq1 ?_
    refine gC_one (i := 2) (by kernel_rfl) rfl ?_
    · go_wp2_with (go_at_call 53; refine (variable_any 0 _).mono ?_; rintro e q2 ⟨rfl, hbq2⟩)
      have bq2 : Below wx.heap.size wx q2 := bq1.trans (hbq2.mono bq1.size)
      have lq2 := hbq2.size
      refine mid_intro bq2 ?_
      refine gC_one (i := 3) (by kernel_rfl) rfl ?_
      · go_wp2_with fail
        refine name_midw ?_
        intro q3 hn
        have hbq3 : Below q2.heap.size q2 q3 := by rw [hn]; exact (Below.refl _ _).alloc (Nat.le_refl _) _
        have zq3 : Blk q3 q2.heap.size #[.int .i64 k1, .int .i64 n1, .slice A1 s1.length c1, .int .i64 1, .int .i64 0, .slice none 0 0] := by rw [hn]; exact Blk.new_ _ 27 _ rfl
        have seq3 : q2.heap.size < q3.heap.size := by rw [hn]; simp
        clear hn
        have hpq3 : w.heap.size + 2 ≤ q2.heap.size := by have := bq2.size; omega
        have rq3 : RdP (fun b => w.heap.size + 2 ≤ b) q3 (some ⟨q2.heap.size, 0, none⟩) 0 [.mk k1 n1 s1, .mk 1 0 []] := rdp_row2 (s0 := s1) (s1 := []) zq3 hpq3 hl1 (by simp) ((r1.below bq2).below hbq3) RdP.nil
        have bq3 : Below wx.heap.size wx q3 := bq2.trans (hbq3.mono bq2.size)
        have lq3 := hbq3.size
        refine mid_intro bq3 ?_
        refine gC_one (i := 4) (by kernel_rfl) rfl ?_
        · go_wp2_with (go_at_call 26; refine (inode_any 5 _ ⟨_, _, _, rfl⟩ _).mono ?_; rintro e q4 ⟨rfl, hbq4⟩)
          have B1q4 := rq3.below hbq4
          have bq4 : Below wx.heap.size wx q4 := bq3.trans (hbq4.mono bq3.size)
          have lq4 := hbq4.size
          refine mid_intro bq4 ?_
          refine gC_one (i := 6) (by kernel_rfl) rfl ?_
          · go_wp2_with (go_at_call 53; refine (variable_any 1 _).mono ?_; rintro e q5 ⟨rfl, hbq5⟩)
            have B1q5 := B1q4.below hbq5
            have bq5 : Below wx.heap.size wx q5 := bq4.trans (hbq5.mono bq4.size)
            have lq5 := hbq5.size
            refine mid_intro bq5 ?_
            refine gC_one (i := 7) (by kernel_rfl) rfl ?_
            · go_wp2_with fail
              refine name_midw ?_
              intro q6 hn
              have hbq6 : Below q5.heap.size q5 q6 := by rw [hn]; exact (Below.refl _ _).alloc (Nat.le_refl _) _
              have zq6 : Blk q6 q5.heap.size #[.int .i64 1, .int .i64 1, .slice none 0 0] := by rw [hn]; exact Blk.new_ _ 27 _ rfl
              have seq6 : q5.heap.size < q6.heap.size := by rw [hn]; simp
              clear hn
              have hpq6 : w.heap.size + 2 ≤ q5.heap.size := by have := bq5.size; omega
              have rq6 : RdP (fun b => w.heap.size + 2 ≤ b) q6 (some ⟨q5.heap.size, 0, none⟩) 0 [.mk 1 1 []] := rdp_row1 (s0 := []) zq6 hpq6 (by simp) RdP.nil
              have B1q6 := B1q5.below hbq6
              have bq6 : Below wx.heap.size wx q6 := bq5.trans (hbq6.mono bq5.size)
              have lq6 := hbq6.size
              refine mid_intro bq6 ?_
              refine gC_one (i := 8) (by kernel_rfl) rfl ?_
              · go_wp2_with (go_at_call 26; refine (inode_any 8 _ ⟨_, _, _, rfl⟩ _).mono ?_; rintro e q7 ⟨rfl, hbq7⟩)
                have B1q7 := B1q6.below hbq7
                have V1q7 := rq6.below hbq7
                have bq7 : Below wx.heap.size wx q7 := bq6.trans (hbq7.mono bq6.size)
                have lq7 := hbq7.size
                refine mid_intro bq7 ?_
                refine gC_one (i := 9) (by kernel_rfl) rfl ?_
                · go_wp2_with fail
                  refine name_midw ?_
                  intro q8 hn
                  have hbq8 : Below q7.heap.size q7 q8 := by rw [hn]; exact (Below.refl _ _).alloc (Nat.le_refl _) _
                  have zq8 : Blk q8 q7.heap.size #[.int .i64 k2, .int .i64 n2, .slice A2 s2.length c2, .int .i64 8, .int .i64 0, .slice (some ⟨q5.heap.size, 0, none⟩) 1 1] := by rw [hn]; exact Blk.new_ _ 27 _ rfl
                  have seq8 : q7.heap.size < q8.heap.size := by rw [hn]; simp
                  clear hn
                  have hpq8 : w.heap.size + 2 ≤ q7.heap.size := by have := bq7.size; omega
                  have rq8 : RdP (fun b => w.heap.size + 2 ≤ b) q8 (some ⟨q7.heap.size, 0, none⟩) 0 [.mk k2 n2 s2, .mk 8 0 [.mk 1 1 []]] := rdp_row2 (s0 := s2) (s1 := [.mk 1 1 []]) zq8 hpq8 hl2 (by simp) ((r2.below bq7).below hbq8) (V1q7.below hbq8)
                  have B1q8 := B1q7.below hbq8
                  have V1q8 := V1q7.below hbq8
                  have bq8 : Below wx.heap.size wx q8 := bq7.trans (hbq8.mono bq7.size)
                  have lq8 := hbq8.size
                  refine mid_intro bq8 ?_
                  refine gC_one (i := 10) (by kernel_rfl) rfl ?_
                  · go_wp2_with (go_at_call 26; refine (inode_any 5 _ ⟨_, _, _, rfl⟩ _).mono ?_; rintro e q9 ⟨rfl, hbq9⟩)
                    have B1q9 := B1q8.below hbq9
                    have V1q9 := V1q8.below hbq9
                    have B2q9 := rq8.below hbq9
                    have bq9 : Below wx.heap.size wx q9 := bq8.trans (hbq9.mono bq8.size)
                    have lq9 := hbq9.size
                    refine mid_intro bq9 ?_
                    refine gC_one (i := 11) (by kernel_rfl) rfl ?_
                    · go_wp2_with fail
                      refine name_midw ?_
                      intro q10 hn
                      have hbq10 : Below q9.heap.size q9 q10 := by rw [hn]; exact (Below.refl _ _).alloc (Nat.le_refl _) _
                      have zq10 : Blk q10 q9.heap.size #[.int .i64 5, .int .i64 0, .slice (some ⟨q2.heap.size, 0, none⟩) 2 2, .int .i64 5, .int .i64 0, .slice (some ⟨q7.heap.size, 0, none⟩) 2 2] := by rw [hn]; exact Blk.new_ _ 27 _ rfl
                      have seq10 : q9.heap.size < q10.heap.size := by rw [hn]; simp
                      clear hn
                      have hpq10 : w.heap.size + 2 ≤ q9.heap.size := by have := bq9.size; omega
                      have rq10 : RdP (fun b => w.heap.size + 2 ≤ b) q10 (some ⟨q9.heap.size, 0, none⟩) 0 [.mk 5 0 [.mk k1 n1 s1, .mk 1 0 []], .mk 5 0 [.mk k2 n2 s2, .mk 8 0 [.mk 1 1 []]]] := rdp_row2 (s0 := [.mk k1 n1 s1, .mk 1 0 []]) (s1 := [.mk k2 n2 s2, .mk 8 0 [.mk 1 1 []]]) zq10 hpq10 (by simp) (by simp) (B1q9.below hbq10) (B2q9.below hbq10)
                      have B1q10 := B1q9.below hbq10
                      have V1q10 := V1q9.below hbq10
                      have B2q10 := B2q9.below hbq10
                      have bq10 : Below wx.heap.size wx q10 := bq9.trans (hbq10.mono bq9.size)
                      have lq10 := hbq10.size
                      refine mid_intro bq10 ?_
                      refine gC_one (i := 12) (by kernel_rfl) rfl ?_
                      · go_wp2_with (go_at_call 26; refine (inode_any 3 _ ⟨_, _, _, rfl⟩ _).mono ?_; rintro e q11 ⟨rfl, hbq11⟩)
                        have B1q11 := B1q10.below hbq11
                        have V1q11 := V1q10.below hbq11
                        have B2q11 := B2q10.below hbq11
                        have P2q11 := rq10.below hbq11
                        have bq11 : Below wx.heap.size wx q11 := bq10.trans (hbq11.mono bq10.size)
                        have lq11 := hbq11.size
                        refine mid_intro bq11 ?_
                        refine gC_one (i := 13) (by kernel_rfl) rfl ?_
                        · go_wp2_with fail
                          refine name_midw ?_
                          intro q12 hn
                          have hbq12 : Below q11.heap.size q11 q12 := by rw [hn]; exact (Below.refl _ _).alloc (Nat.le_refl _) _
                          have zq12 : Blk q12 q11.heap.size #[.int .i64 6, .int .i64 0, .slice none 0 0, .int .i64 3, .int .i64 0, .slice (some ⟨q9.heap.size, 0, none⟩) 2 2] := by rw [hn]; exact Blk.new_ _ 27 _ rfl
                          have seq12 : q11.heap.size < q12.heap.size := by rw [hn]; simp
                          clear hn
                          have hpq12 : w.heap.size + 2 ≤ q11.heap.size := by have := bq11.size; omega
                          have rq12 : RdP (fun b => w.heap.size + 2 ≤ b) q12 (some ⟨q11.heap.size, 0, none⟩) 0 [.mk 6 0 [], .mk 3 0 [.mk 5 0 [.mk k1 n1 s1, .mk 1 0 []], .mk 5 0 [.mk k2 n2 s2, .mk 8 0 [.mk 1 1 []]]]] := rdp_row2 (s0 := []) (s1 := [.mk 5 0 [.mk k1 n1 s1, .mk 1 0 []], .mk 5 0 [.mk k2 n2 s2, .mk 8 0 [.mk 1 1 []]]]) zq12 hpq12 (by simp) (by simp) RdP.nil (P2q11.below hbq12)
                          have B1q12 := B1q11.below hbq12
                          have V1q12 := V1q11.below hbq12
                          have B2q12 := B2q11.below hbq12
                          have P2q12 := P2q11.below hbq12
                          have bq12 : Below wx.heap.size wx q12 := bq11.trans (hbq12.mono bq11.size)
                          have lq12 := hbq12.size
                          refine mid_intro bq12 ?_
                          refine gC_one (i := 14) (by kernel_rfl) rfl ?_
                          · go_wp2_with (go_at_call 26; refine (inode_any 3 _ ⟨_, _, _, rfl⟩ _).mono ?_; rintro e q13 ⟨rfl, hbq13⟩)
                            have B1q13 := B1q12.below hbq13
                            have V1q13 := V1q12.below hbq13
                            have B2q13 := B2q12.below hbq13
                            have P2q13 := P2q12.below hbq13
                            have P1q13 := rq12.below hbq13
                            have bq13 : Below wx.heap.size wx q13 := bq12.trans (hbq13.mono bq12.size)
                            have lq13 := hbq13.size
                            refine mid_intro bq13 ?_
                            refine gC_takeT [16, 17, 18] (f := 5) (l' := #[true, true, true, true, true, true, true, true, true, true, true, true, true, true, true, true, true, true, true, false, false, false, false, false]) (lT := [_, _, _]) rfl (by kernel_rfl) (by kernel_rfl) (by kernel_rfl) rfl (fun _ _ d _ _ h => by cases d <;> exact h) ?_
                            repeat (first | ((refine takeY_skip (a' := ?_) ?_ ?_ ?_); (rotate_left); (· (simp [Region.wanted, yielded, Go.undef]; done)); (· (simp only [List.getElem_toArray, List.getElem_cons_zero, List.getElem_cons_succ, Act.put, List.setIfInBounds_toArray, List.set_cons_zero, List.set_cons_succ]; exact rfl))) | ((refine takeY_step (v := ?_) (a' := ?_) ?_ ?_ ?_ ?_); (rotate_left 2); (· (simp [Region.wanted, yielded, Go.undef]; done)); (· (intro w' hS'; go_simp; try (with_reducible rfl))); (· (simp only [List.getElem_toArray, List.getElem_cons_zero, List.getElem_cons_succ, Act.put, List.setIfInBounds_toArray, List.set_cons_zero, List.set_cons_succ]; exact rfl))))
                            refine takeY_nil ?_
                            refine gC_one (i := 19) (by kernel_rfl) rfl ?_
                            · go_wp2_with (go_at_call 124; refine (imade_yes 3 0 [.mk 6 0 [], .mk 3 0 [.mk 5 0 [.mk k1 n1 s1, .mk 1 0 []], .mk 5 0 [.mk k2 n2 s2, .mk 8 0 [.mk 1 1 []]]]] _ 2 _ hv'.out P1q13.rd).mono ?_; rintro e q14 ⟨rfl, hbq14⟩)
                              have B1q14 := B1q13.below hbq14
                              have V1q14 := V1q13.below hbq14
                              have B2q14 := B2q13.below hbq14
                              have P2q14 := P2q13.below hbq14
                              have P1q14 := P1q13.below hbq14
                              have bq14 : Below wx.heap.size wx q14 := bq13.trans (hbq14.mono bq13.size)
                              have lq14 := hbq14.size
                              refine mid_intro bq14 ?_
                              refine gC_takeT [20, 21] (f := 2) (l' := #[true, true, true, true, true, true, true, true, true, true, true, true, true, true, true, true, true, true, true, true, true, true, false, false]) (lT := [_, _]) rfl (by kernel_rfl) (by kernel_rfl) (by kernel_rfl) rfl (fun _ _ d _ _ h => by cases d <;> exact h) ?_
                              repeat (first | ((refine takeY_skip (a' := ?_) ?_ ?_ ?_); (rotate_left); (· (simp [Region.wanted, yielded, Go.undef]; done)); (· (simp only [List.getElem_toArray, List.getElem_cons_zero, List.getElem_cons_succ, Act.put, List.setIfInBounds_toArray, List.set_cons_zero, List.set_cons_succ]; exact rfl))) | ((refine takeY_step (v := ?_) (a' := ?_) ?_ ?_ ?_ ?_); (rotate_left 2); (· (simp [Region.wanted, yielded, Go.undef]; done)); (· (intro w' hS'; go_simp; try (with_reducible rfl))); (· (simp only [List.getElem_toArray, List.getElem_cons_zero, List.getElem_cons_succ, Act.put, List.setIfInBounds_toArray, List.set_cons_zero, List.set_cons_succ]; exact rfl))))
                              refine takeY_nil ?_
                              refine gC_end [22, 23] (lB := [_, _]) (by simp) (by kernel_rfl) (by kernel_rfl) rfl ?_
                              have hZ2 := hZx.keep bq14
                              obtain ⟨d0, d1, d2⟩ := hZ2.three
                              have e0 := hZ2.frozen 0
                              have e1 := hZ2.frozen 1
                              have e2 := hZ2.frozen 2
                              have gf := gx.trans (bq14.mono gx.size)
                              have rP := P1q14
                              go_wp2_with fail
                              refine bodyPost_ret (v := .tuple #[.agg #[.int .i64 3, .int .i64 0, .slice (some ⟨q11.heap.size, 0, none⟩) 2 2], .int .i64 0]) (by simp [results, Tryz.results152, go_sem, d0, d1, d2]) rfl ⟨some ⟨q11.heap.size, 0, none⟩, 2, rfl, by simp, ?_, ?_⟩
                              · exact (((rP.setCell (by simp) _).setCell (by simp) _).setCell (by simp) _).mono (fun b hb => by omega)
                              · exact ((gf.setCell (by simp) _).setCell (by simp) _).setCell (by simp) _
end Go.Proofs.YthgmofdfecioaaaGreatDoor
