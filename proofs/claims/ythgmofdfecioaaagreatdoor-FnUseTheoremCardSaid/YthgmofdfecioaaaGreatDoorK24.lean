/-
  Contracts of the functions that the law reaches, and plain lemmas. No condition.
-/
import Derived.Test.YthgmofdfecioaaaGreatDoorK23
import Derived.Deep.DeepCutAuto
namespace Go.Proofs.YthgmofdfecioaaaGreatDoor
set_option linter.unusedSimpArgs false
set_option linter.unusedVariables false
open Go.RowKit
set_option maxRecDepth 100000 in
set_option maxHeartbeats 8000000 in
theorem iarrow_any (C : Option Addr) (m cc : Nat) (k n : Int) (A : Option Addr) (c b2 b3 : Nat) (la : Nat) (i j : Int) (ty : Nat → Option Tm) (w : World) (h1 : lvS (ty 0) = some i) (h2 : lvS (ty 1) = some j) (hT : TyOk b2 b3 w ty) :
    Calls Tryz.prog 127 #[.agg #[.slice C m cc, .int .i64 k, .int .i64 n, .slice A la c, .func (.func 95) #[] #[.pointer (some ⟨b2, 0, none⟩), .pointer (some ⟨b3, 0, none⟩)]]] w (GotI w 2 (if i < j then j else i) []) := by
  obtain ⟨q, hq⟩ : ∃ q, q = (if i < j then j else i) := ⟨_, rfl⟩
  have hmax : ∀ w', (Builtin.max_ #[3, 3] 3 #[.int .i64 i, .int .i64 j]).run Tryz.prog w' = .ok (.int .i64 q) w' := fun w' => by rw [hq]; simp [go_sem]; split <;> omega
  rw [← hq]
  replace h1 := hide h1
  replace h2 := hide h2
  clear hq
  go_enter Tryz.func127, Tryz.ntmps127
  go_wp2_with (first
    | (go_at_call 125; have _t := tok2; refine (isort_any _ _).mono ?_; rintro e w3 ⟨rfl, hb3⟩; have hZ3 := hZ2.keep hb3; have g3 := g2.trans (hb3.mono g2.size); obtain ⟨d0, d1, d2⟩ := hZ3.three; have e0 := hZ3.frozen 0; have e1 := hZ3.frozen 1; have e2 := hZ3.frozen 2)
    | (go_at_call 150; have _t := tok1; refine (ilevel_any C m cc k n A la c b2 b3 1 (by omega) j ty _ h2.out (hT.below g1)).mono ?_; rintro e w2 ⟨rfl, hb2⟩; have hZ2 := hZ1.keep hb2; have g2 := g1.trans (hb2.mono g1.size); have tok2 := trivial)
    | (go_at_call 150; refine (ilevel_any C m cc k n A la c b2 b3 0 (by omega) i ty _ h1.out (hT.below (((Below.refl _ _).alloc (Nat.le_refl _) _).alloc (by simp) _))).mono ?_; rintro e w1 ⟨rfl, hb1⟩; have hZ1 : Blk w1 (w.heap.size + 1) #[.int .i64 0, .int .i64 0, .slice none 0 0] := (Blk.new_ _ 27 _ (by simp)).keep hb1; have hJ1 := ((Blk.new_ w 104 #[.slice C m cc, .int .i64 k, .int .i64 n, .slice A la c, .func (.func 95) #[] #[.pointer (some ⟨b2, 0, none⟩), .pointer (some ⟨b3, 0, none⟩)]] rfl).alloc (.cells #[.int .i64 0, .int .i64 0, .slice none 0 0] 27)).keep hb1; have g1 : Below w.heap.size w w1 := (((Below.refl _ _).alloc (Nat.le_refl _) _).alloc (by simp) _).trans (hb1.mono (by simp; omega)); have j0 := hJ1.at_ (i := 0) rfl; have j1 := hJ1.at_ (i := 1) rfl; have j2 := hJ1.at_ (i := 2) rfl; have j3 := hJ1.at_ (i := 3) rfl; have j4 := hJ1.at_ (i := 4) rfl; have tok1 := trivial))
  refine bodyPost_ret (v := .tuple #[.agg #[.int .i64 2, .int .i64 q, .slice none 0 0], .int .i64 0]) (by simp [results, Tryz.results127, go_sem, d0, d1, d2]) rfl ⟨none, 0, rfl, by simp, Rd.nil, ?_⟩
  exact ((g3.setCell (by simp) _).setCell (by simp) _).setCell (by simp) _
set_option maxRecDepth 100000 in
set_option maxHeartbeats 8000000 in
theorem ifunction_any (C : Option Addr) (m cc : Nat) (k n : Int) (A : Option Addr) (c b2 b3 : Nat) (l ka na : Int) (sa : List Tm) (a1 : Tm) (kb nb : Int) (sb : List Tm) (kr nr : Int) (sr : List Tm) (ty : Nat → Option Tm) (w : World) (h1 : lvS (ty 0) = some l) (h2 : ty 1 = some (.mk kb nb sb)) (hv : validT (.mk 3 0 [.mk ka na sa, .mk kb nb sb]) = true) (hT : TyOk b2 b3 w ty) (hr : Rd w A 0 [.mk ka na sa, a1])
    (hRec : Hid (∀ (Ao : Option Addr) (co : Nat) (w' : World), Below w.heap.size w w' → Rd w' Ao 0 [.mk ka na sa, .mk kb nb sb] → Calls Tryz.prog 71 #[.slice C m cc, .agg #[.int .i64 3, .int .i64 0, .slice Ao 2 co]] w' (GotI w' kr nr sr))) :
    Calls Tryz.prog 128 #[.agg #[.slice C m cc, .int .i64 k, .int .i64 n, .slice A 2 c, .func (.func 95) #[] #[.pointer (some ⟨b2, 0, none⟩), .pointer (some ⟨b3, 0, none⟩)]]] w (GotI w 3 0 [.mk ka na sa, .mk kb nb sb]) := by
  have hv' := hide hv
  replace h1 := hide h1
  replace h2 := hide h2
  clear hv
  obtain ⟨ba, oa, x1, x2, x3, Aa, ca, rfl, hk1, i1, i2, i3, hla, ra0⟩ := hr.at_ (j := 0) (by simp)
  injection hk1 with e1 e2 e3
  subst e1 e2 e3
  simp only [Nat.zero_mul, Nat.add_zero, Nat.one_mul, Nat.reduceMul] at i1 i2 i3
  go_enter Tryz.func128, Tryz.ntmps128
  go_upto_region 7 with (first
    | (go_at_call 95; have _t := tok1; refine (hT 1 kb nb sb (by omega) h2.out _ g1).mono ?_; rintro e w2 ⟨Ab, cb, rfl, hlb, rb1, hb2⟩; have hZ2 := hZ1.keep hb2; have hJ2 := hJ1.keep hb2; have g2 := g1.trans (hb2.mono g1.size))
    | (go_at_call 150; refine (ilevel_any C m cc k n _ 2 c b2 b3 0 (by omega) l ty _ h1.out (hT.below (((Below.refl _ _).alloc (Nat.le_refl _) _).alloc (by simp) _))).mono ?_; rintro e w1 ⟨rfl, hb1⟩; have hZ1 : Blk w1 (w.heap.size + 1) #[.int .i64 0, .int .i64 0, .slice none 0 0] := (Blk.new_ _ 27 _ (by simp)).keep hb1; have hJ1 := ((Blk.new_ w 104 #[.slice C m cc, .int .i64 k, .int .i64 n, .slice (some ⟨ba, oa, none⟩) 2 c, .func (.func 95) #[] #[.pointer (some ⟨b2, 0, none⟩), .pointer (some ⟨b3, 0, none⟩)]] rfl).alloc (.cells #[.int .i64 0, .int .i64 0, .slice none 0 0] 27)).keep hb1; have g1 : Below w.heap.size w w1 := (((Below.refl _ _).alloc (Nat.le_refl _) _).alloc (by simp) _).trans (hb1.mono (by simp; omega)); have j0 := hJ1.at_ (i := 0) rfl; have j1 := hJ1.at_ (i := 1) rfl; have j2 := hJ1.at_ (i := 2) rfl; have j3 := hJ1.at_ (i := 3) rfl; have j4 := hJ1.at_ (i := 4) rfl; have tok1 := trivial))
  refine name_world ?_
  intro wx hwx
  have hT6 : Blk wx w2.heap.size #[.int .i64 kb, .int .i64 nb, .slice Ab sb.length cb] := by rw [hwx]; exact Blk.new_ _ 27 _ rfl
  have hZx := (show Blk wx (w.heap.size + 1) _ by rw [hwx]; exact hZ2.alloc _)
  have hJx := (show Blk wx w.heap.size _ by rw [hwx]; exact hJ2.alloc _)
  have gx : Below w.heap.size w wx := by rw [hwx]; exact g2.alloc g2.size _
  have rb : Rd wx Ab 0 sb := by rw [hwx]; exact rb1.alloc _
  clear hwx
  have ra := ra0.below gx
  have u3 := rule_of (hJx.at_ (i := 3) rfl)
  have v0 := rule_of hT6.three.1
  have v1 := rule_of hT6.three.2.1
  have v2 := rule_of hT6.three.2.2
  have y0 := rule_of ((Keeps.of_below gx) _ _ i1)
  have y1 := rule_of ((Keeps.of_below gx) _ _ i2)
  have y2 := rule_of ((Keeps.of_below gx) _ _ i3)
  go_cut [7, 8] (fun vc vp wy => ∃ (gz : Nat) (Az : Option Addr) (cz : Nat), vp = .pointer (some ⟨gz, 0, none⟩) ∧ vc = .int .i64 0 ∧ Blk wy gz #[.int .i64 3, .int .i64 0, .slice Az 2 cz] ∧ Rd wy Az 0 [.mk ka na sa, .mk kb nb sb] ∧ Below wx.heap.size wx wy ∧ wx.heap.size ≤ gz)
  case first =>
    obtain ⟨q0, hq0⟩ : ∃ q0, q0 = wx.drew := ⟨_, rfl⟩
    have bq0 : Below wx.heap.size wx q0 := by rw [hq0]; exact (Below.refl _ _).drew
    refine gC_start (fun w' => Below wx.heap.size wx w') [9, 10, 11, 13, 14] 15 (by kernel_rfl) rfl ?_
    refine gC_take [0, 1, 2, 3, 4, 5] (f := 9) (l' := #[true, true, true, true, true, true, false, false, false, false, false, false, false, false, false]) (lT := [_, _, _, _, _, _]) (by rw [← hq0]; exact bq0) rfl (by kernel_rfl) (by kernel_rfl) (by kernel_rfl) rfl (fun _ _ d _ _ h => by cases d <;> exact h) ?_
    repeat (first | ((refine takeY_skip (a' := ?_) ?_ ?_ ?_); (rotate_left); (· (simp [Region.wanted, yielded, Go.undef]; done)); (· (simp only [List.getElem_toArray, List.getElem_cons_zero, List.getElem_cons_succ, Act.put, List.setIfInBounds_toArray, List.set_cons_zero, List.set_cons_succ]; exact rfl))) | ((refine takeY_step (v := ?_) (a' := ?_) ?_ ?_ ?_ ?_); (rotate_left 2); (· (simp [Region.wanted, yielded, Go.undef]; done)); (· (intro w' hS'; go_simp; try (with_reducible rfl))); (· (simp only [List.getElem_toArray, List.getElem_cons_zero, List.getElem_cons_succ, Act.put, List.setIfInBounds_toArray, List.set_cons_zero, List.set_cons_succ]; exact rfl))))
    refine takeY_nil ?_
    rw [← hq0]
    clear hq0
    refine gC_two (i := 6) (j := 12) (by kernel_rfl) rfl rfl ?_ ?_
    · go_wp2_with fail
      refine name_midw ?_
      intro q1 hn
      have hbq1 : Below q0.heap.size q0 q1 := by rw [hn]; exact (Below.refl _ _).alloc (Nat.le_refl _) _
      have zq1 : Blk q1 q0.heap.size #[.int .i64 ka, .int .i64 na, .slice Aa sa.length ca, .int .i64 kb, .int .i64 nb, .slice Ab sb.length cb] := by rw [hn]; exact Blk.new_ _ 27 _ rfl
      have seq1 : q0.heap.size < q1.heap.size := by rw [hn]; simp
      clear hn
      have rq1 : Rd q1 (some ⟨q0.heap.size, 0, none⟩) 0 [.mk ka na sa, .mk kb nb sb] := rd_row2 (s0 := sa) (s1 := sb) zq1 hla hlb ((ra.below bq0).below hbq1) ((rb.below bq0).below hbq1)
      have bq1 : Below wx.heap.size wx q1 := bq0.trans (hbq1.mono bq0.size)
      have lq1 := hbq1.size
      refine mid_intro bq1 ?_
      refine gC_two (i := 7) (j := 12) (by kernel_rfl) rfl rfl ?_ ?_
      · go_wp2_with (go_at_call 26; refine (inode_any 3 _ ⟨_, _, _, rfl⟩ _).mono ?_; rintro e q2 ⟨rfl, hbq2⟩)
        have Pq2 := rq1.below hbq2
        have bq2 : Below wx.heap.size wx q2 := bq1.trans (hbq2.mono bq1.size)
        have lq2 := hbq2.size
        refine mid_intro bq2 ?_
        refine gC_two (i := 8) (j := 12) (by kernel_rfl) rfl rfl ?_ ?_
        · go_wp2_with (go_at_call 124; refine (imade_yes 3 0 [.mk ka na sa, .mk kb nb sb] _ 2 _ hv'.out Pq2).mono ?_; rintro e q3 ⟨rfl, hbq3⟩)
          have Pq3 := Pq2.below hbq3
          have bq3 : Below wx.heap.size wx q3 := bq2.trans (hbq3.mono bq2.size)
          have lq3 := hbq3.size
          refine mid_intro bq3 ?_
          refine gC_takeT [9, 10, 11] (f := 3) (l' := #[true, true, true, true, true, true, true, true, true, true, true, true, false, false, false]) (lT := [_, _, _]) rfl (by kernel_rfl) (by kernel_rfl) (by kernel_rfl) rfl (fun _ _ d _ _ h => by cases d <;> exact h) ?_
          repeat (first | ((refine takeY_skip (a' := ?_) ?_ ?_ ?_); (rotate_left); (· (simp [Region.wanted, yielded, Go.undef]; done)); (· (simp only [List.getElem_toArray, List.getElem_cons_zero, List.getElem_cons_succ, Act.put, List.setIfInBounds_toArray, List.set_cons_zero, List.set_cons_succ]; exact rfl))) | ((refine takeY_step (v := ?_) (a' := ?_) ?_ ?_ ?_ ?_); (rotate_left 2); (· (simp [Region.wanted, yielded, Go.undef]; done)); (· (intro w' hS'; go_simp; try (with_reducible rfl))); (· (simp only [List.getElem_toArray, List.getElem_cons_zero, List.getElem_cons_succ, Act.put, List.setIfInBounds_toArray, List.set_cons_zero, List.set_cons_succ]; exact rfl))))
          refine takeY_nil ?_
          refine gC_one (i := 12) (by kernel_rfl) rfl ?_
          · go_wp2_with fail
            refine name_midw ?_
            intro q4 hn
            have hbq4 : Below q3.heap.size q3 q4 := by rw [hn]; exact (Below.refl _ _).alloc (Nat.le_refl _) _
            have zq4 : Blk q4 q3.heap.size #[.int .i64 0, .int .i64 0, .slice none 0 0] := by rw [hn]; exact Blk.new_ _ 27 _ rfl
            have seq4 : q3.heap.size < q4.heap.size := by rw [hn]; simp
            clear hn
            have Pq4 := Pq3.below hbq4
            have bq4 : Below wx.heap.size wx q4 := bq3.trans (hbq4.mono bq3.size)
            have lq4 := hbq4.size
            refine mid_intro bq4 ?_
            refine gC_end [13, 14] (lB := [_, _]) (by simp) (by kernel_rfl) (by kernel_rfl) rfl ?_
            obtain ⟨d0, d1, d2⟩ := zq4.three
            have e0 := zq4.frozen 0
            have e1 := zq4.frozen 1
            have e2 := zq4.frozen 2
            have szb : wx.heap.size ≤ q3.heap.size := by first | exact bq0.size | exact bq3.size
            go_wp2_with fail
            go_meet
            exact ⟨q3.heap.size, some ⟨q0.heap.size, 0, none⟩, 2, rfl, rfl, ((zq4.set_ 0 _).set_ 1 _).set_ 2 _, rd_set0 zq4 hv'.out Pq4 _ _ _, ((bq4.setCell szb _).setCell szb _).setCell szb _, szb⟩
        · go_wp2_with fail
          refine name_midw ?_
          intro q5 hn
          have hbq5 : Below q2.heap.size q2 q5 := by rw [hn]; exact (Below.refl _ _).alloc (Nat.le_refl _) _
          have zq5 : Blk q5 q2.heap.size #[.int .i64 0, .int .i64 0, .slice none 0 0] := by rw [hn]; exact Blk.new_ _ 27 _ rfl
          have seq5 : q2.heap.size < q5.heap.size := by rw [hn]; simp
          clear hn
          have Pq5 := Pq2.below hbq5
          have bq5 : Below wx.heap.size wx q5 := bq2.trans (hbq5.mono bq2.size)
          have lq5 := hbq5.size
          refine mid_intro bq5 ?_
          refine gC_one (i := 8) (by kernel_rfl) rfl ?_
          · go_wp2_with (go_at_call 124; refine (imade_yes 3 0 [.mk ka na sa, .mk kb nb sb] _ 2 _ hv'.out Pq5).mono ?_; rintro e q6 ⟨rfl, hbq6⟩)
            have Pq6 := Pq5.below hbq6
            have Zq6 := zq5.keep hbq6
            have bq6 : Below wx.heap.size wx q6 := bq5.trans (hbq6.mono bq5.size)
            have lq6 := hbq6.size
            refine mid_intro bq6 ?_
            refine gC_takeT [9, 10, 11] (f := 2) (l' := #[true, true, true, true, true, true, true, true, true, true, true, true, true, false, false]) (lT := [_, _, _]) rfl (by kernel_rfl) (by kernel_rfl) (by kernel_rfl) rfl (fun _ _ d _ _ h => by cases d <;> exact h) ?_
            repeat (first | ((refine takeY_skip (a' := ?_) ?_ ?_ ?_); (rotate_left); (· (simp [Region.wanted, yielded, Go.undef]; done)); (· (simp only [List.getElem_toArray, List.getElem_cons_zero, List.getElem_cons_succ, Act.put, List.setIfInBounds_toArray, List.set_cons_zero, List.set_cons_succ]; exact rfl))) | ((refine takeY_step (v := ?_) (a' := ?_) ?_ ?_ ?_ ?_); (rotate_left 2); (· (simp [Region.wanted, yielded, Go.undef]; done)); (· (intro w' hS'; go_simp; try (with_reducible rfl))); (· (simp only [List.getElem_toArray, List.getElem_cons_zero, List.getElem_cons_succ, Act.put, List.setIfInBounds_toArray, List.set_cons_zero, List.set_cons_succ]; exact rfl))))
            refine takeY_nil ?_
            refine gC_end [13, 14] (lB := [_, _]) (by simp) (by kernel_rfl) (by kernel_rfl) rfl ?_
            obtain ⟨d0, d1, d2⟩ := Zq6.three
            have e0 := Zq6.frozen 0
            have e1 := Zq6.frozen 1
            have e2 := Zq6.frozen 2
            have szb : wx.heap.size ≤ q2.heap.size := by first | exact bq0.size | exact bq2.size
            go_wp2_with fail
            go_meet
            exact ⟨q2.heap.size, some ⟨q0.heap.size, 0, none⟩, 2, rfl, rfl, ((Zq6.set_ 0 _).set_ 1 _).set_ 2 _, rd_set0 Zq6 hv'.out Pq6 _ _ _, ((bq6.setCell szb _).setCell szb _).setCell szb _, szb⟩
      · go_wp2_with fail
        refine name_midw ?_
        intro q7 hn
        have hbq7 : Below q1.heap.size q1 q7 := by rw [hn]; exact (Below.refl _ _).alloc (Nat.le_refl _) _
        have zq7 : Blk q7 q1.heap.size #[.int .i64 0, .int .i64 0, .slice none 0 0] := by rw [hn]; exact Blk.new_ _ 27 _ rfl
        have seq7 : q1.heap.size < q7.heap.size := by rw [hn]; simp
        clear hn
        have Pq7 := rq1.below hbq7
        have bq7 : Below wx.heap.size wx q7 := bq1.trans (hbq7.mono bq1.size)
        have lq7 := hbq7.size
        refine mid_intro bq7 ?_
        refine gC_one (i := 7) (by kernel_rfl) rfl ?_
        · go_wp2_with (go_at_call 26; refine (inode_any 3 _ ⟨_, _, _, rfl⟩ _).mono ?_; rintro e q8 ⟨rfl, hbq8⟩)
          have Pq8 := Pq7.below hbq8
          have Zq8 := zq7.keep hbq8
          have bq8 : Below wx.heap.size wx q8 := bq7.trans (hbq8.mono bq7.size)
          have lq8 := hbq8.size
          refine mid_intro bq8 ?_
          refine gC_one (i := 8) (by kernel_rfl) rfl ?_
          · go_wp2_with (go_at_call 124; refine (imade_yes 3 0 [.mk ka na sa, .mk kb nb sb] _ 2 _ hv'.out Pq8).mono ?_; rintro e q9 ⟨rfl, hbq9⟩)
            have Pq9 := Pq8.below hbq9
            have Zq9 := Zq8.keep hbq9
            have bq9 : Below wx.heap.size wx q9 := bq8.trans (hbq9.mono bq8.size)
            have lq9 := hbq9.size
            refine mid_intro bq9 ?_
            refine gC_takeT [9, 10, 11] (f := 2) (l' := #[true, true, true, true, true, true, true, true, true, true, true, true, true, false, false]) (lT := [_, _, _]) rfl (by kernel_rfl) (by kernel_rfl) (by kernel_rfl) rfl (fun _ _ d _ _ h => by cases d <;> exact h) ?_
            repeat (first | ((refine takeY_skip (a' := ?_) ?_ ?_ ?_); (rotate_left); (· (simp [Region.wanted, yielded, Go.undef]; done)); (· (simp only [List.getElem_toArray, List.getElem_cons_zero, List.getElem_cons_succ, Act.put, List.setIfInBounds_toArray, List.set_cons_zero, List.set_cons_succ]; exact rfl))) | ((refine takeY_step (v := ?_) (a' := ?_) ?_ ?_ ?_ ?_); (rotate_left 2); (· (simp [Region.wanted, yielded, Go.undef]; done)); (· (intro w' hS'; go_simp; try (with_reducible rfl))); (· (simp only [List.getElem_toArray, List.getElem_cons_zero, List.getElem_cons_succ, Act.put, List.setIfInBounds_toArray, List.set_cons_zero, List.set_cons_succ]; exact rfl))))
            refine takeY_nil ?_
            refine gC_end [13, 14] (lB := [_, _]) (by simp) (by kernel_rfl) (by kernel_rfl) rfl ?_
            obtain ⟨d0, d1, d2⟩ := Zq9.three
            have e0 := Zq9.frozen 0
            have e1 := Zq9.frozen 1
            have e2 := Zq9.frozen 2
            have szb : wx.heap.size ≤ q1.heap.size := by first | exact bq0.size | exact bq1.size
            go_wp2_with fail
            go_meet
            exact ⟨q1.heap.size, some ⟨q0.heap.size, 0, none⟩, 2, rfl, rfl, ((Zq9.set_ 0 _).set_ 1 _).set_ 2 _, rd_set0 Zq9 hv'.out Pq9 _ _ _, ((bq9.setCell szb _).setCell szb _).setCell szb _, szb⟩
    · go_wp2_with fail
      refine name_midw ?_
      intro q10 hn
      have hbq10 : Below q0.heap.size q0 q10 := by rw [hn]; exact (Below.refl _ _).alloc (Nat.le_refl _) _
      have zq10 : Blk q10 q0.heap.size #[.int .i64 0, .int .i64 0, .slice none 0 0] := by rw [hn]; exact Blk.new_ _ 27 _ rfl
      have seq10 : q0.heap.size < q10.heap.size := by rw [hn]; simp
      clear hn
      have bq10 : Below wx.heap.size wx q10 := bq0.trans (hbq10.mono bq0.size)
      have lq10 := hbq10.size
      refine mid_intro bq10 ?_
      refine gC_one (i := 6) (by kernel_rfl) rfl ?_
      · go_wp2_with fail
        refine name_midw ?_
        intro q11 hn
        have hbq11 : Below q10.heap.size q10 q11 := by rw [hn]; exact (Below.refl _ _).alloc (Nat.le_refl _) _
        have zq11 : Blk q11 q10.heap.size #[.int .i64 ka, .int .i64 na, .slice Aa sa.length ca, .int .i64 kb, .int .i64 nb, .slice Ab sb.length cb] := by rw [hn]; exact Blk.new_ _ 27 _ rfl
        have seq11 : q10.heap.size < q11.heap.size := by rw [hn]; simp
        clear hn
        have rq11 : Rd q11 (some ⟨q10.heap.size, 0, none⟩) 0 [.mk ka na sa, .mk kb nb sb] := rd_row2 (s0 := sa) (s1 := sb) zq11 hla hlb ((ra.below bq10).below hbq11) ((rb.below bq10).below hbq11)
        have Zq11 := zq10.keep hbq11
        have bq11 : Below wx.heap.size wx q11 := bq10.trans (hbq11.mono bq10.size)
        have lq11 := hbq11.size
        refine mid_intro bq11 ?_
        refine gC_one (i := 7) (by kernel_rfl) rfl ?_
        · go_wp2_with (go_at_call 26; refine (inode_any 3 _ ⟨_, _, _, rfl⟩ _).mono ?_; rintro e q12 ⟨rfl, hbq12⟩)
          have Zq12 := Zq11.keep hbq12
          have Pq12 := rq11.below hbq12
          have bq12 : Below wx.heap.size wx q12 := bq11.trans (hbq12.mono bq11.size)
          have lq12 := hbq12.size
          refine mid_intro bq12 ?_
          refine gC_one (i := 8) (by kernel_rfl) rfl ?_
          · go_wp2_with (go_at_call 124; refine (imade_yes 3 0 [.mk ka na sa, .mk kb nb sb] _ 2 _ hv'.out Pq12).mono ?_; rintro e q13 ⟨rfl, hbq13⟩)
            have Zq13 := Zq12.keep hbq13
            have Pq13 := Pq12.below hbq13
            have bq13 : Below wx.heap.size wx q13 := bq12.trans (hbq13.mono bq12.size)
            have lq13 := hbq13.size
            refine mid_intro bq13 ?_
            refine gC_takeT [9, 10, 11] (f := 2) (l' := #[true, true, true, true, true, true, true, true, true, true, true, true, true, false, false]) (lT := [_, _, _]) rfl (by kernel_rfl) (by kernel_rfl) (by kernel_rfl) rfl (fun _ _ d _ _ h => by cases d <;> exact h) ?_
            repeat (first | ((refine takeY_skip (a' := ?_) ?_ ?_ ?_); (rotate_left); (· (simp [Region.wanted, yielded, Go.undef]; done)); (· (simp only [List.getElem_toArray, List.getElem_cons_zero, List.getElem_cons_succ, Act.put, List.setIfInBounds_toArray, List.set_cons_zero, List.set_cons_succ]; exact rfl))) | ((refine takeY_step (v := ?_) (a' := ?_) ?_ ?_ ?_ ?_); (rotate_left 2); (· (simp [Region.wanted, yielded, Go.undef]; done)); (· (intro w' hS'; go_simp; try (with_reducible rfl))); (· (simp only [List.getElem_toArray, List.getElem_cons_zero, List.getElem_cons_succ, Act.put, List.setIfInBounds_toArray, List.set_cons_zero, List.set_cons_succ]; exact rfl))))
            refine takeY_nil ?_
            refine gC_end [13, 14] (lB := [_, _]) (by simp) (by kernel_rfl) (by kernel_rfl) rfl ?_
            obtain ⟨d0, d1, d2⟩ := Zq13.three
            have e0 := Zq13.frozen 0
            have e1 := Zq13.frozen 1
            have e2 := Zq13.frozen 2
            have szb : wx.heap.size ≤ q0.heap.size := by first | exact bq0.size | exact bq0.size
            go_wp2_with fail
            go_meet
            exact ⟨q0.heap.size, some ⟨q10.heap.size, 0, none⟩, 2, rfl, rfl, ((Zq13.set_ 0 _).set_ 1 _).set_ 2 _, rd_set0 Zq13 hv'.out Pq13 _ _ _, ((bq13.setCell szb _).setCell szb _).setCell szb _, szb⟩
  case rest =>
    obtain ⟨gz, Az, cz, rfl, rfl, hTz, rz, hxy, hgz⟩ := hcut
    have gy := gx.trans (hxy.mono gx.size)
    have hZy := hZx.keep hxy
    have hJy := hJx.keep hxy
    have j0 := hJy.at_ (i := 0) rfl
    have j1 := hJy.at_ (i := 1) rfl
    have j2 := hJy.at_ (i := 2) rfl
    have j3 := hJy.at_ (i := 3) rfl
    have j4 := hJy.at_ (i := 4) rfl
    obtain ⟨p0, p1, p2⟩ := hTz.three
    have lzz := hTz.lt
    go_wp2_with (go_at_call 71; refine (hRec.out Az cz _ gy rz).mono ?_; rintro e w9 ⟨A9, c9, rfl, hl9, r9, hb9⟩; have hZ9 := hZy.keep hb9; have g9 := gy.trans (hb9.mono gy.size); have rz9 := rz.below hb9; have hT9 := hTz.keep hb9; clear p0 p1 p2; obtain ⟨p0, p1, p2⟩ := hT9.three; obtain ⟨d0, d1, d2⟩ := hZ9.three; have e0 := hZ9.frozen 0; have e1 := hZ9.frozen 1; have e2 := hZ9.frozen 2; have lz9 := hZ9.lt; have lt9 := hT9.lt)
    have hyy := fun (o : Obj) => (((((hZ9.set_ 0 (.int .i64 3)).set_ 1 (.int .i64 0)).set_ 2 (.slice Az 2 cz)).alloc o : Blk _ _ #[.int .i64 3, .int .i64 0, .slice Az 2 cz])).three
    refine bodyPost_ret (v := .tuple #[.agg #[.int .i64 3, .int .i64 0, .slice Az 2 cz], .int .i64 0]) (by simp [results, Tryz.results128, go_sem, hyy]) rfl ⟨Az, cz, rfl, by simp, ?_, ?_⟩
    · exact (rd_set0 hZ9 hv'.out rz9 _ _ _).alloc _
    · exact (((g9.setCell (by simp) _).setCell (by simp) _).setCell (by simp) _).alloc (by simp [World.setCell]; exact g9.size) _
end Go.Proofs.YthgmofdfecioaaaGreatDoor
