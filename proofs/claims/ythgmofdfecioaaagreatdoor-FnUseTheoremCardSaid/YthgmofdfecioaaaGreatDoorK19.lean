/-
  Contracts of the functions that the law reaches, and plain lemmas. No condition.
-/
import Derived.Test.YthgmofdfecioaaaGreatDoorK18
namespace Go.Proofs.YthgmofdfecioaaaGreatDoor
set_option linter.unusedSimpArgs false
set_option linter.unusedVariables false
open Go.RowKit
set_option maxHeartbeats 8000000 in
set_option maxRecDepth 100000 in
theorem ctr_1 (n n0 ka na : Int) (kas : List Tm) (kb nb : Int) (kbs : List Tm) (k1 n1 : Int) (s1 : List Tm) (A : Option Addr) (c : Nat) (w : World) (hv : validT (.mk 5 n [.mk 4 n0 [.mk ka na kas, .mk kb nb kbs], .mk k1 n1 s1]) = true) (hr : Rd w A 0 [.mk 4 n0 [.mk ka na kas, .mk kb nb kbs], .mk k1 n1 s1]) :
    Calls Tryz.prog 98 #[.agg #[.int .i64 5, .int .i64 n, .slice A 2 c]] w (GotO w (substI 0 (.mk k1 n1 s1) (.mk kb nb kbs))) := by
  have har := hide (validT_arity hv).1
  have hrx := hide (show rdx 5 [.mk 4 n0 [.mk ka na kas, .mk kb nb kbs], .mk k1 n1 s1] = 1 from rfl)
  have hv1 := validT_kid hv (t := .mk k1 n1 s1) (by simp)
  have hvb := validT_kid (validT_kid hv (t := .mk 4 n0 [.mk ka na kas, .mk kb nb kbs]) (by simp)) (t := .mk kb nb kbs) (by simp)
  have hsh1 := hide (validT_shape hv1)
  have hshb := hide (validT_shape hvb)
  have hz1 := validT_size' hv1
  have hzb := validT_size' hvb
  clear hv hv1 hvb
  obtain ⟨b0, o0, k0', n0', ks0', A0, c0, hA0, hk0, i1, i2, i3, hl0, hr0⟩ := hr.at_ (j := 0) (by simp)
  injection hk0 with e1 e2 e3
  subst e1 e2 e3 hA0
  obtain ⟨b0', o0', k1', n1', ks1', A1, c1, hA1, hk1, j1, j2, j3, hl1, hr1⟩ := hr.at_ (j := 1) (by simp)
  injection hk1 with e1 e2 e3
  injection hA1 with hA1
  injection hA1 with hA2 hA3
  subst e1 e2 e3 hA2 hA3
  obtain ⟨bb, ob, kb', nb', kbs', Ab, cb, hAb, hkb, m1, m2, m3, hlb, hrb⟩ := hr0.at_ (j := 1) (by simp)
  injection hkb with e1 e2 e3
  subst e1 e2 e3 hAb
  simp only [Nat.zero_mul, Nat.add_zero, Nat.one_mul] at i1 i2 i3 j1 j2 j3 m1 m2 m3
  cases hres : substI 0 (.mk k1 n1 s1) (.mk kb nb kbs) with
  | none =>
    replace hres := hide hres
    go_enter Tryz.func98, Tryz.ntmps98
    go_wp2_with (go_at_call 75; refine (iRedex_any 5 n [.mk 4 n0 [.mk ka na kas, .mk kb nb kbs], .mk k1 n1 s1] _ c _ (by simp) har.out ((hr.alloc _).alloc _)).mono ?_; rw [hrx.out]; rintro e w1 ⟨rfl, hb1⟩; have hX := ((Blk.new_ w 27 #[.int .i64 5, .int .i64 n, .slice (some ⟨b0, o0, none⟩) 2 c] rfl).alloc (.cells #[.int .i64 0, .int .i64 0, .slice none 0 0] 27)).keep hb1; have hZ : Blk w1 (w.heap.size + 1) #[.int .i64 0, .int .i64 0, .slice none 0 0] := (Blk.new_ _ 27 _ (by simp)).keep hb1; have g1 : Below w.heap.size w w1 := (((Below.refl _ _).alloc (Nat.le_refl _) _).alloc (by simp) _).trans (hb1.mono (by simp; omega)))
    refine name_world ?_
    intro wx hwx
    have hXx := (show Blk wx w.heap.size _ by rw [hwx]; exact hX)
    have hZx := (show Blk wx (w.heap.size + 1) _ by rw [hwx]; exact hZ)
    have gx : Below w.heap.size w wx := by rw [hwx]; exact g1
    clear hwx
    have lz := hZx.lt
    have g0 := rule_of hXx.three.1
    have g1' := rule_of hXx.three.2.1
    have g2 := rule_of hXx.three.2.2
    have y2 := rule_of ((Keeps.of_below gx) _ _ i3)
    have m0 := rule_of ((Keeps.of_below gx) _ _ m1)
    have m1' := rule_of ((Keeps.of_below gx) _ _ m2)
    have m2' := rule_of ((Keeps.of_below gx) _ _ m3)
    have v0 := rule_of ((Keeps.of_below gx) _ _ j1)
    have v1 := rule_of ((Keeps.of_below gx) _ _ j2)
    have v2 := rule_of ((Keeps.of_below gx) _ _ j3)
    have r1 := hr1.below gx
    have rb := hrb.below gx
    clear i1 i2 i3 j1 j2 j3 m1 m2 m3
    obtain ⟨q0, hq0⟩ : ∃ q0, q0 = wx.drew := ⟨_, rfl⟩
    have bq0 : Below wx.heap.size wx q0 := by rw [hq0]; exact (Below.refl _ _).drew
    refine gC_start (fun w' => Below wx.heap.size wx w') [12, 13, 14, 15] 16 (by kernel_rfl) rfl ?_
    refine gC_take [0, 1, 2, 3, 4, 5, 6, 7, 8, 9, 10] (f := 5) (l' := #[true, true, true, true, true, true, true, true, true, true, true, false, false, false, false, false]) (lT := [_, _, _, _, _, _, _, _, _, _, _]) (by rw [← hq0]; exact bq0) rfl (by kernel_rfl) (by kernel_rfl) (by kernel_rfl) rfl (fun _ _ d _ _ h => by cases d <;> exact h) ?_
    repeat (first | ((refine takeY_skip (a' := ?_) ?_ ?_ ?_); (rotate_left); (· (simp [Region.wanted, yielded, Go.undef]; done)); (· (simp only [List.getElem_toArray, List.getElem_cons_zero, List.getElem_cons_succ, Act.put, List.setIfInBounds_toArray, List.set_cons_zero, List.set_cons_succ]; exact rfl))) | ((refine takeY_step (v := ?_) (a' := ?_) ?_ ?_ ?_ ?_); (rotate_left 2); (· (simp [Region.wanted, yielded, Go.undef]; done)); (· (intro w' hS'; go_simp; try (with_reducible rfl))); (· (simp only [List.getElem_toArray, List.getElem_cons_zero, List.getElem_cons_succ, Act.put, List.setIfInBounds_toArray, List.set_cons_zero, List.set_cons_succ]; exact rfl))))
    refine takeY_nil ?_
    rw [← hq0]
    clear hq0
    refine gC_one (i := 11) (by kernel_rfl) rfl ?_
    · go_wp2_with (go_at_call 28; refine (subst_any kb nb kbs Ab cb 0 k1 n1 s1 A1 c1 _ (by omega) hsh1.out (by omega) (r1.below bq0) (by omega) hshb.out (rb.below bq0)).mono ?_; rw [hres.out]; intro e q1 hgo; obtain ⟨rfl, hbq1⟩ := (gotO_none hgo))
      have bq1 : Below wx.heap.size wx q1 := bq0.trans (hbq1.mono bq0.size)
      have lq1 := hbq1.size
      refine mid_intro bq1 ?_
      refine gC_takeT [12, 13] (f := 2) (l' := #[true, true, true, true, true, true, true, true, true, true, true, true, true, true, false, false]) (lT := [_, _]) rfl (by kernel_rfl) (by kernel_rfl) (by kernel_rfl) rfl (fun _ _ d _ _ h => by cases d <;> exact h) ?_
      repeat (first | ((refine takeY_skip (a' := ?_) ?_ ?_ ?_); (rotate_left); (· (simp [Region.wanted, yielded, Go.undef]; done)); (· (simp only [List.getElem_toArray, List.getElem_cons_zero, List.getElem_cons_succ, Act.put, List.setIfInBounds_toArray, List.set_cons_zero, List.set_cons_succ]; exact rfl))) | ((refine takeY_step (v := ?_) (a' := ?_) ?_ ?_ ?_ ?_); (rotate_left 2); (· (simp [Region.wanted, yielded, Go.undef]; done)); (· (intro w' hS'; go_simp; try (with_reducible rfl))); (· (simp only [List.getElem_toArray, List.getElem_cons_zero, List.getElem_cons_succ, Act.put, List.setIfInBounds_toArray, List.set_cons_zero, List.set_cons_succ]; exact rfl))))
      refine takeY_nil ?_
      refine gC_end [14, 15] (lB := [_, _]) (by simp) (by kernel_rfl) (by kernel_rfl) rfl ?_
      have hZ2 := hZx.keep bq1
      obtain ⟨d0, d1, d2⟩ := hZ2.three
      have e0 := hZ2.frozen 0
      have e1 := hZ2.frozen 1
      have e2 := hZ2.frozen 2
      have gf := gx.trans (bq1.mono gx.size)
      have sx := gx.size
      go_wp2_with fail
      refine bodyPost_ret (v := .tuple #[zeroV, .bool false]) (by simp [results, Tryz.results98, go_sem, d0, d1, d2, zeroV]) rfl ⟨rfl, ?_⟩
      exact ((gf.setCell (by simp) _).setCell (by simp) _).setCell (by simp) _
  | some r =>
    obtain ⟨kr, nr, rs⟩ := r
    replace hres := hide hres
    go_enter Tryz.func98, Tryz.ntmps98
    go_wp2_with (go_at_call 75; refine (iRedex_any 5 n [.mk 4 n0 [.mk ka na kas, .mk kb nb kbs], .mk k1 n1 s1] _ c _ (by simp) har.out ((hr.alloc _).alloc _)).mono ?_; rw [hrx.out]; rintro e w1 ⟨rfl, hb1⟩; have hX := ((Blk.new_ w 27 #[.int .i64 5, .int .i64 n, .slice (some ⟨b0, o0, none⟩) 2 c] rfl).alloc (.cells #[.int .i64 0, .int .i64 0, .slice none 0 0] 27)).keep hb1; have hZ : Blk w1 (w.heap.size + 1) #[.int .i64 0, .int .i64 0, .slice none 0 0] := (Blk.new_ _ 27 _ (by simp)).keep hb1; have g1 : Below w.heap.size w w1 := (((Below.refl _ _).alloc (Nat.le_refl _) _).alloc (by simp) _).trans (hb1.mono (by simp; omega)))
    refine name_world ?_
    intro wx hwx
    have hXx := (show Blk wx w.heap.size _ by rw [hwx]; exact hX)
    have hZx := (show Blk wx (w.heap.size + 1) _ by rw [hwx]; exact hZ)
    have gx : Below w.heap.size w wx := by rw [hwx]; exact g1
    clear hwx
    have lz := hZx.lt
    have g0 := rule_of hXx.three.1
    have g1' := rule_of hXx.three.2.1
    have g2 := rule_of hXx.three.2.2
    have y2 := rule_of ((Keeps.of_below gx) _ _ i3)
    have m0 := rule_of ((Keeps.of_below gx) _ _ m1)
    have m1' := rule_of ((Keeps.of_below gx) _ _ m2)
    have m2' := rule_of ((Keeps.of_below gx) _ _ m3)
    have v0 := rule_of ((Keeps.of_below gx) _ _ j1)
    have v1 := rule_of ((Keeps.of_below gx) _ _ j2)
    have v2 := rule_of ((Keeps.of_below gx) _ _ j3)
    have r1 := hr1.below gx
    have rb := hrb.below gx
    clear i1 i2 i3 j1 j2 j3 m1 m2 m3
    obtain ⟨q0, hq0⟩ : ∃ q0, q0 = wx.drew := ⟨_, rfl⟩
    have bq0 : Below wx.heap.size wx q0 := by rw [hq0]; exact (Below.refl _ _).drew
    refine gC_start (fun w' => Below wx.heap.size wx w') [12, 13, 14, 15] 16 (by kernel_rfl) rfl ?_
    refine gC_take [0, 1, 2, 3, 4, 5, 6, 7, 8, 9, 10] (f := 5) (l' := #[true, true, true, true, true, true, true, true, true, true, true, false, false, false, false, false]) (lT := [_, _, _, _, _, _, _, _, _, _, _]) (by rw [← hq0]; exact bq0) rfl (by kernel_rfl) (by kernel_rfl) (by kernel_rfl) rfl (fun _ _ d _ _ h => by cases d <;> exact h) ?_
    repeat (first | ((refine takeY_skip (a' := ?_) ?_ ?_ ?_); (rotate_left); (· (simp [Region.wanted, yielded, Go.undef]; done)); (· (simp only [List.getElem_toArray, List.getElem_cons_zero, List.getElem_cons_succ, Act.put, List.setIfInBounds_toArray, List.set_cons_zero, List.set_cons_succ]; exact rfl))) | ((refine takeY_step (v := ?_) (a' := ?_) ?_ ?_ ?_ ?_); (rotate_left 2); (· (simp [Region.wanted, yielded, Go.undef]; done)); (· (intro w' hS'; go_simp; try (with_reducible rfl))); (· (simp only [List.getElem_toArray, List.getElem_cons_zero, List.getElem_cons_succ, Act.put, List.setIfInBounds_toArray, List.set_cons_zero, List.set_cons_succ]; exact rfl))))
    refine takeY_nil ?_
    rw [← hq0]
    clear hq0
    refine gC_one (i := 11) (by kernel_rfl) rfl ?_
    · go_wp2_with (go_at_call 28; refine (subst_any kb nb kbs Ab cb 0 k1 n1 s1 A1 c1 _ (by omega) hsh1.out (by omega) (r1.below bq0) (by omega) hshb.out (rb.below bq0)).mono ?_; rw [hres.out]; intro e q1 hgo; obtain ⟨A7, c7, rfl, hl7, hfq1, hbq1⟩ := gotO_some hgo)
      have bq1 : Below wx.heap.size wx q1 := bq0.trans (hbq1.mono bq0.size)
      have lq1 := hbq1.size
      refine mid_intro bq1 ?_
      refine gC_takeT [12, 13] (f := 2) (l' := #[true, true, true, true, true, true, true, true, true, true, true, true, true, true, false, false]) (lT := [_, _]) rfl (by kernel_rfl) (by kernel_rfl) (by kernel_rfl) rfl (fun _ _ d _ _ h => by cases d <;> exact h) ?_
      repeat (first | ((refine takeY_skip (a' := ?_) ?_ ?_ ?_); (rotate_left); (· (simp [Region.wanted, yielded, Go.undef]; done)); (· (simp only [List.getElem_toArray, List.getElem_cons_zero, List.getElem_cons_succ, Act.put, List.setIfInBounds_toArray, List.set_cons_zero, List.set_cons_succ]; exact rfl))) | ((refine takeY_step (v := ?_) (a' := ?_) ?_ ?_ ?_ ?_); (rotate_left 2); (· (simp [Region.wanted, yielded, Go.undef]; done)); (· (intro w' hS'; go_simp; try (with_reducible rfl))); (· (simp only [List.getElem_toArray, List.getElem_cons_zero, List.getElem_cons_succ, Act.put, List.setIfInBounds_toArray, List.set_cons_zero, List.set_cons_succ]; exact rfl))))
      refine takeY_nil ?_
      refine gC_end [14, 15] (lB := [_, _]) (by simp) (by kernel_rfl) (by kernel_rfl) rfl ?_
      have hZ2 := hZx.keep bq1
      obtain ⟨d0, d1, d2⟩ := hZ2.three
      have e0 := hZ2.frozen 0
      have e1 := hZ2.frozen 1
      have e2 := hZ2.frozen 2
      have gf := gx.trans (bq1.mono gx.size)
      have sx := gx.size
      go_wp2_with fail
      refine bodyPost_ret (v := .tuple #[.agg #[.int .i64 kr, .int .i64 nr, .slice A7 rs.length c7], .bool true]) (by simp [results, Tryz.results98, go_sem, d0, d1, d2, zeroV]) rfl ⟨A7, c7, rfl, hl7, ?_, ?_⟩
      · exact ((((hfq1.mono (by have := bq0.size; omega)).setCell (by simp; omega) _).setCell (by simp; omega) _).setCell (by simp; omega) _).mono (by omega)
      · exact ((gf.setCell (by simp) _).setCell (by simp) _).setCell (by simp) _
set_option maxHeartbeats 8000000 in
set_option maxRecDepth 100000 in
theorem ctr_2 (n : Int) (t0 : Tm) (k1 n1 : Int) (s1 : List Tm) (t2 : Tm) (n3 : Int) (s3 : List Tm) (A : Option Addr) (c : Nat) (w : World) (hv : validT (.mk 9 n [t0, .mk k1 n1 s1, t2, .mk 7 n3 s3]) = true) (hr : Rd w A 0 [t0, .mk k1 n1 s1, t2, .mk 7 n3 s3]) :
    Calls Tryz.prog 98 #[.agg #[.int .i64 9, .int .i64 n, .slice A 4 c]] w (GotO w (some (.mk k1 n1 s1))) := by
  have har := hide (validT_arity hv).1
  have hrx := hide (show rdx 9 [t0, .mk k1 n1 s1, t2, .mk 7 n3 s3] = 2 from rfl)
  have hv1 := hide (validT_kid hv (t := .mk k1 n1 s1) (by simp))
  have hz1 := validT_size' hv1.out
  clear hv
  obtain ⟨b0, o0, k0', n0', ks0', A0, c0, hA0, hk0, i1, i2, i3, hl0, hr0⟩ := hr.at_ (j := 1) (by simp)
  injection hk0 with e1 e2 e3
  subst e1 e2 e3 hA0
  simp only [Nat.zero_mul, Nat.add_zero, Nat.one_mul, Nat.reduceMul] at i1 i2 i3
  have q5 := ((Keeps.alloc w (.cells #[.int .i64 9, .int .i64 n, .slice (some ⟨b0, o0, none⟩) 4 c] 27)).trans (Keeps.alloc _ (.cells #[.int .i64 0, .int .i64 0, .slice none 0 0] 27)))
  go_enter Tryz.func98, Tryz.ntmps98
  go_wp2_with (first
    | (go_at_call 25; have _t := tok2; refine (valid_yes k1 n1 s1 A8 c8 _ (by omega) hf8.rd hv1.out).mono ?_; rintro e w9 ⟨rfl, hb9⟩; have hZ9 := hZ8.keep hb9; have g9 := g8.trans (hb9.mono g8.size); have hf9 := hf8.below hb9; obtain ⟨d0, d1, d2⟩ := hZ9.three; have e0 := hZ9.frozen 0; have e1 := hZ9.frozen 1; have e2 := hZ9.frozen 2)
    | (go_at_call 73; have _t := tok1; refine (own_any (s1.length + sizes s1 + 1) k1 n1 s1 A0 c0 _ (by omega) (by omega) rP).mono ?_; rintro e w8 ⟨A8, c8, rfl, hl8, hf8, hb8⟩; have hZ8 := hZ.keep hb8; have g8 := g1.trans (hb8.mono g1.size); have tok2 := trivial)
    | (go_at_call 75; refine (iRedex_any 9 n [t0, .mk k1 n1 s1, t2, .mk 7 n3 s3] _ c _ (by simp) har.out ((hr.alloc _).alloc _)).mono ?_; rw [hrx.out]; rintro e w1 ⟨rfl, hb1⟩; have hX := ((Blk.new_ w 27 #[.int .i64 9, .int .i64 n, .slice (some ⟨b0, o0, none⟩) 4 c] rfl).alloc (.cells #[.int .i64 0, .int .i64 0, .slice none 0 0] 27)).keep hb1; have hZ : Blk w1 (w.heap.size + 1) #[.int .i64 0, .int .i64 0, .slice none 0 0] := (Blk.new_ _ 27 _ (by simp)).keep hb1; have g1 : Below w.heap.size w w1 := (((Below.refl _ _).alloc (Nat.le_refl _) _).alloc (by simp) _).trans (hb1.mono (by simp; omega)); obtain ⟨x0, x1, x2⟩ := hX.three; have y0 := (Keeps.of_below g1) _ _ i1; have y1 := (Keeps.of_below g1) _ _ i2; have y2 := (Keeps.of_below g1) _ _ i3;  have rP := hr0.below g1; have tok1 := trivial))
  have sz := g1.size
  have s8 := hb8.size
  refine bodyPost_ret (v := .tuple #[.agg #[.int .i64 k1, .int .i64 n1, .slice A8 s1.length c8], .bool true]) (by simp [results, Tryz.results98, go_sem, d0, d1, d2]) rfl ⟨A8, c8, rfl, hl8, ?_, ?_⟩
  · exact (((hf9.setCell (by have := hZ.lt; simp; omega) _).setCell (by have := hZ.lt; simp; omega) _).setCell (by have := hZ.lt; simp; omega) _).mono sz
  · exact ((g9.setCell (by simp) _).setCell (by simp) _).setCell (by simp) _
set_option maxHeartbeats 8000000 in
set_option maxRecDepth 100000 in
theorem ctr_4 (n : Int) (t0 : Tm) (n3 : Int) (s3 : List Tm) (k1 n1 : Int) (s1 : List Tm) (A : Option Addr) (c : Nat) (w : World) (hv : validT (.mk 12 n [t0, .mk 11 n3 s3, .mk k1 n1 s1]) = true) (hr : Rd w A 0 [t0, .mk 11 n3 s3, .mk k1 n1 s1]) :
    Calls Tryz.prog 98 #[.agg #[.int .i64 12, .int .i64 n, .slice A 3 c]] w (GotO w (some (.mk k1 n1 s1))) := by
  have har := hide (validT_arity hv).1
  have hrx := hide (show rdx 12 [t0, .mk 11 n3 s3, .mk k1 n1 s1] = 4 from rfl)
  have hv1 := hide (validT_kid hv (t := .mk k1 n1 s1) (by simp))
  have hz1 := validT_size' hv1.out
  clear hv
  obtain ⟨b0, o0, k0', n0', ks0', A0, c0, hA0, hk0, i1, i2, i3, hl0, hr0⟩ := hr.at_ (j := 2) (by simp)
  injection hk0 with e1 e2 e3
  subst e1 e2 e3 hA0
  simp only [Nat.zero_mul, Nat.add_zero, Nat.one_mul, Nat.reduceMul] at i1 i2 i3
  have q5 := ((Keeps.alloc w (.cells #[.int .i64 12, .int .i64 n, .slice (some ⟨b0, o0, none⟩) 3 c] 27)).trans (Keeps.alloc _ (.cells #[.int .i64 0, .int .i64 0, .slice none 0 0] 27)))
  go_enter Tryz.func98, Tryz.ntmps98
  go_wp2_with (first
    | (go_at_call 25; have _t := tok2; refine (valid_yes k1 n1 s1 A8 c8 _ (by omega) hf8.rd hv1.out).mono ?_; rintro e w9 ⟨rfl, hb9⟩; have hZ9 := hZ8.keep hb9; have g9 := g8.trans (hb9.mono g8.size); have hf9 := hf8.below hb9; obtain ⟨d0, d1, d2⟩ := hZ9.three; have e0 := hZ9.frozen 0; have e1 := hZ9.frozen 1; have e2 := hZ9.frozen 2)
    | (go_at_call 73; have _t := tok1; refine (own_any (s1.length + sizes s1 + 1) k1 n1 s1 A0 c0 _ (by omega) (by omega) rP).mono ?_; rintro e w8 ⟨A8, c8, rfl, hl8, hf8, hb8⟩; have hZ8 := hZ.keep hb8; have g8 := g1.trans (hb8.mono g1.size); have tok2 := trivial)
    | (go_at_call 75; refine (iRedex_any 12 n [t0, .mk 11 n3 s3, .mk k1 n1 s1] _ c _ (by simp) har.out ((hr.alloc _).alloc _)).mono ?_; rw [hrx.out]; rintro e w1 ⟨rfl, hb1⟩; have hX := ((Blk.new_ w 27 #[.int .i64 12, .int .i64 n, .slice (some ⟨b0, o0, none⟩) 3 c] rfl).alloc (.cells #[.int .i64 0, .int .i64 0, .slice none 0 0] 27)).keep hb1; have hZ : Blk w1 (w.heap.size + 1) #[.int .i64 0, .int .i64 0, .slice none 0 0] := (Blk.new_ _ 27 _ (by simp)).keep hb1; have g1 : Below w.heap.size w w1 := (((Below.refl _ _).alloc (Nat.le_refl _) _).alloc (by simp) _).trans (hb1.mono (by simp; omega)); obtain ⟨x0, x1, x2⟩ := hX.three; have y0 := (Keeps.of_below g1) _ _ i1; have y1 := (Keeps.of_below g1) _ _ i2; have y2 := (Keeps.of_below g1) _ _ i3;  have rP := hr0.below g1; have tok1 := trivial))
  have sz := g1.size
  have s8 := hb8.size
  refine bodyPost_ret (v := .tuple #[.agg #[.int .i64 k1, .int .i64 n1, .slice A8 s1.length c8], .bool true]) (by simp [results, Tryz.results98, go_sem, d0, d1, d2]) rfl ⟨A8, c8, rfl, hl8, ?_, ?_⟩
  · exact (((hf9.setCell (by have := hZ.lt; simp; omega) _).setCell (by have := hZ.lt; simp; omega) _).setCell (by have := hZ.lt; simp; omega) _).mono sz
  · exact ((g9.setCell (by simp) _).setCell (by simp) _).setCell (by simp) _
set_option maxHeartbeats 8000000 in
set_option maxRecDepth 100000 in
theorem ctr_5 (n : Int) (n3 : Int) (t0 : Tm) (k1 n1 : Int) (s1 : List Tm) (t2 : Tm) (A : Option Addr) (c : Nat) (w : World) (hv : validT (.mk 15 n [.mk 14 n3 [t0, .mk k1 n1 s1, t2]]) = true) (hr : Rd w A 0 [.mk 14 n3 [t0, .mk k1 n1 s1, t2]]) :
    Calls Tryz.prog 98 #[.agg #[.int .i64 15, .int .i64 n, .slice A 1 c]] w (GotO w (some (.mk k1 n1 s1))) := by
  have har := hide (validT_arity hv).1
  have hrx := hide (show rdx 15 [.mk 14 n3 [t0, .mk k1 n1 s1, t2]] = 5 from rfl)
  have hv1 := hide (validT_kid (validT_kid hv (t := .mk 14 n3 [t0, .mk k1 n1 s1, t2]) (by simp)) (t := .mk k1 n1 s1) (by simp))
  have hz1 := validT_size' hv1.out
  clear hv
  obtain ⟨b0, o0, k0', n0', ks0', A0, c0, hA0, hk0, i1, i2, i3, hl0, hr0⟩ := hr.at_ (j := 0) (by simp)
  injection hk0 with e1 e2 e3
  subst e1 e2 e3 hA0
  simp only [Nat.zero_mul, Nat.add_zero, Nat.one_mul, Nat.reduceMul] at i1 i2 i3
  obtain ⟨bb, ob, kb', nb', kbs', Ab, cb, hAb, hkb, m1, m2, m3, hlb, hrb⟩ := hr0.at_ (j := 1) (by simp)
  injection hkb with e1 e2 e3
  subst e1 e2 e3 hAb
  simp only [Nat.zero_mul, Nat.add_zero, Nat.one_mul, Nat.reduceMul] at m1 m2 m3
  have q5 := ((Keeps.alloc w (.cells #[.int .i64 15, .int .i64 n, .slice (some ⟨b0, o0, none⟩) 1 c] 27)).trans (Keeps.alloc _ (.cells #[.int .i64 0, .int .i64 0, .slice none 0 0] 27)))
  go_enter Tryz.func98, Tryz.ntmps98
  go_wp2_with (first
    | (go_at_call 25; have _t := tok2; refine (valid_yes k1 n1 s1 A8 c8 _ (by omega) hf8.rd hv1.out).mono ?_; rintro e w9 ⟨rfl, hb9⟩; have hZ9 := hZ8.keep hb9; have g9 := g8.trans (hb9.mono g8.size); have hf9 := hf8.below hb9; obtain ⟨d0, d1, d2⟩ := hZ9.three; have e0 := hZ9.frozen 0; have e1 := hZ9.frozen 1; have e2 := hZ9.frozen 2)
    | (go_at_call 73; have _t := tok1; refine (own_any (s1.length + sizes s1 + 1) k1 n1 s1 Ab cb _ (by omega) (by omega) rP).mono ?_; rintro e w8 ⟨A8, c8, rfl, hl8, hf8, hb8⟩; have hZ8 := hZ.keep hb8; have g8 := g1.trans (hb8.mono g1.size); have tok2 := trivial)
    | (go_at_call 75; refine (iRedex_any 15 n [.mk 14 n3 [t0, .mk k1 n1 s1, t2]] _ c _ (by simp) har.out ((hr.alloc _).alloc _)).mono ?_; rw [hrx.out]; rintro e w1 ⟨rfl, hb1⟩; have hX := ((Blk.new_ w 27 #[.int .i64 15, .int .i64 n, .slice (some ⟨b0, o0, none⟩) 1 c] rfl).alloc (.cells #[.int .i64 0, .int .i64 0, .slice none 0 0] 27)).keep hb1; have hZ : Blk w1 (w.heap.size + 1) #[.int .i64 0, .int .i64 0, .slice none 0 0] := (Blk.new_ _ 27 _ (by simp)).keep hb1; have g1 : Below w.heap.size w w1 := (((Below.refl _ _).alloc (Nat.le_refl _) _).alloc (by simp) _).trans (hb1.mono (by simp; omega)); obtain ⟨x0, x1, x2⟩ := hX.three; have y0 := (Keeps.of_below g1) _ _ i1; have y1 := (Keeps.of_below g1) _ _ i2; have y2 := (Keeps.of_below g1) _ _ i3; have z0 := (Keeps.of_below g1) _ _ m1; have z1 := (Keeps.of_below g1) _ _ m2; have z2 := (Keeps.of_below g1) _ _ m3; have rP := hrb.below g1; have tok1 := trivial))
  have sz := g1.size
  have s8 := hb8.size
  refine bodyPost_ret (v := .tuple #[.agg #[.int .i64 k1, .int .i64 n1, .slice A8 s1.length c8], .bool true]) (by simp [results, Tryz.results98, go_sem, d0, d1, d2]) rfl ⟨A8, c8, rfl, hl8, ?_, ?_⟩
  · exact (((hf9.setCell (by have := hZ.lt; simp; omega) _).setCell (by have := hZ.lt; simp; omega) _).setCell (by have := hZ.lt; simp; omega) _).mono sz
  · exact ((g9.setCell (by simp) _).setCell (by simp) _).setCell (by simp) _
set_option maxHeartbeats 8000000 in
set_option maxRecDepth 100000 in
theorem ctr_6 (n : Int) (n3 : Int) (t0 t1 : Tm) (k1 n1 : Int) (s1 : List Tm) (A : Option Addr) (c : Nat) (w : World) (hv : validT (.mk 16 n [.mk 14 n3 [t0, t1, .mk k1 n1 s1]]) = true) (hr : Rd w A 0 [.mk 14 n3 [t0, t1, .mk k1 n1 s1]]) :
    Calls Tryz.prog 98 #[.agg #[.int .i64 16, .int .i64 n, .slice A 1 c]] w (GotO w (some (.mk k1 n1 s1))) := by
  have har := hide (validT_arity hv).1
  have hrx := hide (show rdx 16 [.mk 14 n3 [t0, t1, .mk k1 n1 s1]] = 6 from rfl)
  have hv1 := hide (validT_kid (validT_kid hv (t := .mk 14 n3 [t0, t1, .mk k1 n1 s1]) (by simp)) (t := .mk k1 n1 s1) (by simp))
  have hz1 := validT_size' hv1.out
  clear hv
  obtain ⟨b0, o0, k0', n0', ks0', A0, c0, hA0, hk0, i1, i2, i3, hl0, hr0⟩ := hr.at_ (j := 0) (by simp)
  injection hk0 with e1 e2 e3
  subst e1 e2 e3 hA0
  simp only [Nat.zero_mul, Nat.add_zero, Nat.one_mul, Nat.reduceMul] at i1 i2 i3
  obtain ⟨bb, ob, kb', nb', kbs', Ab, cb, hAb, hkb, m1, m2, m3, hlb, hrb⟩ := hr0.at_ (j := 2) (by simp)
  injection hkb with e1 e2 e3
  subst e1 e2 e3 hAb
  simp only [Nat.zero_mul, Nat.add_zero, Nat.one_mul, Nat.reduceMul] at m1 m2 m3
  have q5 := ((Keeps.alloc w (.cells #[.int .i64 16, .int .i64 n, .slice (some ⟨b0, o0, none⟩) 1 c] 27)).trans (Keeps.alloc _ (.cells #[.int .i64 0, .int .i64 0, .slice none 0 0] 27)))
  go_enter Tryz.func98, Tryz.ntmps98
  go_wp2_with (first
    | (go_at_call 25; have _t := tok2; refine (valid_yes k1 n1 s1 A8 c8 _ (by omega) hf8.rd hv1.out).mono ?_; rintro e w9 ⟨rfl, hb9⟩; have hZ9 := hZ8.keep hb9; have g9 := g8.trans (hb9.mono g8.size); have hf9 := hf8.below hb9; obtain ⟨d0, d1, d2⟩ := hZ9.three; have e0 := hZ9.frozen 0; have e1 := hZ9.frozen 1; have e2 := hZ9.frozen 2)
    | (go_at_call 73; have _t := tok1; refine (own_any (s1.length + sizes s1 + 1) k1 n1 s1 Ab cb _ (by omega) (by omega) rP).mono ?_; rintro e w8 ⟨A8, c8, rfl, hl8, hf8, hb8⟩; have hZ8 := hZ.keep hb8; have g8 := g1.trans (hb8.mono g1.size); have tok2 := trivial)
    | (go_at_call 75; refine (iRedex_any 16 n [.mk 14 n3 [t0, t1, .mk k1 n1 s1]] _ c _ (by simp) har.out ((hr.alloc _).alloc _)).mono ?_; rw [hrx.out]; rintro e w1 ⟨rfl, hb1⟩; have hX := ((Blk.new_ w 27 #[.int .i64 16, .int .i64 n, .slice (some ⟨b0, o0, none⟩) 1 c] rfl).alloc (.cells #[.int .i64 0, .int .i64 0, .slice none 0 0] 27)).keep hb1; have hZ : Blk w1 (w.heap.size + 1) #[.int .i64 0, .int .i64 0, .slice none 0 0] := (Blk.new_ _ 27 _ (by simp)).keep hb1; have g1 : Below w.heap.size w w1 := (((Below.refl _ _).alloc (Nat.le_refl _) _).alloc (by simp) _).trans (hb1.mono (by simp; omega)); obtain ⟨x0, x1, x2⟩ := hX.three; have y0 := (Keeps.of_below g1) _ _ i1; have y1 := (Keeps.of_below g1) _ _ i2; have y2 := (Keeps.of_below g1) _ _ i3; have z0 := (Keeps.of_below g1) _ _ m1; have z1 := (Keeps.of_below g1) _ _ m2; have z2 := (Keeps.of_below g1) _ _ m3; have rP := hrb.below g1; have tok1 := trivial))
  have sz := g1.size
  have s8 := hb8.size
  refine bodyPost_ret (v := .tuple #[.agg #[.int .i64 k1, .int .i64 n1, .slice A8 s1.length c8], .bool true]) (by simp [results, Tryz.results98, go_sem, d0, d1, d2]) rfl ⟨A8, c8, rfl, hl8, ?_, ?_⟩
  · exact (((hf9.setCell (by have := hZ.lt; simp; omega) _).setCell (by have := hZ.lt; simp; omega) _).setCell (by have := hZ.lt; simp; omega) _).mono sz
  · exact ((g9.setCell (by simp) _).setCell (by simp) _).setCell (by simp) _
end Go.Proofs.YthgmofdfecioaaaGreatDoor
