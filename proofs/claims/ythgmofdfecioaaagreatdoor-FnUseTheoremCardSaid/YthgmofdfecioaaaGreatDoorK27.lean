/-
  Contracts of the functions that the law reaches, and plain lemmas. No condition.
-/
import Derived.Test.YthgmofdfecioaaaGreatDoorK26
namespace Go.Proofs.YthgmofdfecioaaaGreatDoor
set_option linter.unusedSimpArgs false
set_option linter.unusedVariables false
open Go.RowKit
set_option maxRecDepth 100000 in
set_option maxHeartbeats 16000000 in
theorem imoved_any (C : Option Addr) (m cc : Nat) (k n : Int) (A : Option Addr) (c b2 b3 : Nat) (kp np : Int) (sp : List Tm) (t1' t2' : Tm) (ni ka na : Int) (sa : List Tm) (kb nb : Int) (sb : List Tm) (kd nd : Int) (sd : List Tm) (ty : Nat → Option Tm) (w : World) (h1 : fmS (ty 1) 10 = some (.mk 10 ni [.mk ka na sa, .mk kb nb sb, .mk kd nd sd])) (hf : famS (ty 0) (.mk ka na sa) = true) (hvb : validT (.mk 5 0 [.mk kp np sp, .mk kb nb sb]) = true) (h2c : chkS (ty 2) (.mk 5 0 [.mk kp np sp, .mk kb nb sb]) = true) (hvd : validT (.mk 5 0 [.mk kp np sp, .mk kd nd sd]) = true) (hT : TyOk b2 b3 w ty) (hr : Rd w A 0 [.mk kp np sp, t1', t2']) :
    Calls Tryz.prog 134 #[.agg #[.slice C m cc, .int .i64 k, .int .i64 n, .slice A 3 c, .func (.func 95) #[] #[.pointer (some ⟨b2, 0, none⟩), .pointer (some ⟨b3, 0, none⟩)]]] w (GotI w 5 0 [.mk kp np sp, .mk kd nd sd]) := by
  replace h1 := hide h1
  replace hf := hide hf
  replace hvb := hide hvb
  replace h2c := hide h2c
  replace hvd := hide hvd
  obtain ⟨bp, op, x1, x2, x3, Ap, cp, rfl, hk1, i1, i2, i3, hlp, rp0⟩ := hr.at_ (j := 0) (by simp)
  injection hk1 with e1 e2 e3
  subst e1 e2 e3
  simp only [Nat.zero_mul, Nat.add_zero, Nat.one_mul, Nat.reduceMul] at i1 i2 i3
  go_enter Tryz.func134, Tryz.ntmps134
  go_upto_region 4 with (go_at_call 129; refine (iform_any C m cc k n _ 3 c b2 b3 1 (by omega) 10 ni [.mk ka na sa, .mk kb nb sb, .mk kd nd sd] ty _ h1.out (hT.below (((Below.refl _ _).alloc (Nat.le_refl _) _).alloc (by simp) _))).mono ?_; rintro e w1 ⟨A3, ci, rfl, hl3, r3, hb1⟩; have hZ1 : Blk w1 (w.heap.size + 1) #[.int .i64 0, .int .i64 0, .slice none 0 0] := (Blk.new_ _ 27 _ (by simp)).keep hb1; have hJ1 := ((Blk.new_ w 104 #[.slice C m cc, .int .i64 k, .int .i64 n, .slice (some ⟨bp, op, none⟩) 3 c, .func (.func 95) #[] #[.pointer (some ⟨b2, 0, none⟩), .pointer (some ⟨b3, 0, none⟩)]] rfl).alloc (.cells #[.int .i64 0, .int .i64 0, .slice none 0 0] 27)).keep hb1; have g1 : Below w.heap.size w w1 := (((Below.refl _ _).alloc (Nat.le_refl _) _).alloc (by simp) _).trans (hb1.mono (by simp; omega)))
  refine name_world ?_
  intro wx hwx
  have hJx := (show Blk wx w.heap.size _ by rw [hwx]; exact hJ1.alloc _)
  have hZx := (show Blk wx (w.heap.size + 1) _ by rw [hwx]; exact hZ1.alloc _)
  have hIx0 : Blk wx w1.heap.size #[.int .i64 10, .int .i64 ni, .slice A3 3 ci] := by rw [hwx]; exact Blk.new_ _ 27 _ rfl
  have gx : Below w.heap.size w wx := by rw [hwx]; exact g1.alloc g1.size _
  have r3x : Rd wx A3 0 [.mk ka na sa, .mk kb nb sb, .mk kd nd sd] := by rw [hwx]; exact r3.alloc _
  clear hwx
  obtain ⟨bi, oi, x1, x2, x3, Aa, ca, rfl, hk1, a1, a2, a3, hla, ra0⟩ := r3x.at_ (j := 0) (by simp)
  injection hk1 with e1 e2 e3
  subst e1 e2 e3
  obtain ⟨bb, ob, x1, x2, x3, Ab, cb, hAb, hk2, c1, c2, c3, hlb, rb0⟩ := r3x.at_ (j := 1) (by simp)
  injection hk2 with e1 e2 e3
  injection hAb with hA
  injection hA with hA1 hA2
  subst e1 e2 e3 hA1 hA2
  obtain ⟨bb, ob, x1, x2, x3, Ad, cd, hAb, hk2, d1, d2, d3, hld, rd0⟩ := r3x.at_ (j := 2) (by simp)
  injection hk2 with e1 e2 e3
  injection hAb with hA
  injection hA with hA1 hA2
  subst e1 e2 e3 hA1 hA2
  simp only [Nat.zero_mul, Nat.add_zero, Nat.one_mul, Nat.reduceMul] at a1 a2 a3 c1 c2 c3 d1 d2 d3
  have hIx : Blk wx w1.heap.size #[.int .i64 10, .int .i64 ni, .slice (some ⟨bi, oi, none⟩) 3 ci] := hIx0
  have u2' := rule_of hIx.three.2.2
  have y0' := rule_of a1
  have y1' := rule_of a2
  have y2' := rule_of a3
  have uj0 := rule_of (hJx.at_ (i := 0) rfl)
  have uj1 := rule_of (hJx.at_ (i := 1) rfl)
  have uj2 := rule_of (hJx.at_ (i := 2) rfl)
  have uj3 := rule_of (hJx.at_ (i := 3) rfl)
  have uj4 := rule_of (hJx.at_ (i := 4) rfl)
  obtain ⟨q0, hq0⟩ : ∃ q0, q0 = wx.drew := ⟨_, rfl⟩
  have bq0 : Below wx.heap.size wx q0 := by rw [hq0]; exact (Below.refl _ _).drew
  refine gC_start (fun w' => Below wx.heap.size wx w') [6] 7 (by kernel_rfl) rfl ?_
  refine gC_take [0, 1, 2, 3, 4] (f := 2) (l' := #[true, true, true, true, true, false, false]) (lT := [_, _, _, _, _]) (by rw [← hq0]; exact bq0) rfl (by kernel_rfl) (by kernel_rfl) (by kernel_rfl) rfl (fun _ _ d _ _ h => by cases d <;> exact h) ?_
  repeat (first | ((refine takeY_skip (a' := ?_) ?_ ?_ ?_); (rotate_left); (· (simp [Region.wanted, yielded, Go.undef]; done)); (· (simp only [List.getElem_toArray, List.getElem_cons_zero, List.getElem_cons_succ, Act.put, List.setIfInBounds_toArray, List.set_cons_zero, List.set_cons_succ]; exact rfl))) | ((refine takeY_step (v := ?_) (a' := ?_) ?_ ?_ ?_ ?_); (rotate_left 2); (· (simp [Region.wanted, yielded, Go.undef]; done)); (· (intro w' hS'; go_simp; try (with_reducible rfl))); (· (simp only [List.getElem_toArray, List.getElem_cons_zero, List.getElem_cons_succ, Act.put, List.setIfInBounds_toArray, List.set_cons_zero, List.set_cons_succ]; exact rfl))))
  refine takeY_nil ?_
  rw [← hq0]
  clear hq0
  refine gC_one (i := 5) (by kernel_rfl) rfl ?_
  · go_wp2_with (go_at_call 151; refine (ifamily_any C m cc k n _ 3 c b2 b3 0 (by omega) ka na sa Aa ca ty _ hf.out ((hT.below gx).below bq0) (ra0.below bq0)).mono ?_; rintro e q1 ⟨rfl, hbq1⟩)
    have bq1 : Below wx.heap.size wx q1 := bq0.trans (hbq1.mono bq0.size)
    have lq1 := hbq1.size
    refine mid_intro bq1 ?_
    refine gC_end [6] (lB := [_]) (by simp) (by kernel_rfl) (by kernel_rfl) rfl ?_
    have hJ3 := hJx.keep bq1
    have hZ3 := hZx.keep bq1
    have hI3 := hIx.keep bq1
    have g3 := gx.trans (bq1.mono gx.size)
    have j3 := hJ3.at_ (i := 3) rfl
    have p0 := (Keeps.of_below g3) _ _ i1
    have p1 := (Keeps.of_below g3) _ _ i2
    have p2 := (Keeps.of_below g3) _ _ i3
    go_upto_region 8 with fail
    refine name_world ?_
    intro wu hwu
    have hJu := (show Blk wu w.heap.size _ by rw [hwu]; exact hJ3.alloc _)
    have hZu := (show Blk wu (w.heap.size + 1) _ by rw [hwu]; exact hZ3.alloc _)
    have hIu := (show Blk wu w1.heap.size _ by rw [hwu]; exact hI3.alloc _)
    have hPu : Blk wu q1.heap.size #[.int .i64 kp, .int .i64 np, .slice Ap sp.length cp] := by rw [hwu]; exact Blk.new_ _ 27 _ rfl
    have gu : Below w.heap.size w wu := by rw [hwu]; exact g3.alloc g3.size _
    have kxu : Below wx.heap.size wx wu := by rw [hwu]; exact bq1.alloc bq1.size _
    clear hwu j3 p0 p1 p2
    have rpu := rp0.below gu
    have rbu := rb0.below kxu
    have v0 := rule_of hPu.three.1
    have v1 := rule_of hPu.three.2.1
    have v2 := rule_of hPu.three.2.2
    have u2 := rule_of hIu.three.2.2
    have y0 := rule_of ((Keeps.of_below kxu) _ _ c1)
    have y1 := rule_of ((Keeps.of_below kxu) _ _ c2)
    have y2 := rule_of ((Keeps.of_below kxu) _ _ c3)
    go_cut [5, 8] (fun vc vp wy => ∃ (gz : Nat) (Az : Option Addr) (cz : Nat), vp = .pointer (some ⟨gz, 0, none⟩) ∧ vc = .int .i64 0 ∧ Blk wy gz #[.int .i64 5, .int .i64 0, .slice Az 2 cz] ∧ Rd wy Az 0 [.mk kp np sp, .mk kb nb sb] ∧ Below wu.heap.size wu wy ∧ wu.heap.size ≤ gz)
    case first =>
      obtain ⟨q0, hq0⟩ : ∃ q0, q0 = wu.drew := ⟨_, rfl⟩
      have bq0 : Below wu.heap.size wu q0 := by rw [hq0]; exact (Below.refl _ _).drew
      refine gC_start (fun w' => Below wu.heap.size wu w') [8, 9, 10, 12, 13] 14 (by kernel_rfl) rfl ?_
      refine gC_take [0, 1, 2, 3, 4] (f := 9) (l' := #[true, true, true, true, true, false, false, false, false, false, false, false, false, false]) (lT := [_, _, _, _, _]) (by rw [← hq0]; exact bq0) rfl (by kernel_rfl) (by kernel_rfl) (by kernel_rfl) rfl (fun _ _ d _ _ h => by cases d <;> exact h) ?_
      repeat (first | ((refine takeY_skip (a' := ?_) ?_ ?_ ?_); (rotate_left); (· (simp [Region.wanted, yielded, Go.undef]; done)); (· (simp only [List.getElem_toArray, List.getElem_cons_zero, List.getElem_cons_succ, Act.put, List.setIfInBounds_toArray, List.set_cons_zero, List.set_cons_succ]; exact rfl))) | ((refine takeY_step (v := ?_) (a' := ?_) ?_ ?_ ?_ ?_); (rotate_left 2); (· (simp [Region.wanted, yielded, Go.undef]; done)); (· (intro w' hS'; go_simp; try (with_reducible rfl))); (· (simp only [List.getElem_toArray, List.getElem_cons_zero, List.getElem_cons_succ, Act.put, List.setIfInBounds_toArray, List.set_cons_zero, List.set_cons_succ]; exact rfl))))
      refine takeY_nil ?_
      rw [← hq0]
      clear hq0
      refine gC_two (i := 5) (j := 11) (by kernel_rfl) rfl rfl ?_ ?_
      · go_wp2_with fail
        refine name_midw ?_
        intro q1 hn
        have hbq1 : Below q0.heap.size q0 q1 := by rw [hn]; exact (Below.refl _ _).alloc (Nat.le_refl _) _
        have zq1 : Blk q1 q0.heap.size #[.int .i64 kp, .int .i64 np, .slice Ap sp.length cp, .int .i64 kb, .int .i64 nb, .slice Ab sb.length cb] := by rw [hn]; exact Blk.new_ _ 27 _ rfl
        have seq1 : q0.heap.size < q1.heap.size := by rw [hn]; simp
        clear hn
        have rq1 : Rd q1 (some ⟨q0.heap.size, 0, none⟩) 0 [.mk kp np sp, .mk kb nb sb] := rd_row2 (s0 := sp) (s1 := sb) zq1 hlp hlb ((rpu.below bq0).below hbq1) ((rbu.below bq0).below hbq1)
        have bq1 : Below wu.heap.size wu q1 := bq0.trans (hbq1.mono bq0.size)
        have lq1 := hbq1.size
        refine mid_intro bq1 ?_
        refine gC_two (i := 6) (j := 11) (by kernel_rfl) rfl rfl ?_ ?_
        · go_wp2_with (go_at_call 26; refine (inode_any 5 _ ⟨_, _, _, rfl⟩ _).mono ?_; rintro e q2 ⟨rfl, hbq2⟩)
          have Pq2 := rq1.below hbq2
          have bq2 : Below wu.heap.size wu q2 := bq1.trans (hbq2.mono bq1.size)
          have lq2 := hbq2.size
          refine mid_intro bq2 ?_
          refine gC_two (i := 7) (j := 11) (by kernel_rfl) rfl rfl ?_ ?_
          · go_wp2_with (go_at_call 124; refine (imade_yes 5 0 [.mk kp np sp, .mk kb nb sb] _ 2 _ hvb.out Pq2).mono ?_; rintro e q3 ⟨rfl, hbq3⟩)
            have Pq3 := Pq2.below hbq3
            have bq3 : Below wu.heap.size wu q3 := bq2.trans (hbq3.mono bq2.size)
            have lq3 := hbq3.size
            refine mid_intro bq3 ?_
            refine gC_takeT [8, 9, 10] (f := 3) (l' := #[true, true, true, true, true, true, true, true, true, true, true, false, false, false]) (lT := [_, _, _]) rfl (by kernel_rfl) (by kernel_rfl) (by kernel_rfl) rfl (fun _ _ d _ _ h => by cases d <;> exact h) ?_
            repeat (first | ((refine takeY_skip (a' := ?_) ?_ ?_ ?_); (rotate_left); (· (simp [Region.wanted, yielded, Go.undef]; done)); (· (simp only [List.getElem_toArray, List.getElem_cons_zero, List.getElem_cons_succ, Act.put, List.setIfInBounds_toArray, List.set_cons_zero, List.set_cons_succ]; exact rfl))) | ((refine takeY_step (v := ?_) (a' := ?_) ?_ ?_ ?_ ?_); (rotate_left 2); (· (simp [Region.wanted, yielded, Go.undef]; done)); (· (intro w' hS'; go_simp; try (with_reducible rfl))); (· (simp only [List.getElem_toArray, List.getElem_cons_zero, List.getElem_cons_succ, Act.put, List.setIfInBounds_toArray, List.set_cons_zero, List.set_cons_succ]; exact rfl))))
            refine takeY_nil ?_
            refine gC_one (i := 11) (by kernel_rfl) rfl ?_
            · go_wp2_with fail
              refine name_midw ?_
              intro q4 hn
              have hbq4 : Below q3.heap.size q3 q4 := by rw [hn]; exact (Below.refl _ _).alloc (Nat.le_refl _) _
              have zq4 : Blk q4 q3.heap.size #[.int .i64 0, .int .i64 0, .slice none 0 0] := by rw [hn]; exact Blk.new_ _ 27 _ rfl
              have seq4 : q3.heap.size < q4.heap.size := by rw [hn]; simp
              clear hn
              have Pq4 := Pq3.below hbq4
              have bq4 : Below wu.heap.size wu q4 := bq3.trans (hbq4.mono bq3.size)
              have lq4 := hbq4.size
              refine mid_intro bq4 ?_
              refine gC_end [12, 13] (lB := [_, _]) (by simp) (by kernel_rfl) (by kernel_rfl) rfl ?_
              obtain ⟨d0, d1, d2⟩ := zq4.three
              have e0 := zq4.frozen 0
              have e1 := zq4.frozen 1
              have e2 := zq4.frozen 2
              have szb : wu.heap.size ≤ q3.heap.size := by first | exact bq0.size | exact bq3.size
              go_wp2_with fail
              go_meet
              exact ⟨q3.heap.size, some ⟨q0.heap.size, 0, none⟩, 2, rfl, rfl, ((zq4.set_ 0 _).set_ 1 _).set_ 2 _, rd_set0 zq4 hvb.out Pq4 _ _ _, ((bq4.setCell szb _).setCell szb _).setCell szb _, szb⟩
          · go_wp2_with fail
            refine name_midw ?_
            intro q5 hn
            have hbq5 : Below q2.heap.size q2 q5 := by rw [hn]; exact (Below.refl _ _).alloc (Nat.le_refl _) _
            have zq5 : Blk q5 q2.heap.size #[.int .i64 0, .int .i64 0, .slice none 0 0] := by rw [hn]; exact Blk.new_ _ 27 _ rfl
            have seq5 : q2.heap.size < q5.heap.size := by rw [hn]; simp
            clear hn
            have Pq5 := Pq2.below hbq5
            have bq5 : Below wu.heap.size wu q5 := bq2.trans (hbq5.mono bq2.size)
            have lq5 := hbq5.size
            refine mid_intro bq5 ?_
            refine gC_one (i := 7) (by kernel_rfl) rfl ?_
            · go_wp2_with (go_at_call 124; refine (imade_yes 5 0 [.mk kp np sp, .mk kb nb sb] _ 2 _ hvb.out Pq5).mono ?_; rintro e q6 ⟨rfl, hbq6⟩)
              have Pq6 := Pq5.below hbq6
              have Zq6 := zq5.keep hbq6
              have bq6 : Below wu.heap.size wu q6 := bq5.trans (hbq6.mono bq5.size)
              have lq6 := hbq6.size
              refine mid_intro bq6 ?_
              refine gC_takeT [8, 9, 10] (f := 2) (l' := #[true, true, true, true, true, true, true, true, true, true, true, true, false, false]) (lT := [_, _, _]) rfl (by kernel_rfl) (by kernel_rfl) (by kernel_rfl) rfl (fun _ _ d _ _ h => by cases d <;> exact h) ?_
              repeat (first | ((refine takeY_skip (a' := ?_) ?_ ?_ ?_); (rotate_left); (· (simp [Region.wanted, yielded, Go.undef]; done)); (· (simp only [List.getElem_toArray, List.getElem_cons_zero, List.getElem_cons_succ, Act.put, List.setIfInBounds_toArray, List.set_cons_zero, List.set_cons_succ]; exact rfl))) | ((refine takeY_step (v := ?_) (a' := ?_) ?_ ?_ ?_ ?_); (rotate_left 2); (· (simp [Region.wanted, yielded, Go.undef]; done)); (· (intro w' hS'; go_simp; try (with_reducible rfl))); (· (simp only [List.getElem_toArray, List.getElem_cons_zero, List.getElem_cons_succ, Act.put, List.setIfInBounds_toArray, List.set_cons_zero, List.set_cons_succ]; exact rfl))))
              refine takeY_nil ?_
              refine gC_end [12, 13] (lB := [_, _]) (by simp) (by kernel_rfl) (by kernel_rfl) rfl ?_
              obtain ⟨d0, d1, d2⟩ := Zq6.three
              have e0 := Zq6.frozen 0
              have e1 := Zq6.frozen 1
              have e2 := Zq6.frozen 2
              have szb : wu.heap.size ≤ q2.heap.size := by first | exact bq0.size | exact bq2.size
              go_wp2_with fail
              go_meet
              exact ⟨q2.heap.size, some ⟨q0.heap.size, 0, none⟩, 2, rfl, rfl, ((Zq6.set_ 0 _).set_ 1 _).set_ 2 _, rd_set0 Zq6 hvb.out Pq6 _ _ _, ((bq6.setCell szb _).setCell szb _).setCell szb _, szb⟩
        · go_wp2_with fail
          refine name_midw ?_
          intro q7 hn
          have hbq7 : Below q1.heap.size q1 q7 := by rw [hn]; exact (Below.refl _ _).alloc (Nat.le_refl _) _
          have zq7 : Blk q7 q1.heap.size #[.int .i64 0, .int .i64 0, .slice none 0 0] := by rw [hn]; exact Blk.new_ _ 27 _ rfl
          have seq7 : q1.heap.size < q7.heap.size := by rw [hn]; simp
          clear hn
          have Pq7 := rq1.below hbq7
          have bq7 : Below wu.heap.size wu q7 := bq1.trans (hbq7.mono bq1.size)
          have lq7 := hbq7.size
          refine mid_intro bq7 ?_
          refine gC_one (i := 6) (by kernel_rfl) rfl ?_
          · go_wp2_with (go_at_call 26; refine (inode_any 5 _ ⟨_, _, _, rfl⟩ _).mono ?_; rintro e q8 ⟨rfl, hbq8⟩)
            have Pq8 := Pq7.below hbq8
            have Zq8 := zq7.keep hbq8
            have bq8 : Below wu.heap.size wu q8 := bq7.trans (hbq8.mono bq7.size)
            have lq8 := hbq8.size
            refine mid_intro bq8 ?_
            refine gC_one (i := 7) (by kernel_rfl) rfl ?_
            · go_wp2_with (go_at_call 124; refine (imade_yes 5 0 [.mk kp np sp, .mk kb nb sb] _ 2 _ hvb.out Pq8).mono ?_; rintro e q9 ⟨rfl, hbq9⟩)
              have Pq9 := Pq8.below hbq9
              have Zq9 := Zq8.keep hbq9
              have bq9 : Below wu.heap.size wu q9 := bq8.trans (hbq9.mono bq8.size)
              have lq9 := hbq9.size
              refine mid_intro bq9 ?_
              refine gC_takeT [8, 9, 10] (f := 2) (l' := #[true, true, true, true, true, true, true, true, true, true, true, true, false, false]) (lT := [_, _, _]) rfl (by kernel_rfl) (by kernel_rfl) (by kernel_rfl) rfl (fun _ _ d _ _ h => by cases d <;> exact h) ?_
              repeat (first | ((refine takeY_skip (a' := ?_) ?_ ?_ ?_); (rotate_left); (· (simp [Region.wanted, yielded, Go.undef]; done)); (· (simp only [List.getElem_toArray, List.getElem_cons_zero, List.getElem_cons_succ, Act.put, List.setIfInBounds_toArray, List.set_cons_zero, List.set_cons_succ]; exact rfl))) | ((refine takeY_step (v := ?_) (a' := ?_) ?_ ?_ ?_ ?_); (rotate_left 2); (· (simp [Region.wanted, yielded, Go.undef]; done)); (· (intro w' hS'; go_simp; try (with_reducible rfl))); (· (simp only [List.getElem_toArray, List.getElem_cons_zero, List.getElem_cons_succ, Act.put, List.setIfInBounds_toArray, List.set_cons_zero, List.set_cons_succ]; exact rfl))))
              refine takeY_nil ?_
              refine gC_end [12, 13] (lB := [_, _]) (by simp) (by kernel_rfl) (by kernel_rfl) rfl ?_
              obtain ⟨d0, d1, d2⟩ := Zq9.three
              have e0 := Zq9.frozen 0
              have e1 := Zq9.frozen 1
              have e2 := Zq9.frozen 2
              have szb : wu.heap.size ≤ q1.heap.size := by first | exact bq0.size | exact bq1.size
              go_wp2_with fail
              go_meet
              exact ⟨q1.heap.size, some ⟨q0.heap.size, 0, none⟩, 2, rfl, rfl, ((Zq9.set_ 0 _).set_ 1 _).set_ 2 _, rd_set0 Zq9 hvb.out Pq9 _ _ _, ((bq9.setCell szb _).setCell szb _).setCell szb _, szb⟩
      · go_wp2_with fail
        refine name_midw ?_
        intro q10 hn
        have hbq10 : Below q0.heap.size q0 q10 := by rw [hn]; exact (Below.refl _ _).alloc (Nat.le_refl _) _
        have zq10 : Blk q10 q0.heap.size #[.int .i64 0, .int .i64 0, .slice none 0 0] := by rw [hn]; exact Blk.new_ _ 27 _ rfl
        have seq10 : q0.heap.size < q10.heap.size := by rw [hn]; simp
        clear hn
        have bq10 : Below wu.heap.size wu q10 := bq0.trans (hbq10.mono bq0.size)
        have lq10 := hbq10.size
        refine mid_intro bq10 ?_
        refine gC_one (i := 5) (by kernel_rfl) rfl ?_
        · go_wp2_with fail
          refine name_midw ?_
          intro q11 hn
          have hbq11 : Below q10.heap.size q10 q11 := by rw [hn]; exact (Below.refl _ _).alloc (Nat.le_refl _) _
          have zq11 : Blk q11 q10.heap.size #[.int .i64 kp, .int .i64 np, .slice Ap sp.length cp, .int .i64 kb, .int .i64 nb, .slice Ab sb.length cb] := by rw [hn]; exact Blk.new_ _ 27 _ rfl
          have seq11 : q10.heap.size < q11.heap.size := by rw [hn]; simp
          clear hn
          have rq11 : Rd q11 (some ⟨q10.heap.size, 0, none⟩) 0 [.mk kp np sp, .mk kb nb sb] := rd_row2 (s0 := sp) (s1 := sb) zq11 hlp hlb ((rpu.below bq10).below hbq11) ((rbu.below bq10).below hbq11)
          have Zq11 := zq10.keep hbq11
          have bq11 : Below wu.heap.size wu q11 := bq10.trans (hbq11.mono bq10.size)
          have lq11 := hbq11.size
          refine mid_intro bq11 ?_
          refine gC_one (i := 6) (by kernel_rfl) rfl ?_
          · go_wp2_with (go_at_call 26; refine (inode_any 5 _ ⟨_, _, _, rfl⟩ _).mono ?_; rintro e q12 ⟨rfl, hbq12⟩)
            have Zq12 := Zq11.keep hbq12
            have Pq12 := rq11.below hbq12
            have bq12 : Below wu.heap.size wu q12 := bq11.trans (hbq12.mono bq11.size)
            have lq12 := hbq12.size
            refine mid_intro bq12 ?_
            refine gC_one (i := 7) (by kernel_rfl) rfl ?_
            · go_wp2_with (go_at_call 124; refine (imade_yes 5 0 [.mk kp np sp, .mk kb nb sb] _ 2 _ hvb.out Pq12).mono ?_; rintro e q13 ⟨rfl, hbq13⟩)
              have Zq13 := Zq12.keep hbq13
              have Pq13 := Pq12.below hbq13
              have bq13 : Below wu.heap.size wu q13 := bq12.trans (hbq13.mono bq12.size)
              have lq13 := hbq13.size
              refine mid_intro bq13 ?_
              refine gC_takeT [8, 9, 10] (f := 2) (l' := #[true, true, true, true, true, true, true, true, true, true, true, true, false, false]) (lT := [_, _, _]) rfl (by kernel_rfl) (by kernel_rfl) (by kernel_rfl) rfl (fun _ _ d _ _ h => by cases d <;> exact h) ?_
              repeat (first | ((refine takeY_skip (a' := ?_) ?_ ?_ ?_); (rotate_left); (· (simp [Region.wanted, yielded, Go.undef]; done)); (· (simp only [List.getElem_toArray, List.getElem_cons_zero, List.getElem_cons_succ, Act.put, List.setIfInBounds_toArray, List.set_cons_zero, List.set_cons_succ]; exact rfl))) | ((refine takeY_step (v := ?_) (a' := ?_) ?_ ?_ ?_ ?_); (rotate_left 2); (· (simp [Region.wanted, yielded, Go.undef]; done)); (· (intro w' hS'; go_simp; try (with_reducible rfl))); (· (simp only [List.getElem_toArray, List.getElem_cons_zero, List.getElem_cons_succ, Act.put, List.setIfInBounds_toArray, List.set_cons_zero, List.set_cons_succ]; exact rfl))))
              refine takeY_nil ?_
              refine gC_end [12, 13] (lB := [_, _]) (by simp) (by kernel_rfl) (by kernel_rfl) rfl ?_
              obtain ⟨d0, d1, d2⟩ := Zq13.three
              have e0 := Zq13.frozen 0
              have e1 := Zq13.frozen 1
              have e2 := Zq13.frozen 2
              have szb : wu.heap.size ≤ q0.heap.size := by first | exact bq0.size | exact bq0.size
              go_wp2_with fail
              go_meet
              exact ⟨q0.heap.size, some ⟨q10.heap.size, 0, none⟩, 2, rfl, rfl, ((Zq13.set_ 0 _).set_ 1 _).set_ 2 _, rd_set0 Zq13 hvb.out Pq13 _ _ _, ((bq13.setCell szb _).setCell szb _).setCell szb _, szb⟩
    case rest =>
      obtain ⟨gz, Az, cz, rfl, rfl, hTz, rz, hxy, hgz⟩ := hcut
      have gy := gu.trans (hxy.mono gu.size)
      have hJy := hJu.keep hxy
      have hZy := hZu.keep hxy
      have hPy := hPu.keep hxy
      have hIy := hIu.keep hxy
      obtain ⟨t0, t1, t2⟩ := hTz.three
      have j0 := hJy.at_ (i := 0) rfl
      have j1 := hJy.at_ (i := 1) rfl
      have j2 := hJy.at_ (i := 2) rfl
      have j3 := hJy.at_ (i := 3) rfl
      have j4 := hJy.at_ (i := 4) rfl
      go_upto_region 12 with (go_at_call 130; refine (ihas_any C m cc k n _ 3 c b2 b3 2 (by omega) 5 0 [.mk kp np sp, .mk kb nb sb] Az cz ty _ h2c.out (hT.below gy) rz).mono ?_; rintro e w5 ⟨rfl, hb5⟩)
      refine name_world ?_
      intro ws hws
      have hZs := (show Blk ws (w.heap.size + 1) _ by rw [hws]; exact hZy.keep hb5)
      have hPs := (show Blk ws q1.heap.size _ by rw [hws]; exact hPy.keep hb5)
      have hIs := (show Blk ws w1.heap.size _ by rw [hws]; exact hIy.keep hb5)
      have gs : Below w.heap.size w ws := by rw [hws]; exact gy.trans (hb5.mono gy.size)
      have kxs : Below wx.heap.size wx ws := by rw [hws]; exact (kxu.trans (hxy.mono kxu.size)).trans (hb5.mono (kxu.trans (hxy.mono kxu.size)).size)
      clear hws
      have rps := rp0.below gs
      have rds := rd0.below kxs
      have v0 := rule_of hPs.three.1
      have v1 := rule_of hPs.three.2.1
      have v2 := rule_of hPs.three.2.2
      have u2 := rule_of hIs.three.2.2
      have y0 := rule_of ((Keeps.of_below kxs) _ _ d1)
      have y1 := rule_of ((Keeps.of_below kxs) _ _ d2)
      have y2 := rule_of ((Keeps.of_below kxs) _ _ d3)
      obtain ⟨q0, hq0⟩ : ∃ q0, q0 = ws.drew := ⟨_, rfl⟩
      have bq0 : Below ws.heap.size ws q0 := by rw [hq0]; exact (Below.refl _ _).drew
      refine gC_start (fun w' => Below ws.heap.size ws w') [8, 9, 10, 11] 12 (by kernel_rfl) rfl ?_
      refine gC_take [0, 1, 2, 3, 4] (f := 7) (l' := #[true, true, true, true, true, false, false, false, false, false, false, false]) (lT := [_, _, _, _, _]) (by rw [← hq0]; exact bq0) rfl (by kernel_rfl) (by kernel_rfl) (by kernel_rfl) rfl (fun _ _ d _ _ h => by cases d <;> exact h) ?_
      repeat (first | ((refine takeY_skip (a' := ?_) ?_ ?_ ?_); (rotate_left); (· (simp [Region.wanted, yielded, Go.undef]; done)); (· (simp only [List.getElem_toArray, List.getElem_cons_zero, List.getElem_cons_succ, Act.put, List.setIfInBounds_toArray, List.set_cons_zero, List.set_cons_succ]; exact rfl))) | ((refine takeY_step (v := ?_) (a' := ?_) ?_ ?_ ?_ ?_); (rotate_left 2); (· (simp [Region.wanted, yielded, Go.undef]; done)); (· (intro w' hS'; go_simp; try (with_reducible rfl))); (· (simp only [List.getElem_toArray, List.getElem_cons_zero, List.getElem_cons_succ, Act.put, List.setIfInBounds_toArray, List.set_cons_zero, List.set_cons_succ]; exact rfl))))
      refine takeY_nil ?_
      rw [← hq0]
      clear hq0
      refine gC_one (i := 5) (by kernel_rfl) rfl ?_
      · go_wp2_with fail
        refine name_midw ?_
        intro q1 hn
        have hbq1 : Below q0.heap.size q0 q1 := by rw [hn]; exact (Below.refl _ _).alloc (Nat.le_refl _) _
        have zq1 : Blk q1 q0.heap.size #[.int .i64 kp, .int .i64 np, .slice Ap sp.length cp, .int .i64 kd, .int .i64 nd, .slice Ad sd.length cd] := by rw [hn]; exact Blk.new_ _ 27 _ rfl
        have seq1 : q0.heap.size < q1.heap.size := by rw [hn]; simp
        clear hn
        have rq1 : Rd q1 (some ⟨q0.heap.size, 0, none⟩) 0 [.mk kp np sp, .mk kd nd sd] := rd_row2 (s0 := sp) (s1 := sd) zq1 hlp hld ((rps.below bq0).below hbq1) ((rds.below bq0).below hbq1)
        have bq1 : Below ws.heap.size ws q1 := bq0.trans (hbq1.mono bq0.size)
        have lq1 := hbq1.size
        refine mid_intro bq1 ?_
        refine gC_one (i := 6) (by kernel_rfl) rfl ?_
        · go_wp2_with (go_at_call 26; refine (inode_any 5 _ ⟨_, _, _, rfl⟩ _).mono ?_; rintro e q2 ⟨rfl, hbq2⟩)
          have Pq2 := rq1.below hbq2
          have bq2 : Below ws.heap.size ws q2 := bq1.trans (hbq2.mono bq1.size)
          have lq2 := hbq2.size
          refine mid_intro bq2 ?_
          refine gC_one (i := 7) (by kernel_rfl) rfl ?_
          · go_wp2_with (go_at_call 124; refine (imade_yes 5 0 [.mk kp np sp, .mk kd nd sd] _ 2 _ hvd.out Pq2).mono ?_; rintro e q3 ⟨rfl, hbq3⟩)
            have Pq3 := Pq2.below hbq3
            have bq3 : Below ws.heap.size ws q3 := bq2.trans (hbq3.mono bq2.size)
            have lq3 := hbq3.size
            refine mid_intro bq3 ?_
            refine gC_takeT [8, 9] (f := 2) (l' := #[true, true, true, true, true, true, true, true, true, true, false, false]) (lT := [_, _]) rfl (by kernel_rfl) (by kernel_rfl) (by kernel_rfl) rfl (fun _ _ d _ _ h => by cases d <;> exact h) ?_
            repeat (first | ((refine takeY_skip (a' := ?_) ?_ ?_ ?_); (rotate_left); (· (simp [Region.wanted, yielded, Go.undef]; done)); (· (simp only [List.getElem_toArray, List.getElem_cons_zero, List.getElem_cons_succ, Act.put, List.setIfInBounds_toArray, List.set_cons_zero, List.set_cons_succ]; exact rfl))) | ((refine takeY_step (v := ?_) (a' := ?_) ?_ ?_ ?_ ?_); (rotate_left 2); (· (simp [Region.wanted, yielded, Go.undef]; done)); (· (intro w' hS'; go_simp; try (with_reducible rfl))); (· (simp only [List.getElem_toArray, List.getElem_cons_zero, List.getElem_cons_succ, Act.put, List.setIfInBounds_toArray, List.set_cons_zero, List.set_cons_succ]; exact rfl))))
            refine takeY_nil ?_
            refine gC_end [10, 11] (lB := [_, _]) (by simp) (by kernel_rfl) (by kernel_rfl) rfl ?_
            have hZ2 := hZs.keep bq3
            obtain ⟨d0, d1, d2⟩ := hZ2.three
            have e0 := hZ2.frozen 0
            have e1 := hZ2.frozen 1
            have e2 := hZ2.frozen 2
            have gf := gs.trans (bq3.mono gs.size)
            have rP := Pq3
            go_wp2_with fail
            refine bodyPost_ret (v := .tuple #[.agg #[.int .i64 5, .int .i64 0, .slice (some ⟨q0.heap.size, 0, none⟩) 2 2], .int .i64 0]) (by simp [results, Tryz.results134, go_sem, d0, d1, d2]) rfl ⟨some ⟨q0.heap.size, 0, none⟩, 2, rfl, by simp, rd_set0 hZ2 hvd.out rP _ _ _, ?_⟩
            exact ((gf.setCell (by simp) _).setCell (by simp) _).setCell (by simp) _
open Go.RowKit
theorem PartR.ownB {lo : Nat → Prop} {B : Nat} {w : World} {v : Value} {ts : List Tm} (h : PartR lo B w v ts) : ∀ g, v.ownBlock = some g → B ≤ g := fun g hg => by
  obtain ⟨xs, h1, _⟩ := h
  exact (h1.lt g hg).1
/-- a context, and that there is room -/
def GotE (w : World) (ctx : List Tm) (e : Ending) (w' : World) : Prop :=
  ∃ D d, e = .returned (.tuple #[.slice D ctx.length d, .int .i64 0]) ∧ Rd w' D 0 ctx ∧ Below w.heap.size w w'
set_option maxRecDepth 100000 in
set_option maxHeartbeats 8000000 in
theorem iext_any (ctx : List Tm) (C : Option Addr) (cc : Nat) (k n : Int) (ks : List Tm) (A : Option Addr) (c : Nat) (w : World) (hm : ctx.length < 20) (hl : ks.length ≤ 9223372036854775807) (hrc : Rd w C 0 ctx) (hra : Rd w A 0 ks) :
    Calls Tryz.prog 123 #[.slice C ctx.length cc, .agg #[.int .i64 k, .int .i64 n, .slice A ks.length c]] w (GotE w (ctx ++ [.mk k n ks])) := by
  have hq : decide ((20 : Int) ≤ (ctx.length : Int)) = false := decide_eq_false (by omega)
  go_enter Tryz.func123, Tryz.ntmps123
  go_upto_region 3 with fail
  refine name_world ?_
  intro wx hwx
  have hT : Blk wx w.heap.size #[.int .i64 k, .int .i64 n, .slice A ks.length c] := by rw [hwx]; exact Blk.new_ _ 27 _ rfl
  have gx : Below w.heap.size w wx := by rw [hwx]; exact (Below.refl _ _).alloc (Nat.le_refl _) _
  clear hwx
  have rcx := (hrc.below gx).rdp
  have rax := (hra.below gx).rdp
  have v0 := rule_of hT.three.1
  have v1 := rule_of hT.three.2.1
  have v2 := rule_of hT.three.2.2
  obtain ⟨q0, hq0⟩ : ∃ q0, q0 = wx.drew := ⟨_, rfl⟩
  have bq0 : Below wx.heap.size wx q0 := by rw [hq0]; exact (Below.refl _ _).drew
  refine gC_start (fun w' => Below wx.heap.size wx w') [4, 5, 6] 7 (by kernel_rfl) rfl ?_
  refine gC_take [0, 2] (f := 5) (l' := #[true, false, true, false, false, false, false]) (lT := [_, _]) (by rw [← hq0]; exact bq0) rfl (by kernel_rfl) (by kernel_rfl) (by kernel_rfl) rfl (fun _ _ d _ _ h => by cases d <;> exact h) ?_
  repeat (first | ((refine takeY_skip (a' := ?_) ?_ ?_ ?_); (rotate_left); (· (simp [Region.wanted, yielded, Go.undef]; done)); (· (simp only [List.getElem_toArray, List.getElem_cons_zero, List.getElem_cons_succ, Act.put, List.setIfInBounds_toArray, List.set_cons_zero, List.set_cons_succ]; exact rfl))) | ((refine takeY_step (v := ?_) (a' := ?_) ?_ ?_ ?_ ?_); (rotate_left 2); (· (simp [Region.wanted, yielded, Go.undef]; done)); (· (intro w' hS'; go_simp; try (with_reducible rfl))); (· (simp only [List.getElem_toArray, List.getElem_cons_zero, List.getElem_cons_succ, Act.put, List.setIfInBounds_toArray, List.set_cons_zero, List.set_cons_succ]; exact rfl))))
  refine takeY_nil ?_
  rw [← hq0]
  clear hq0
  refine gC_two (i := 1) (j := 3) (by kernel_rfl) rfl rfl ?_ ?_
  · go_wp2_with (go_at_call 137; refine (iClone_any (fun b => b < wx.heap.size) ctx _ cc _ (by omega) (rcx.below bq0) (fun b hb => Nat.lt_of_lt_of_le hb bq0.size)).mono ?_; rintro e q1 ⟨C2, c2, rfl, hPq1, hbq1⟩)
    have bq1 : Below wx.heap.size wx q1 := bq0.trans (hbq1.mono bq0.size)
    have lq1 := hbq1.size
    refine mid_intro bq1 ?_
    refine gC_one (i := 3) (by kernel_rfl) rfl ?_
    · go_wp2_with fail
      refine name_midw ?_
      intro q2 hn
      have hbq2 : Below q1.heap.size q1 q2 := by rw [hn]; exact (Below.refl _ _).alloc (Nat.le_refl _) _
      have zq2 : Blk q2 q1.heap.size #[.int .i64 k, .int .i64 n, .slice A ks.length c] := by rw [hn]; exact Blk.new_ _ 27 _ rfl
      have seq2 : q1.heap.size < q2.heap.size := by rw [hn]; simp
      clear hn
      have Pq2 := hPq1.below hbq2
      have bq2 : Below wx.heap.size wx q2 := bq1.trans (hbq2.mono bq1.size)
      have lq2 := hbq2.size
      refine mid_intro bq2 ?_
      refine gC_end [4, 5, 6] (lB := [_, _, _]) (by simp) (by kernel_rfl) (by kernel_rfl) rfl ?_
      have hB0 : wx.heap.size ≤ q0.heap.size := bq0.size
      have hsz : wx.heap.size ≤ q2.heap.size := bq2.size
      have hBw : q0.heap.size ≤ q2.heap.size := by first | exact Nat.le_refl _ | omega
      refine wpList_append_rdW (lo := fun b => b < wx.heap.size) (B := q0.heap.size) (q := fun b => b < wx.heap.size) Pq2 hBw (rax.below bq2) (fun b hb => ⟨.inl hb, by omega, fun e => by have := Pq2.ownB b e; omega⟩) hl rfl (by omega) q1.heap.size 1 zq2 rfl _ _ rfl rfl rfl ?_
      intro A9 c9 w9 hp9 hb9 hg9 hn9
      obtain ⟨A8, c8, e8, r8⟩ := hp9.rd
      injection e8 with e81 e82 e83
      subst e81 e83
      have hlen9 : (ctx ++ [Tm.mk k n ks]).length = ctx.length + 1 := by simp
      simp only [List.getElem_toArray, List.getElem_cons_zero, List.getElem_cons_succ, Act.put, List.setIfInBounds_toArray, List.set_cons_zero, List.set_cons_succ]
      go_wp2_with fail
      go_ret2
      exact ⟨A9, c9, by rw [hlen9]; rfl, r8.rd, (gx.trans (bq2.mono gx.size)).trans (hb9.mono (by have := gx.size; omega))⟩
  · go_wp2_with fail
    refine name_midw ?_
    intro q3 hn
    have hbq3 : Below q0.heap.size q0 q3 := by rw [hn]; exact (Below.refl _ _).alloc (Nat.le_refl _) _
    have zq3 : Blk q3 q0.heap.size #[.int .i64 k, .int .i64 n, .slice A ks.length c] := by rw [hn]; exact Blk.new_ _ 27 _ rfl
    have seq3 : q0.heap.size < q3.heap.size := by rw [hn]; simp
    clear hn
    have bq3 : Below wx.heap.size wx q3 := bq0.trans (hbq3.mono bq0.size)
    have lq3 := hbq3.size
    refine mid_intro bq3 ?_
    refine gC_one (i := 1) (by kernel_rfl) rfl ?_
    · go_wp2_with (go_at_call 137; refine (iClone_any (fun b => b < wx.heap.size) ctx _ cc _ (by omega) (rcx.below bq3) (fun b hb => Nat.lt_of_lt_of_le hb bq3.size)).mono ?_; rintro e q4 ⟨C2, c2, rfl, hPq4, hbq4⟩)
      have Zq4 := zq3.keep hbq4
      have bq4 : Below wx.heap.size wx q4 := bq3.trans (hbq4.mono bq3.size)
      have lq4 := hbq4.size
      refine mid_intro bq4 ?_
      refine gC_end [4, 5, 6] (lB := [_, _, _]) (by simp) (by kernel_rfl) (by kernel_rfl) rfl ?_
      have hB0 : wx.heap.size ≤ q3.heap.size := bq3.size
      have hsz : wx.heap.size ≤ q4.heap.size := bq4.size
      have hBw : q3.heap.size ≤ q4.heap.size := by first | exact Nat.le_refl _ | omega
      refine wpList_append_rdW (lo := fun b => b < wx.heap.size) (B := q3.heap.size) (q := fun b => b < wx.heap.size) hPq4 hBw (rax.below bq4) (fun b hb => ⟨.inl hb, by omega, fun e => by have := hPq4.ownB b e; omega⟩) hl rfl (by omega) q0.heap.size 1 Zq4 rfl _ _ rfl rfl rfl ?_
      intro A9 c9 w9 hp9 hb9 hg9 hn9
      obtain ⟨A8, c8, e8, r8⟩ := hp9.rd
      injection e8 with e81 e82 e83
      subst e81 e83
      have hlen9 : (ctx ++ [Tm.mk k n ks]).length = ctx.length + 1 := by simp
      simp only [List.getElem_toArray, List.getElem_cons_zero, List.getElem_cons_succ, Act.put, List.setIfInBounds_toArray, List.set_cons_zero, List.set_cons_succ]
      go_wp2_with fail
      go_ret2
      exact ⟨A9, c9, by rw [hlen9]; rfl, r8.rd, (gx.trans (bq4.mono gx.size)).trans (hb9.mono (by have := gx.size; omega))⟩
set_option maxRecDepth 100000 in
set_option maxHeartbeats 8000000 in
theorem iopc_no (C : Option Addr) (m cc : Nat) (k n : Int) (A : Option Addr) (la c : Nat) (i : Nat) (w : World) (hu : under k i = 0) :
    Calls Tryz.prog 96 #[.slice C m cc, .agg #[.int .i64 k, .int .i64 n, .slice A la c], .int .i64 i] w fun e w' => e = .returned (.tuple #[.slice C m cc, .int .i64 0]) ∧ Below w.heap.size w w' := by
  have hu' := hide hu
  clear hu
  go_enter Tryz.func96, Tryz.ntmps96
  go_wp2_with (go_at_call 76; refine (iUnder_any _ _ _).mono ?_; rw [hu'.out]; rintro e w1 ⟨rfl, rfl⟩)
  go_ret2
  exact ⟨rfl, (Below.refl _ _).alloc (Nat.le_refl _) _⟩
set_option maxRecDepth 100000 in
set_option maxHeartbeats 8000000 in
theorem iopc_yes (ctx : List Tm) (C : Option Addr) (cc : Nat) (k n : Int) (ka na : Int) (sa : List Tm) (ts : List Tm) (A : Option Addr) (c : Nat) (i : Nat) (w : World) (hu : under k i = 1) (hm : ctx.length < 20) (hlt : ts.length ≤ 1000) (hrc : Rd w C 0 ctx) (hra : Rd w A 0 (.mk ka na sa :: ts)) :
    Calls Tryz.prog 96 #[.slice C ctx.length cc, .agg #[.int .i64 k, .int .i64 n, .slice A (ts.length + 1) c], .int .i64 i] w (GotE w (ctx ++ [.mk ka na sa])) := by
  have hu' := hide hu
  clear hu
  obtain ⟨ba, oa, x1, x2, x3, Aa, ca, rfl, hk1, i1, i2, i3, hla, ra⟩ := hra.at_ (j := 0) (by simp)
  injection hk1 with e1 e2 e3
  subst e1 e2 e3
  simp only [Nat.zero_mul, Nat.add_zero] at i1 i2 i3
  have lb := World.block_lt_of_cell? _ _ i1
  have q2 : (0 : Int) < ((ts.length : Nat) : Int) + 1 := by omega
  go_enter Tryz.func96, Tryz.ntmps96
  go_wp2_with (first
    | (go_at_call 123; refine (iext_any ctx C cc ka na sa Aa ca _ hm hla (hrc.alloc _) (ra.alloc _)).mono ?_; rintro e w2 ⟨D, d, rfl, hrD, hb2⟩)
    | (go_at_call 76; refine (iUnder_any _ _ _).mono ?_; rw [hu'.out]; rintro e w1 ⟨rfl, rfl⟩))
  have hlen9 : (ctx ++ [Tm.mk ka na sa]).length = ctx.length + 1 := by simp
  go_ret2
  exact ⟨D, d, by rw [hlen9]; rfl, hrD, ((Below.refl _ _).alloc (Nat.le_refl _) _).trans (hb2.mono (by simp))⟩
end Go.Proofs.YthgmofdfecioaaaGreatDoor
