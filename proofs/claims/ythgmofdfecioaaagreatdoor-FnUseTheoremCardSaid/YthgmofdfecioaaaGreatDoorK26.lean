/-
  Contracts of the functions that the law reaches, and plain lemmas. No condition.
-/
import Derived.Test.YthgmofdfecioaaaGreatDoorK25
namespace Go.Proofs.YthgmofdfecioaaaGreatDoor
set_option linter.unusedSimpArgs false
set_option linter.unusedVariables false
open Go.RowKit
set_option maxRecDepth 100000 in
set_option maxHeartbeats 16000000 in
theorem irecursion_any (C : Option Addr) (m cc : Nat) (k n : Int) (A : Option Addr) (c b2 b3 : Nat) (kp np : Int) (sp : List Tm) (t1 t2 : Tm) (ka na : Int) (sa : List Tm) (k1 n1 : Int) (s1 : List Tm) (k2 n2 : Int) (s2 : List Tm) (ty : Nat → Option Tm) (w : World) (hf : famS (ty 0) natT = true) (hvp : validT (.mk kp np sp) = true) (hva : validT (.mk 5 0 [.mk kp np sp, .mk 7 0 []]) = true) (h1c : chkS (ty 1) (.mk 5 0 [.mk kp np sp, .mk 7 0 []]) = true)
    (hs1 : shiftI 1 0 (.mk kp np sp) = some (.mk k1 n1 s1)) (hs2 : shiftI 2 0 (.mk kp np sp) = some (.mk k2 n2 s2)) (hvst : validT (.mk 3 0 [.mk 6 0 [], .mk 3 0 [.mk 5 0 [.mk k1 n1 s1, .mk 1 0 []], .mk 5 0 [.mk k2 n2 s2, .mk 8 0 [.mk 1 1 []]]]]) = true) (h2c : chkS (ty 2) (.mk 3 0 [.mk 6 0 [], .mk 3 0 [.mk 5 0 [.mk k1 n1 s1, .mk 1 0 []], .mk 5 0 [.mk k2 n2 s2, .mk 8 0 [.mk 1 1 []]]]]) = true) (h3c : chkS (ty 3) (.mk 6 0 []) = true) (hvr : validT (.mk 5 0 [.mk kp np sp, .mk ka na sa]) = true) (hT : TyOk b2 b3 w ty) (hr : Rd w A 0 [.mk kp np sp, t1, t2, .mk ka na sa]) :
    Calls Tryz.prog 132 #[.agg #[.slice C m cc, .int .i64 k, .int .i64 n, .slice A 4 c, .func (.func 95) #[] #[.pointer (some ⟨b2, 0, none⟩), .pointer (some ⟨b3, 0, none⟩)]]] w (GotI w 5 0 [.mk kp np sp, .mk ka na sa]) := by
  replace hf := hide (show famS (ty 0) (.mk 6 0 []) = true from hf)
  replace hvp := hide hvp
  replace hva := hide hva
  replace h1c := hide h1c
  replace hs1 := hide hs1
  replace hs2 := hide hs2
  replace hvst := hide hvst
  replace h2c := hide h2c
  replace h3c := hide h3c
  replace hvr := hide hvr
  obtain ⟨bp, op, x1, x2, x3, Ap, cp, rfl, hk1, i1, i2, i3, hlp, rp0⟩ := hr.at_ (j := 0) (by simp)
  injection hk1 with e1 e2 e3
  subst e1 e2 e3
  obtain ⟨bb, ob, x1, x2, x3, Aa, ca, hAb, hk2, z1, z2, z3, hla, ra0⟩ := hr.at_ (j := 3) (by simp)
  injection hk2 with e1 e2 e3
  injection hAb with hA
  injection hA with hA1 hA2
  subst e1 e2 e3 hA1 hA2
  simp only [Nat.zero_mul, Nat.add_zero, Nat.one_mul, Nat.reduceMul] at i1 i2 i3 z1 z2 z3
  have lbp := World.block_lt_of_cell? _ _ i1
  go_enter Tryz.func132, Tryz.ntmps132
  go_upto_region 2 with fail
  refine name_world ?_
  intro wx hwx
  have hJx : Blk wx w.heap.size #[.slice C m cc, .int .i64 k, .int .i64 n, .slice (some ⟨bp, op, none⟩) 4 c, .func (.func 95) #[] #[.pointer (some ⟨b2, 0, none⟩), .pointer (some ⟨b3, 0, none⟩)]] := by rw [hwx]; exact ((Blk.new_ _ 104 _ rfl).alloc _).alloc _
  have hZx : Blk wx (w.heap.size + 1) #[.int .i64 0, .int .i64 0, .slice none 0 0] := by rw [hwx]; exact (Blk.new_ _ 27 _ (by simp)).alloc _
  have hPx : Blk wx (w.heap.size + 1 + 1) #[.int .i64 kp, .int .i64 np, .slice Ap sp.length cp] := by rw [hwx]; exact Blk.new_ _ 27 _ (by simp)
  have gx : Below w.heap.size w wx := by rw [hwx]; exact (((Below.refl _ _).alloc (Nat.le_refl _) _).alloc (by simp) _).alloc (by simp; omega) _
  clear hwx
  have u0 := rule_of (hJx.at_ (i := 0) rfl)
  have u1 := rule_of (hJx.at_ (i := 1) rfl)
  have u2 := rule_of (hJx.at_ (i := 2) rfl)
  have u3 := rule_of (hJx.at_ (i := 3) rfl)
  have u4 := rule_of (hJx.at_ (i := 4) rfl)
  obtain ⟨q0, hq0⟩ : ∃ q0, q0 = wx.drew := ⟨_, rfl⟩
  have bq0 : Below wx.heap.size wx q0 := by rw [hq0]; exact (Below.refl _ _).drew
  refine gC_start (fun w' => Below wx.heap.size wx w') [3] 4 (by kernel_rfl) rfl ?_
  refine gC_take [0] (f := 3) (l' := #[true, false, false, false]) (lT := [_]) (by rw [← hq0]; exact bq0) rfl (by kernel_rfl) (by kernel_rfl) (by kernel_rfl) rfl (fun _ _ d _ _ h => by cases d <;> exact h) ?_
  repeat (first | ((refine takeY_skip (a' := ?_) ?_ ?_ ?_); (rotate_left); (· (simp [Region.wanted, yielded, Go.undef]; done)); (· (simp only [List.getElem_toArray, List.getElem_cons_zero, List.getElem_cons_succ, Act.put, List.setIfInBounds_toArray, List.set_cons_zero, List.set_cons_succ]; exact rfl))) | ((refine takeY_step (v := ?_) (a' := ?_) ?_ ?_ ?_ ?_); (rotate_left 2); (· (simp [Region.wanted, yielded, Go.undef]; done)); (· (intro w' hS'; go_simp; try (with_reducible rfl))); (· (simp only [List.getElem_toArray, List.getElem_cons_zero, List.getElem_cons_succ, Act.put, List.setIfInBounds_toArray, List.set_cons_zero, List.set_cons_succ]; exact rfl))))
  refine takeY_nil ?_
  rw [← hq0]
  clear hq0
  refine gC_one (i := 1) (by kernel_rfl) rfl ?_
  · go_wp2_with (go_at_call 26; refine (inode_any 6 _ ⟨_, _, _, rfl⟩ _).mono ?_; rintro e q1 ⟨rfl, hbq1⟩)
    have bq1 : Below wx.heap.size wx q1 := bq0.trans (hbq1.mono bq0.size)
    have lq1 := hbq1.size
    refine mid_intro bq1 ?_
    refine gC_one (i := 2) (by kernel_rfl) rfl ?_
    · go_wp2_with (go_at_call 151; refine (ifamily_any C m cc k n _ 4 c b2 b3 0 (by omega) 6 0 [] none 0 ty _ hf.out ((hT.below gx).below bq1) Rd.nil).mono ?_; rintro e q2 ⟨rfl, hbq2⟩)
      have bq2 : Below wx.heap.size wx q2 := bq1.trans (hbq2.mono bq1.size)
      have lq2 := hbq2.size
      refine mid_intro bq2 ?_
      refine gC_end [3] (lB := [_]) (by simp) (by kernel_rfl) (by kernel_rfl) rfl ?_
      go_upto_region 5 with fail
      refine name_world ?_
      intro wu hwu
      have hJu := (show Blk wu w.heap.size _ by rw [hwu]; exact hJx.keep bq2)
      have hZu := (show Blk wu (w.heap.size + 1) _ by rw [hwu]; exact hZx.keep bq2)
      have hPu : Blk wu (w.heap.size + 1 + 1) #[.int .i64 kp, .int .i64 np, .slice Ap sp.length cp] := by rw [hwu]; exact hPx.keep bq2
      have gu : Below w.heap.size w wu := by rw [hwu]; exact gx.trans (bq2.mono gx.size)
      clear hwu
      have rpu := rp0.below gu
      have v0 := rule_of hPu.three.1
      have v1 := rule_of hPu.three.2.1
      have v2 := rule_of hPu.three.2.2
      go_cut [6, 7] (fun vp vc wy => ∃ (gz : Nat) (Az : Option Addr) (cz : Nat), vp = .pointer (some ⟨gz, 0, none⟩) ∧ vc = .int .i64 0 ∧ Blk wy gz #[.int .i64 5, .int .i64 0, .slice Az 2 cz] ∧ Rd wy Az 0 [.mk kp np sp, .mk 7 0 []] ∧ Below wu.heap.size wu wy ∧ wu.heap.size ≤ gz)
      case first =>
        obtain ⟨q0, hq0⟩ : ∃ q0, q0 = wu.drew := ⟨_, rfl⟩
        have bq0 : Below wu.heap.size wu q0 := by rw [hq0]; exact (Below.refl _ _).drew
        refine gC_start (fun w' => Below wu.heap.size wu w') [5, 6, 7, 9, 10] 11 (by kernel_rfl) rfl ?_
        refine gC_take [0] (f := 10) (l' := #[true, false, false, false, false, false, false, false, false, false, false]) (lT := [_]) (by rw [← hq0]; exact bq0) rfl (by kernel_rfl) (by kernel_rfl) (by kernel_rfl) rfl (fun _ _ d _ _ h => by cases d <;> exact h) ?_
        repeat (first | ((refine takeY_skip (a' := ?_) ?_ ?_ ?_); (rotate_left); (· (simp [Region.wanted, yielded, Go.undef]; done)); (· (simp only [List.getElem_toArray, List.getElem_cons_zero, List.getElem_cons_succ, Act.put, List.setIfInBounds_toArray, List.set_cons_zero, List.set_cons_succ]; exact rfl))) | ((refine takeY_step (v := ?_) (a' := ?_) ?_ ?_ ?_ ?_); (rotate_left 2); (· (simp [Region.wanted, yielded, Go.undef]; done)); (· (intro w' hS'; go_simp; try (with_reducible rfl))); (· (simp only [List.getElem_toArray, List.getElem_cons_zero, List.getElem_cons_succ, Act.put, List.setIfInBounds_toArray, List.set_cons_zero, List.set_cons_succ]; exact rfl))))
        refine takeY_nil ?_
        rw [← hq0]
        clear hq0
        refine gC_two (i := 1) (j := 8) (by kernel_rfl) rfl rfl ?_ ?_
        · go_wp2_with (go_at_call 26; refine (inode_any 7 _ ⟨_, _, _, rfl⟩ _).mono ?_; rintro e q1 ⟨rfl, hbq1⟩)
          have bq1 : Below wu.heap.size wu q1 := bq0.trans (hbq1.mono bq0.size)
          have lq1 := hbq1.size
          refine mid_intro bq1 ?_
          refine gC_two (i := 2) (j := 8) (by kernel_rfl) rfl rfl ?_ ?_
          · go_wp2_with fail
            refine name_midw ?_
            intro q2 hn
            have hbq2 : Below q1.heap.size q1 q2 := by rw [hn]; exact (Below.refl _ _).alloc (Nat.le_refl _) _
            have zq2 : Blk q2 q1.heap.size #[.int .i64 kp, .int .i64 np, .slice Ap sp.length cp, .int .i64 7, .int .i64 0, .slice none 0 0] := by rw [hn]; exact Blk.new_ _ 27 _ rfl
            have seq2 : q1.heap.size < q2.heap.size := by rw [hn]; simp
            clear hn
            have rq2 : Rd q2 (some ⟨q1.heap.size, 0, none⟩) 0 [.mk kp np sp, .mk 7 0 []] := rd_row2 (s0 := sp) (s1 := []) zq2 hlp (by simp) ((rpu.below bq1).below hbq2) Rd.nil
            have bq2 : Below wu.heap.size wu q2 := bq1.trans (hbq2.mono bq1.size)
            have lq2 := hbq2.size
            refine mid_intro bq2 ?_
            refine gC_two (i := 3) (j := 8) (by kernel_rfl) rfl rfl ?_ ?_
            · go_wp2_with (go_at_call 26; refine (inode_any 5 _ ⟨_, _, _, rfl⟩ _).mono ?_; rintro e q3 ⟨rfl, hbq3⟩)
              have Pq3 := rq2.below hbq3
              have bq3 : Below wu.heap.size wu q3 := bq2.trans (hbq3.mono bq2.size)
              have lq3 := hbq3.size
              refine mid_intro bq3 ?_
              refine gC_two (i := 4) (j := 8) (by kernel_rfl) rfl rfl ?_ ?_
              · go_wp2_with (go_at_call 124; refine (imade_yes 5 0 [.mk kp np sp, .mk 7 0 []] _ 2 _ hva.out Pq3).mono ?_; rintro e q4 ⟨rfl, hbq4⟩)
                have Pq4 := Pq3.below hbq4
                have bq4 : Below wu.heap.size wu q4 := bq3.trans (hbq4.mono bq3.size)
                have lq4 := hbq4.size
                refine mid_intro bq4 ?_
                refine gC_takeT [5, 6, 7] (f := 3) (l' := #[true, true, true, true, true, true, true, true, false, false, false]) (lT := [_, _, _]) rfl (by kernel_rfl) (by kernel_rfl) (by kernel_rfl) rfl (fun _ _ d _ _ h => by cases d <;> exact h) ?_
                repeat (first | ((refine takeY_skip (a' := ?_) ?_ ?_ ?_); (rotate_left); (· (simp [Region.wanted, yielded, Go.undef]; done)); (· (simp only [List.getElem_toArray, List.getElem_cons_zero, List.getElem_cons_succ, Act.put, List.setIfInBounds_toArray, List.set_cons_zero, List.set_cons_succ]; exact rfl))) | ((refine takeY_step (v := ?_) (a' := ?_) ?_ ?_ ?_ ?_); (rotate_left 2); (· (simp [Region.wanted, yielded, Go.undef]; done)); (· (intro w' hS'; go_simp; try (with_reducible rfl))); (· (simp only [List.getElem_toArray, List.getElem_cons_zero, List.getElem_cons_succ, Act.put, List.setIfInBounds_toArray, List.set_cons_zero, List.set_cons_succ]; exact rfl))))
                refine takeY_nil ?_
                refine gC_one (i := 8) (by kernel_rfl) rfl ?_
                · go_wp2_with fail
                  refine name_midw ?_
                  intro q5 hn
                  have hbq5 : Below q4.heap.size q4 q5 := by rw [hn]; exact (Below.refl _ _).alloc (Nat.le_refl _) _
                  have zq5 : Blk q5 q4.heap.size #[.int .i64 0, .int .i64 0, .slice none 0 0] := by rw [hn]; exact Blk.new_ _ 27 _ rfl
                  have seq5 : q4.heap.size < q5.heap.size := by rw [hn]; simp
                  clear hn
                  have Pq5 := Pq4.below hbq5
                  have bq5 : Below wu.heap.size wu q5 := bq4.trans (hbq5.mono bq4.size)
                  have lq5 := hbq5.size
                  refine mid_intro bq5 ?_
                  refine gC_end [9, 10] (lB := [_, _]) (by simp) (by kernel_rfl) (by kernel_rfl) rfl ?_
                  obtain ⟨d0, d1, d2⟩ := zq5.three
                  have e0 := zq5.frozen 0
                  have e1 := zq5.frozen 1
                  have e2 := zq5.frozen 2
                  have szb : wu.heap.size ≤ q4.heap.size := by first | exact bq0.size | exact bq4.size
                  go_wp2_with fail
                  go_meet
                  exact ⟨q4.heap.size, some ⟨q1.heap.size, 0, none⟩, 2, rfl, rfl, ((zq5.set_ 0 _).set_ 1 _).set_ 2 _, rd_set0 zq5 hva.out Pq5 _ _ _, ((bq5.setCell szb _).setCell szb _).setCell szb _, szb⟩
              · go_wp2_with fail
                refine name_midw ?_
                intro q6 hn
                have hbq6 : Below q3.heap.size q3 q6 := by rw [hn]; exact (Below.refl _ _).alloc (Nat.le_refl _) _
                have zq6 : Blk q6 q3.heap.size #[.int .i64 0, .int .i64 0, .slice none 0 0] := by rw [hn]; exact Blk.new_ _ 27 _ rfl
                have seq6 : q3.heap.size < q6.heap.size := by rw [hn]; simp
                clear hn
                have Pq6 := Pq3.below hbq6
                have bq6 : Below wu.heap.size wu q6 := bq3.trans (hbq6.mono bq3.size)
                have lq6 := hbq6.size
                refine mid_intro bq6 ?_
                refine gC_one (i := 4) (by kernel_rfl) rfl ?_
                · go_wp2_with (go_at_call 124; refine (imade_yes 5 0 [.mk kp np sp, .mk 7 0 []] _ 2 _ hva.out Pq6).mono ?_; rintro e q7 ⟨rfl, hbq7⟩)
                  have Pq7 := Pq6.below hbq7
                  have Zq7 := zq6.keep hbq7
                  have bq7 : Below wu.heap.size wu q7 := bq6.trans (hbq7.mono bq6.size)
                  have lq7 := hbq7.size
                  refine mid_intro bq7 ?_
                  refine gC_takeT [5, 6, 7] (f := 2) (l' := #[true, true, true, true, true, true, true, true, true, false, false]) (lT := [_, _, _]) rfl (by kernel_rfl) (by kernel_rfl) (by kernel_rfl) rfl (fun _ _ d _ _ h => by cases d <;> exact h) ?_
                  repeat (first | ((refine takeY_skip (a' := ?_) ?_ ?_ ?_); (rotate_left); (· (simp [Region.wanted, yielded, Go.undef]; done)); (· (simp only [List.getElem_toArray, List.getElem_cons_zero, List.getElem_cons_succ, Act.put, List.setIfInBounds_toArray, List.set_cons_zero, List.set_cons_succ]; exact rfl))) | ((refine takeY_step (v := ?_) (a' := ?_) ?_ ?_ ?_ ?_); (rotate_left 2); (· (simp [Region.wanted, yielded, Go.undef]; done)); (· (intro w' hS'; go_simp; try (with_reducible rfl))); (· (simp only [List.getElem_toArray, List.getElem_cons_zero, List.getElem_cons_succ, Act.put, List.setIfInBounds_toArray, List.set_cons_zero, List.set_cons_succ]; exact rfl))))
                  refine takeY_nil ?_
                  refine gC_end [9, 10] (lB := [_, _]) (by simp) (by kernel_rfl) (by kernel_rfl) rfl ?_
                  obtain ⟨d0, d1, d2⟩ := Zq7.three
                  have e0 := Zq7.frozen 0
                  have e1 := Zq7.frozen 1
                  have e2 := Zq7.frozen 2
                  have szb : wu.heap.size ≤ q3.heap.size := by first | exact bq0.size | exact bq3.size
                  go_wp2_with fail
                  go_meet
                  exact ⟨q3.heap.size, some ⟨q1.heap.size, 0, none⟩, 2, rfl, rfl, ((Zq7.set_ 0 _).set_ 1 _).set_ 2 _, rd_set0 Zq7 hva.out Pq7 _ _ _, ((bq7.setCell szb _).setCell szb _).setCell szb _, szb⟩
            · go_wp2_with fail
              refine name_midw ?_
              intro q8 hn
              have hbq8 : Below q2.heap.size q2 q8 := by rw [hn]; exact (Below.refl _ _).alloc (Nat.le_refl _) _
              have zq8 : Blk q8 q2.heap.size #[.int .i64 0, .int .i64 0, .slice none 0 0] := by rw [hn]; exact Blk.new_ _ 27 _ rfl
              have seq8 : q2.heap.size < q8.heap.size := by rw [hn]; simp
              clear hn
              have Pq8 := rq2.below hbq8
              have bq8 : Below wu.heap.size wu q8 := bq2.trans (hbq8.mono bq2.size)
              have lq8 := hbq8.size
              refine mid_intro bq8 ?_
              refine gC_one (i := 3) (by kernel_rfl) rfl ?_
              · go_wp2_with (go_at_call 26; refine (inode_any 5 _ ⟨_, _, _, rfl⟩ _).mono ?_; rintro e q9 ⟨rfl, hbq9⟩)
                have Pq9 := Pq8.below hbq9
                have Zq9 := zq8.keep hbq9
                have bq9 : Below wu.heap.size wu q9 := bq8.trans (hbq9.mono bq8.size)
                have lq9 := hbq9.size
                refine mid_intro bq9 ?_
                refine gC_one (i := 4) (by kernel_rfl) rfl ?_
                · go_wp2_with (go_at_call 124; refine (imade_yes 5 0 [.mk kp np sp, .mk 7 0 []] _ 2 _ hva.out Pq9).mono ?_; rintro e q10 ⟨rfl, hbq10⟩)
                  have Pq10 := Pq9.below hbq10
                  have Zq10 := Zq9.keep hbq10
                  have bq10 : Below wu.heap.size wu q10 := bq9.trans (hbq10.mono bq9.size)
                  have lq10 := hbq10.size
                  refine mid_intro bq10 ?_
                  refine gC_takeT [5, 6, 7] (f := 2) (l' := #[true, true, true, true, true, true, true, true, true, false, false]) (lT := [_, _, _]) rfl (by kernel_rfl) (by kernel_rfl) (by kernel_rfl) rfl (fun _ _ d _ _ h => by cases d <;> exact h) ?_
                  repeat (first | ((refine takeY_skip (a' := ?_) ?_ ?_ ?_); (rotate_left); (· (simp [Region.wanted, yielded, Go.undef]; done)); (· (simp only [List.getElem_toArray, List.getElem_cons_zero, List.getElem_cons_succ, Act.put, List.setIfInBounds_toArray, List.set_cons_zero, List.set_cons_succ]; exact rfl))) | ((refine takeY_step (v := ?_) (a' := ?_) ?_ ?_ ?_ ?_); (rotate_left 2); (· (simp [Region.wanted, yielded, Go.undef]; done)); (· (intro w' hS'; go_simp; try (with_reducible rfl))); (· (simp only [List.getElem_toArray, List.getElem_cons_zero, List.getElem_cons_succ, Act.put, List.setIfInBounds_toArray, List.set_cons_zero, List.set_cons_succ]; exact rfl))))
                  refine takeY_nil ?_
                  refine gC_end [9, 10] (lB := [_, _]) (by simp) (by kernel_rfl) (by kernel_rfl) rfl ?_
                  obtain ⟨d0, d1, d2⟩ := Zq10.three
                  have e0 := Zq10.frozen 0
                  have e1 := Zq10.frozen 1
                  have e2 := Zq10.frozen 2
                  have szb : wu.heap.size ≤ q2.heap.size := by first | exact bq0.size | exact bq2.size
                  go_wp2_with fail
                  go_meet
                  exact ⟨q2.heap.size, some ⟨q1.heap.size, 0, none⟩, 2, rfl, rfl, ((Zq10.set_ 0 _).set_ 1 _).set_ 2 _, rd_set0 Zq10 hva.out Pq10 _ _ _, ((bq10.setCell szb _).setCell szb _).setCell szb _, szb⟩
          · go_wp2_with fail
            refine name_midw ?_
            intro q11 hn
            have hbq11 : Below q1.heap.size q1 q11 := by rw [hn]; exact (Below.refl _ _).alloc (Nat.le_refl _) _
            have zq11 : Blk q11 q1.heap.size #[.int .i64 0, .int .i64 0, .slice none 0 0] := by rw [hn]; exact Blk.new_ _ 27 _ rfl
            have seq11 : q1.heap.size < q11.heap.size := by rw [hn]; simp
            clear hn
            have bq11 : Below wu.heap.size wu q11 := bq1.trans (hbq11.mono bq1.size)
            have lq11 := hbq11.size
            refine mid_intro bq11 ?_
            refine gC_one (i := 2) (by kernel_rfl) rfl ?_
            · go_wp2_with fail
              refine name_midw ?_
              intro q12 hn
              have hbq12 : Below q11.heap.size q11 q12 := by rw [hn]; exact (Below.refl _ _).alloc (Nat.le_refl _) _
              have zq12 : Blk q12 q11.heap.size #[.int .i64 kp, .int .i64 np, .slice Ap sp.length cp, .int .i64 7, .int .i64 0, .slice none 0 0] := by rw [hn]; exact Blk.new_ _ 27 _ rfl
              have seq12 : q11.heap.size < q12.heap.size := by rw [hn]; simp
              clear hn
              have rq12 : Rd q12 (some ⟨q11.heap.size, 0, none⟩) 0 [.mk kp np sp, .mk 7 0 []] := rd_row2 (s0 := sp) (s1 := []) zq12 hlp (by simp) ((rpu.below bq11).below hbq12) Rd.nil
              have Zq12 := zq11.keep hbq12
              have bq12 : Below wu.heap.size wu q12 := bq11.trans (hbq12.mono bq11.size)
              have lq12 := hbq12.size
              refine mid_intro bq12 ?_
              refine gC_one (i := 3) (by kernel_rfl) rfl ?_
              · go_wp2_with (go_at_call 26; refine (inode_any 5 _ ⟨_, _, _, rfl⟩ _).mono ?_; rintro e q13 ⟨rfl, hbq13⟩)
                have Zq13 := Zq12.keep hbq13
                have Pq13 := rq12.below hbq13
                have bq13 : Below wu.heap.size wu q13 := bq12.trans (hbq13.mono bq12.size)
                have lq13 := hbq13.size
                refine mid_intro bq13 ?_
                refine gC_one (i := 4) (by kernel_rfl) rfl ?_
                · go_wp2_with (go_at_call 124; refine (imade_yes 5 0 [.mk kp np sp, .mk 7 0 []] _ 2 _ hva.out Pq13).mono ?_; rintro e q14 ⟨rfl, hbq14⟩)
                  have Zq14 := Zq13.keep hbq14
                  have Pq14 := Pq13.below hbq14
                  have bq14 : Below wu.heap.size wu q14 := bq13.trans (hbq14.mono bq13.size)
                  have lq14 := hbq14.size
                  refine mid_intro bq14 ?_
                  refine gC_takeT [5, 6, 7] (f := 2) (l' := #[true, true, true, true, true, true, true, true, true, false, false]) (lT := [_, _, _]) rfl (by kernel_rfl) (by kernel_rfl) (by kernel_rfl) rfl (fun _ _ d _ _ h => by cases d <;> exact h) ?_
                  repeat (first | ((refine takeY_skip (a' := ?_) ?_ ?_ ?_); (rotate_left); (· (simp [Region.wanted, yielded, Go.undef]; done)); (· (simp only [List.getElem_toArray, List.getElem_cons_zero, List.getElem_cons_succ, Act.put, List.setIfInBounds_toArray, List.set_cons_zero, List.set_cons_succ]; exact rfl))) | ((refine takeY_step (v := ?_) (a' := ?_) ?_ ?_ ?_ ?_); (rotate_left 2); (· (simp [Region.wanted, yielded, Go.undef]; done)); (· (intro w' hS'; go_simp; try (with_reducible rfl))); (· (simp only [List.getElem_toArray, List.getElem_cons_zero, List.getElem_cons_succ, Act.put, List.setIfInBounds_toArray, List.set_cons_zero, List.set_cons_succ]; exact rfl))))
                  refine takeY_nil ?_
                  refine gC_end [9, 10] (lB := [_, _]) (by simp) (by kernel_rfl) (by kernel_rfl) rfl ?_
                  obtain ⟨d0, d1, d2⟩ := Zq14.three
                  have e0 := Zq14.frozen 0
                  have e1 := Zq14.frozen 1
                  have e2 := Zq14.frozen 2
                  have szb : wu.heap.size ≤ q1.heap.size := by first | exact bq0.size | exact bq1.size
                  go_wp2_with fail
                  go_meet
                  exact ⟨q1.heap.size, some ⟨q11.heap.size, 0, none⟩, 2, rfl, rfl, ((Zq14.set_ 0 _).set_ 1 _).set_ 2 _, rd_set0 Zq14 hva.out Pq14 _ _ _, ((bq14.setCell szb _).setCell szb _).setCell szb _, szb⟩
        · go_wp2_with fail
          refine name_midw ?_
          intro q15 hn
          have hbq15 : Below q0.heap.size q0 q15 := by rw [hn]; exact (Below.refl _ _).alloc (Nat.le_refl _) _
          have zq15 : Blk q15 q0.heap.size #[.int .i64 0, .int .i64 0, .slice none 0 0] := by rw [hn]; exact Blk.new_ _ 27 _ rfl
          have seq15 : q0.heap.size < q15.heap.size := by rw [hn]; simp
          clear hn
          have bq15 : Below wu.heap.size wu q15 := bq0.trans (hbq15.mono bq0.size)
          have lq15 := hbq15.size
          refine mid_intro bq15 ?_
          refine gC_one (i := 1) (by kernel_rfl) rfl ?_
          · go_wp2_with (go_at_call 26; refine (inode_any 7 _ ⟨_, _, _, rfl⟩ _).mono ?_; rintro e q16 ⟨rfl, hbq16⟩)
            have Zq16 := zq15.keep hbq16
            have bq16 : Below wu.heap.size wu q16 := bq15.trans (hbq16.mono bq15.size)
            have lq16 := hbq16.size
            refine mid_intro bq16 ?_
            refine gC_one (i := 2) (by kernel_rfl) rfl ?_
            · go_wp2_with fail
              refine name_midw ?_
              intro q17 hn
              have hbq17 : Below q16.heap.size q16 q17 := by rw [hn]; exact (Below.refl _ _).alloc (Nat.le_refl _) _
              have zq17 : Blk q17 q16.heap.size #[.int .i64 kp, .int .i64 np, .slice Ap sp.length cp, .int .i64 7, .int .i64 0, .slice none 0 0] := by rw [hn]; exact Blk.new_ _ 27 _ rfl
              have seq17 : q16.heap.size < q17.heap.size := by rw [hn]; simp
              clear hn
              have rq17 : Rd q17 (some ⟨q16.heap.size, 0, none⟩) 0 [.mk kp np sp, .mk 7 0 []] := rd_row2 (s0 := sp) (s1 := []) zq17 hlp (by simp) ((rpu.below bq16).below hbq17) Rd.nil
              have Zq17 := Zq16.keep hbq17
              have bq17 : Below wu.heap.size wu q17 := bq16.trans (hbq17.mono bq16.size)
              have lq17 := hbq17.size
              refine mid_intro bq17 ?_
              refine gC_one (i := 3) (by kernel_rfl) rfl ?_
              · go_wp2_with (go_at_call 26; refine (inode_any 5 _ ⟨_, _, _, rfl⟩ _).mono ?_; rintro e q18 ⟨rfl, hbq18⟩)
                have Zq18 := Zq17.keep hbq18
                have Pq18 := rq17.below hbq18
                have bq18 : Below wu.heap.size wu q18 := bq17.trans (hbq18.mono bq17.size)
                have lq18 := hbq18.size
                refine mid_intro bq18 ?_
                refine gC_one (i := 4) (by kernel_rfl) rfl ?_
                · go_wp2_with (go_at_call 124; refine (imade_yes 5 0 [.mk kp np sp, .mk 7 0 []] _ 2 _ hva.out Pq18).mono ?_; rintro e q19 ⟨rfl, hbq19⟩)
                  have Zq19 := Zq18.keep hbq19
                  have Pq19 := Pq18.below hbq19
                  have bq19 : Below wu.heap.size wu q19 := bq18.trans (hbq19.mono bq18.size)
                  have lq19 := hbq19.size
                  refine mid_intro bq19 ?_
                  refine gC_takeT [5, 6, 7] (f := 2) (l' := #[true, true, true, true, true, true, true, true, true, false, false]) (lT := [_, _, _]) rfl (by kernel_rfl) (by kernel_rfl) (by kernel_rfl) rfl (fun _ _ d _ _ h => by cases d <;> exact h) ?_
                  repeat (first | ((refine takeY_skip (a' := ?_) ?_ ?_ ?_); (rotate_left); (· (simp [Region.wanted, yielded, Go.undef]; done)); (· (simp only [List.getElem_toArray, List.getElem_cons_zero, List.getElem_cons_succ, Act.put, List.setIfInBounds_toArray, List.set_cons_zero, List.set_cons_succ]; exact rfl))) | ((refine takeY_step (v := ?_) (a' := ?_) ?_ ?_ ?_ ?_); (rotate_left 2); (· (simp [Region.wanted, yielded, Go.undef]; done)); (· (intro w' hS'; go_simp; try (with_reducible rfl))); (· (simp only [List.getElem_toArray, List.getElem_cons_zero, List.getElem_cons_succ, Act.put, List.setIfInBounds_toArray, List.set_cons_zero, List.set_cons_succ]; exact rfl))))
                  refine takeY_nil ?_
                  refine gC_end [9, 10] (lB := [_, _]) (by simp) (by kernel_rfl) (by kernel_rfl) rfl ?_
                  obtain ⟨d0, d1, d2⟩ := Zq19.three
                  have e0 := Zq19.frozen 0
                  have e1 := Zq19.frozen 1
                  have e2 := Zq19.frozen 2
                  have szb : wu.heap.size ≤ q0.heap.size := by first | exact bq0.size | exact bq0.size
                  go_wp2_with fail
                  go_meet
                  exact ⟨q0.heap.size, some ⟨q16.heap.size, 0, none⟩, 2, rfl, rfl, ((Zq19.set_ 0 _).set_ 1 _).set_ 2 _, rd_set0 Zq19 hva.out Pq19 _ _ _, ((bq19.setCell szb _).setCell szb _).setCell szb _, szb⟩
      case rest =>
        obtain ⟨gz, Az, cz, rfl, rfl, hTz, rz, hxy, hgz⟩ := hcut
        have gy := gu.trans (hxy.mono gu.size)
        have hJy := hJu.keep hxy
        have hZy := hZu.keep hxy
        have hPy := hPu.keep hxy
        have hgw : w.heap.size ≤ gz := Nat.le_trans gu.size hgz
        have lJ := hJu.lt
        have lZ := hZu.lt
        have lP := hPu.lt
        have hn1 : w.heap.size ≠ gz := by omega
        have hn2 : w.heap.size + 1 ≠ gz := by omega
        have hn3 : (w.heap.size + 1 + 1) ≠ gz := by omega
        have hn1' : gz ≠ w.heap.size := by omega
        obtain ⟨t0, t1, t2⟩ := hTz.three
        have j0 := hJy.at_ (i := 0) rfl
        have j1 := hJy.at_ (i := 1) rfl
        have j2 := hJy.at_ (i := 2) rfl
        have j3 := hJy.at_ (i := 3) rfl
        have j4 := hJy.at_ (i := 4) rfl
        clear v0 v1 v2
        go_upto_region 13 with (first
          | (go_at_call 130; have _t := tok6; refine (ihas_any C m cc k n _ 4 c b2 b3 2 (by omega) 3 0 [.mk 6 0 [], .mk 3 0 [.mk 5 0 [.mk k1 n1 s1, .mk 1 0 []], .mk 5 0 [.mk k2 n2 s2, .mk 8 0 [.mk 1 1 []]]]] A6 c6 ty _ h2c.out (hT.below (((g6.setCell (p := ⟨gz, 0, none⟩) hgw _).setCell (p := ⟨gz, 1, none⟩) hgw _).setCell (p := ⟨gz, 2, none⟩) hgw _)) r6s).mono ?_; rintro e w7 ⟨rfl, hb7⟩; have hJ7 := (((hJ6.far (p := ⟨gz, 0, none⟩) hn1 _).far (p := ⟨gz, 1, none⟩) hn1 _).far (p := ⟨gz, 2, none⟩) hn1 _).keep hb7; have hZ7 := (((hZ6.far (p := ⟨gz, 0, none⟩) hn2 _).far (p := ⟨gz, 1, none⟩) hn2 _).far (p := ⟨gz, 2, none⟩) hn2 _).keep hb7; have hP7 := (((hP6.far (p := ⟨gz, 0, none⟩) hn3 _).far (p := ⟨gz, 1, none⟩) hn3 _).far (p := ⟨gz, 2, none⟩) hn3 _).keep hb7; have g7 := (((g6.setCell (p := ⟨gz, 0, none⟩) hgw _).setCell (p := ⟨gz, 1, none⟩) hgw _).setCell (p := ⟨gz, 2, none⟩) hgw _).trans (hb7.mono (((g6.setCell (p := ⟨gz, 0, none⟩) hgw _).setCell (p := ⟨gz, 1, none⟩) hgw _).setCell (p := ⟨gz, 2, none⟩) hgw _).size))
          | (go_at_call 152; have _t := tok5; refine (istepType_any kp np sp Ap cp k1 n1 s1 k2 n2 s2 _ hvp.out hs1.out hs2.out hvst.out (rp0.below g5)).mono ?_; rintro e w6 ⟨A6, c6, rfl, hl6, r6, hb6⟩; have hJ6 := hJ5.keep hb6; have hZ6 := hZ5.keep hb6; have hP6 := hP5.keep hb6; have hG6 := hG5.keep hb6; have g6 := g5.trans (hb6.mono g5.size); clear j0 j1 j2 j3 j4; have j0 := hJ6.at_ (i := 0) rfl; have j1 := hJ6.at_ (i := 1) rfl; have j2 := hJ6.at_ (i := 2) rfl; have j3 := hJ6.at_ (i := 3) rfl; have j4 := hJ6.at_ (i := 4) rfl; obtain ⟨t0, t1, t2⟩ := hG6.three; have f0 := hG6.frozen 0; have f1 := hG6.frozen 1; have f2 := hG6.frozen 2; have lG := hG5.lt; have r6s := (((r6.setCell (a := ⟨gz, 0, none⟩) (by simp; omega) (.int .i64 3)).setCell (a := ⟨gz, 1, none⟩) (by simp; omega) (.int .i64 0)).setCell (a := ⟨gz, 2, none⟩) (by simp; omega) (.slice A6 2 c6)).rd; have tok6 := trivial)
          | (go_at_call 130; refine (ihas_any C m cc k n _ 4 c b2 b3 1 (by omega) 5 0 [.mk kp np sp, .mk 7 0 []] Az cz ty _ h1c.out (hT.below gy) rz).mono ?_; rintro e w5 ⟨rfl, hb5⟩; have hJ5 := hJy.keep hb5; have hZ5 := hZy.keep hb5; have hP5 := hPy.keep hb5; have hG5 := hTz.keep hb5; have g5 := gy.trans (hb5.mono gy.size); clear t0 t1 t2; obtain ⟨p0, p1, p2⟩ := hP5.three; have tok5 := trivial))
        refine name_world ?_
        intro wv hwv
        have hJv := (show Blk wv w.heap.size _ by rw [hwv]; exact hJ7)
        have hZv := (show Blk wv (w.heap.size + 1) _ by rw [hwv]; exact hZ7)
        have hPv := (show Blk wv (w.heap.size + 1 + 1) _ by rw [hwv]; exact hP7)
        have gv : Below w.heap.size w wv := by rw [hwv]; exact g7
        clear hwv j0 j1 j2 j3 j4
        have u0 := rule_of (hJv.at_ (i := 0) rfl)
        have u1 := rule_of (hJv.at_ (i := 1) rfl)
        have u2 := rule_of (hJv.at_ (i := 2) rfl)
        have u3 := rule_of (hJv.at_ (i := 3) rfl)
        have u4 := rule_of (hJv.at_ (i := 4) rfl)
        obtain ⟨q0, hq0⟩ : ∃ q0, q0 = wv.drew := ⟨_, rfl⟩
        have bq0 : Below wv.heap.size wv q0 := by rw [hq0]; exact (Below.refl _ _).drew
        refine gC_start (fun w' => Below wv.heap.size wv w') [3] 4 (by kernel_rfl) rfl ?_
        refine gC_take [0] (f := 3) (l' := #[true, false, false, false]) (lT := [_]) (by rw [← hq0]; exact bq0) rfl (by kernel_rfl) (by kernel_rfl) (by kernel_rfl) rfl (fun _ _ d _ _ h => by cases d <;> exact h) ?_
        repeat (first | ((refine takeY_skip (a' := ?_) ?_ ?_ ?_); (rotate_left); (· (simp [Region.wanted, yielded, Go.undef]; done)); (· (simp only [List.getElem_toArray, List.getElem_cons_zero, List.getElem_cons_succ, Act.put, List.setIfInBounds_toArray, List.set_cons_zero, List.set_cons_succ]; exact rfl))) | ((refine takeY_step (v := ?_) (a' := ?_) ?_ ?_ ?_ ?_); (rotate_left 2); (· (simp [Region.wanted, yielded, Go.undef]; done)); (· (intro w' hS'; go_simp; try (with_reducible rfl))); (· (simp only [List.getElem_toArray, List.getElem_cons_zero, List.getElem_cons_succ, Act.put, List.setIfInBounds_toArray, List.set_cons_zero, List.set_cons_succ]; exact rfl))))
        refine takeY_nil ?_
        rw [← hq0]
        clear hq0
        refine gC_one (i := 1) (by kernel_rfl) rfl ?_
        · go_wp2_with (go_at_call 26; refine (inode_any 6 _ ⟨_, _, _, rfl⟩ _).mono ?_; rintro e q1 ⟨rfl, hbq1⟩)
          have bq1 : Below wv.heap.size wv q1 := bq0.trans (hbq1.mono bq0.size)
          have lq1 := hbq1.size
          refine mid_intro bq1 ?_
          refine gC_one (i := 2) (by kernel_rfl) rfl ?_
          · go_wp2_with (go_at_call 126; refine (icheck_any C m cc k n _ 4 c b2 b3 3 (by omega) 6 0 [] none 0 ty _ h3c.out ((hT.below gv).below bq1) Rd.nil).mono ?_; rintro e q2 ⟨rfl, hbq2⟩)
            have bq2 : Below wv.heap.size wv q2 := bq1.trans (hbq2.mono bq1.size)
            have lq2 := hbq2.size
            refine mid_intro bq2 ?_
            refine gC_end [3] (lB := [_]) (by simp) (by kernel_rfl) (by kernel_rfl) rfl ?_
            go_upto_region 16 with fail
            refine name_world ?_
            intro ws hws
            have hJs := (show Blk ws w.heap.size _ by rw [hws]; exact hJv.keep bq2)
            have hZs := (show Blk ws (w.heap.size + 1) _ by rw [hws]; exact hZv.keep bq2)
            have hPs := (show Blk ws (w.heap.size + 1 + 1) _ by rw [hws]; exact hPv.keep bq2)
            have gs : Below w.heap.size w ws := by rw [hws]; exact gv.trans ((bq2).mono gv.size)
            clear hws
            have rps := rp0.below gs
            have ras := ra0.below gs
            have v0 := rule_of hPs.three.1
            have v1 := rule_of hPs.three.2.1
            have v2 := rule_of hPs.three.2.2
            have u3 := rule_of (hJs.at_ (i := 3) rfl)
            have y0 := rule_of ((Keeps.of_below gs) _ _ z1)
            have y1 := rule_of ((Keeps.of_below gs) _ _ z2)
            have y2 := rule_of ((Keeps.of_below gs) _ _ z3)
            obtain ⟨q0, hq0⟩ : ∃ q0, q0 = ws.drew := ⟨_, rfl⟩
            have bq0 : Below ws.heap.size ws q0 := by rw [hq0]; exact (Below.refl _ _).drew
            refine gC_start (fun w' => Below ws.heap.size ws w') [9, 10, 11, 12] 13 (by kernel_rfl) rfl ?_
            refine gC_take [0, 1, 2, 3, 4, 5] (f := 7) (l' := #[true, true, true, true, true, true, false, false, false, false, false, false, false]) (lT := [_, _, _, _, _, _]) (by rw [← hq0]; exact bq0) rfl (by kernel_rfl) (by kernel_rfl) (by kernel_rfl) rfl (fun _ _ d _ _ h => by cases d <;> exact h) ?_
            repeat (first | ((refine takeY_skip (a' := ?_) ?_ ?_ ?_); (rotate_left); (· (simp [Region.wanted, yielded, Go.undef]; done)); (· (simp only [List.getElem_toArray, List.getElem_cons_zero, List.getElem_cons_succ, Act.put, List.setIfInBounds_toArray, List.set_cons_zero, List.set_cons_succ]; exact rfl))) | ((refine takeY_step (v := ?_) (a' := ?_) ?_ ?_ ?_ ?_); (rotate_left 2); (· (simp [Region.wanted, yielded, Go.undef]; done)); (· (intro w' hS'; go_simp; try (with_reducible rfl))); (· (simp only [List.getElem_toArray, List.getElem_cons_zero, List.getElem_cons_succ, Act.put, List.setIfInBounds_toArray, List.set_cons_zero, List.set_cons_succ]; exact rfl))))
            refine takeY_nil ?_
            rw [← hq0]
            clear hq0
            refine gC_one (i := 6) (by kernel_rfl) rfl ?_
            · go_wp2_with fail
              refine name_midw ?_
              intro q1 hn
              have hbq1 : Below q0.heap.size q0 q1 := by rw [hn]; exact (Below.refl _ _).alloc (Nat.le_refl _) _
              have zq1 : Blk q1 q0.heap.size #[.int .i64 kp, .int .i64 np, .slice Ap sp.length cp, .int .i64 ka, .int .i64 na, .slice Aa sa.length ca] := by rw [hn]; exact Blk.new_ _ 27 _ rfl
              have seq1 : q0.heap.size < q1.heap.size := by rw [hn]; simp
              clear hn
              have rq1 : Rd q1 (some ⟨q0.heap.size, 0, none⟩) 0 [.mk kp np sp, .mk ka na sa] := rd_row2 (s0 := sp) (s1 := sa) zq1 hlp hla ((rps.below bq0).below hbq1) ((ras.below bq0).below hbq1)
              have bq1 : Below ws.heap.size ws q1 := bq0.trans (hbq1.mono bq0.size)
              have lq1 := hbq1.size
              refine mid_intro bq1 ?_
              refine gC_one (i := 7) (by kernel_rfl) rfl ?_
              · go_wp2_with (go_at_call 26; refine (inode_any 5 _ ⟨_, _, _, rfl⟩ _).mono ?_; rintro e q2 ⟨rfl, hbq2⟩)
                have Pq2 := rq1.below hbq2
                have bq2 : Below ws.heap.size ws q2 := bq1.trans (hbq2.mono bq1.size)
                have lq2 := hbq2.size
                refine mid_intro bq2 ?_
                refine gC_one (i := 8) (by kernel_rfl) rfl ?_
                · go_wp2_with (go_at_call 124; refine (imade_yes 5 0 [.mk kp np sp, .mk ka na sa] _ 2 _ hvr.out Pq2).mono ?_; rintro e q3 ⟨rfl, hbq3⟩)
                  have Pq3 := Pq2.below hbq3
                  have bq3 : Below ws.heap.size ws q3 := bq2.trans (hbq3.mono bq2.size)
                  have lq3 := hbq3.size
                  refine mid_intro bq3 ?_
                  refine gC_takeT [9, 10] (f := 2) (l' := #[true, true, true, true, true, true, true, true, true, true, true, false, false]) (lT := [_, _]) rfl (by kernel_rfl) (by kernel_rfl) (by kernel_rfl) rfl (fun _ _ d _ _ h => by cases d <;> exact h) ?_
                  repeat (first | ((refine takeY_skip (a' := ?_) ?_ ?_ ?_); (rotate_left); (· (simp [Region.wanted, yielded, Go.undef]; done)); (· (simp only [List.getElem_toArray, List.getElem_cons_zero, List.getElem_cons_succ, Act.put, List.setIfInBounds_toArray, List.set_cons_zero, List.set_cons_succ]; exact rfl))) | ((refine takeY_step (v := ?_) (a' := ?_) ?_ ?_ ?_ ?_); (rotate_left 2); (· (simp [Region.wanted, yielded, Go.undef]; done)); (· (intro w' hS'; go_simp; try (with_reducible rfl))); (· (simp only [List.getElem_toArray, List.getElem_cons_zero, List.getElem_cons_succ, Act.put, List.setIfInBounds_toArray, List.set_cons_zero, List.set_cons_succ]; exact rfl))))
                  refine takeY_nil ?_
                  refine gC_end [11, 12] (lB := [_, _]) (by simp) (by kernel_rfl) (by kernel_rfl) rfl ?_
                  have hZ2 := hZs.keep bq3
                  obtain ⟨d0, d1, d2⟩ := hZ2.three
                  have e0 := hZ2.frozen 0
                  have e1 := hZ2.frozen 1
                  have e2 := hZ2.frozen 2
                  have gf := gs.trans (bq3.mono gs.size)
                  have rP := Pq3
                  go_wp2_with fail
                  refine bodyPost_ret (v := .tuple #[.agg #[.int .i64 5, .int .i64 0, .slice (some ⟨q0.heap.size, 0, none⟩) 2 2], .int .i64 0]) (by simp [results, Tryz.results132, go_sem, d0, d1, d2]) rfl ⟨some ⟨q0.heap.size, 0, none⟩, 2, rfl, by simp, rd_set0 hZ2 hvr.out rP _ _ _, ?_⟩
                  exact ((gf.setCell (by simp) _).setCell (by simp) _).setCell (by simp) _
end Go.Proofs.YthgmofdfecioaaaGreatDoor
