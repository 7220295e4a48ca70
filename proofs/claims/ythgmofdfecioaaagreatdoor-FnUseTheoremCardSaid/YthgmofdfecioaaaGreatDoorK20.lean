/-
  Contracts of the functions that the law reaches, and plain lemmas. No condition.
-/
import Derived.Test.YthgmofdfecioaaaGreatDoorK19
namespace Go.Proofs.YthgmofdfecioaaaGreatDoor
set_option linter.unusedSimpArgs false
set_option linter.unusedVariables false
open Go.RowKit
theorem valid_noE (k n : Int) (ks : List Tm) (A : Option Addr) (c : Nat) (w : World) (hM : sizes ks ≤ 1099511627775) (hr : Rd w A 0 ks) (hv : validT (.mk k n ks) = false) :
    Calls Tryz.prog 25 #[(.agg #[.int .i64 k, .int .i64 n, .slice A ks.length c])] w fun e w' => e = .returned (.tuple #[.agg #[.int .i64 0, .int .i64 0, .slice none 0 0], .bool false]) ∧ Below w.heap.size w w' := valid_no k n ks A c w hM hr hv
set_option maxHeartbeats 16000000 in
set_option maxRecDepth 100000 in
theorem ctr_3 (n kp np : Int) (sp : List Tm) (kz nz : Int) (sz : List Tm) (k2 n2 : Int) (s2 : List Tm) (n8 ka na : Int) (sa : List Tm) (A : Option Addr) (c : Nat) (w : World) (hv : validT (.mk 9 n [.mk kp np sp, .mk kz nz sz, .mk k2 n2 s2, .mk 8 n8 [.mk ka na sa]]) = true) (hr : Rd w A 0 [.mk kp np sp, .mk kz nz sz, .mk k2 n2 s2, .mk 8 n8 [.mk ka na sa]]) (o : Option Tm) (ho0 : vO (.mk 5 0 [.mk 5 0 [.mk k2 n2 s2, .mk ka na sa], .mk 9 0 [.mk kp np sp, .mk kz nz sz, .mk k2 n2 s2, .mk ka na sa]]) = o) :
    Calls Tryz.prog 98 #[.agg #[.int .i64 9, .int .i64 n, .slice A 4 c]] w (GotO w o) := by
  have har := hide (validT_arity hv).1
  have hrx := hide (show rdx 9 [.mk kp np sp, .mk kz nz sz, .mk k2 n2 s2, .mk 8 n8 [.mk ka na sa]] = 3 from rfl)
  have hszv := validT_size' hv
  simp only [sizes, Tm.size] at hszv
  have ho := hide ho0
  clear hv ho0
  obtain ⟨b0, o0, x1, x2, x3, Ap, cp, hA0, hk, i1, i2, i3, hlp, hr0⟩ := hr.at_ (j := 0) (by simp)
  injection hk with e1 e2 e3
  subst e1 e2 e3
  subst hA0
  obtain ⟨b1, o1, x1, x2, x3, Az, cz, hA1, hk, j1, j2, j3, hlz, hr1⟩ := hr.at_ (j := 1) (by simp)
  injection hk with e1 e2 e3
  subst e1 e2 e3
  injection hA1 with hA
  injection hA with hA1 hA2
  subst hA1 hA2
  obtain ⟨b2, o2, x1, x2, x3, A2, c2, hA2, hk, m1, m2, m3, hl2, hr2⟩ := hr.at_ (j := 2) (by simp)
  injection hk with e1 e2 e3
  subst e1 e2 e3
  injection hA2 with hA
  injection hA with hA1 hA2
  subst hA1 hA2
  obtain ⟨b3, o3, x1, x2, x3, A8', c8', hA3, hk, y1, y2, y3, hly, hr3⟩ := hr.at_ (j := 3) (by simp)
  injection hk with e1 e2 e3
  subst e1 e2 e3
  injection hA3 with hA
  injection hA with hA1 hA2
  subst hA1 hA2
  obtain ⟨ba, oa, x1, x2, x3, Aa, ca, hAa, hk, z1, z2, z3, hla, hra⟩ := hr3.at_ (j := 0) (by simp)
  injection hk with e1 e2 e3
  subst e1 e2 e3 hAa
  simp only [Nat.zero_mul, Nat.add_zero, Nat.one_mul, Nat.reduceMul] at i1 i2 i3 j1 j2 j3 m1 m2 m3 y1 y2 y3 z1 z2 z3
  go_enter Tryz.func98, Tryz.ntmps98
  go_wp2_with (go_at_call 75; refine (iRedex_any 9 n [.mk kp np sp, .mk kz nz sz, .mk k2 n2 s2, .mk 8 n8 [.mk ka na sa]] _ c _ (by simp) har.out ((hr.alloc _).alloc _)).mono ?_; rw [hrx.out]; rintro e w1 ⟨rfl, hb1⟩; have hX := ((Blk.new_ w 27 #[.int .i64 9, .int .i64 n, .slice (some ⟨b0, o0, none⟩) 4 c] rfl).alloc (.cells #[.int .i64 0, .int .i64 0, .slice none 0 0] 27)).keep hb1; have hZ : Blk w1 (w.heap.size + 1) #[.int .i64 0, .int .i64 0, .slice none 0 0] := (Blk.new_ _ 27 _ (by simp)).keep hb1; have g1 : Below w.heap.size w w1 := (((Below.refl _ _).alloc (Nat.le_refl _) _).alloc (by simp) _).trans (hb1.mono (by simp; omega)))
  refine name_world ?_
  intro wx hwx
  have hXx := (show Blk wx w.heap.size _ by rw [hwx]; exact hX)
  have hZx := (show Blk wx (w.heap.size + 1) _ by rw [hwx]; exact hZ)
  have gx : Below w.heap.size w wx := by rw [hwx]; exact g1
  clear hwx
  have lz := hZx.lt
  have rpx := hr0.below gx
  have rzx := hr1.below gx
  have r2x := hr2.below gx
  have rax := hra.below gx
  have g0 := rule_of hXx.three.1
  have g1' := rule_of hXx.three.2.1
  have g2 := rule_of hXx.three.2.2
  have ui1 := rule_of ((Keeps.of_below gx) _ _ i1)
  have ui2 := rule_of ((Keeps.of_below gx) _ _ i2)
  have ui3 := rule_of ((Keeps.of_below gx) _ _ i3)
  have uj1 := rule_of ((Keeps.of_below gx) _ _ j1)
  have uj2 := rule_of ((Keeps.of_below gx) _ _ j2)
  have uj3 := rule_of ((Keeps.of_below gx) _ _ j3)
  have um1 := rule_of ((Keeps.of_below gx) _ _ m1)
  have um2 := rule_of ((Keeps.of_below gx) _ _ m2)
  have um3 := rule_of ((Keeps.of_below gx) _ _ m3)
  have uy1 := rule_of ((Keeps.of_below gx) _ _ y1)
  have uy2 := rule_of ((Keeps.of_below gx) _ _ y2)
  have uy3 := rule_of ((Keeps.of_below gx) _ _ y3)
  have uz1 := rule_of ((Keeps.of_below gx) _ _ z1)
  have uz2 := rule_of ((Keeps.of_below gx) _ _ z2)
  have uz3 := rule_of ((Keeps.of_below gx) _ _ z3)
  clear i1 i2 i3 j1 j2 j3 m1 m2 m3 y1 y2 y3 z1 z2 z3
  go_cut [4, 5, 6, 7] (fun v4 v5 v6 v7 wy => ∃ (g4 g5 g6 g7 : Nat), v4 = .pointer (some ⟨g4, 0, none⟩) ∧ v5 = .pointer (some ⟨g5, 0, none⟩) ∧ v6 = .pointer (some ⟨g6, 0, none⟩) ∧ v7 = .pointer (some ⟨g7, 0, none⟩) ∧ Blk wy g4 #[.int .i64 kp, .int .i64 np, .slice Ap sp.length cp] ∧ Blk wy g5 #[.int .i64 kz, .int .i64 nz, .slice Az sz.length cz] ∧ Blk wy g6 #[.int .i64 k2, .int .i64 n2, .slice A2 s2.length c2] ∧ Blk wy g7 #[.int .i64 ka, .int .i64 na, .slice Aa sa.length ca] ∧ Below wx.heap.size wx wy)
  case first =>
    obtain ⟨q0, hq0⟩ : ∃ q0, q0 = wx.drew := ⟨_, rfl⟩
    have bq0 : Below wx.heap.size wx q0 := by rw [hq0]; exact (Below.refl _ _).drew
    refine gC_start (fun w' => Below wx.heap.size wx w') [26] 27 (by kernel_rfl) rfl ?_
    refine gC_take [0, 1, 2, 3, 4, 5, 6, 7, 8, 9, 10, 11, 12, 13, 14, 15, 16, 17, 18] (f := 8) (l' := #[true, true, true, true, true, true, true, true, true, true, true, true, true, true, true, true, true, true, true, false, false, false, false, false, false, false, false]) (lT := [_, _, _, _, _, _, _, _, _, _, _, _, _, _, _, _, _, _, _]) (by rw [← hq0]; exact bq0) rfl (by kernel_rfl) (by kernel_rfl) (by kernel_rfl) rfl (fun _ _ d _ _ h => by cases d <;> exact h) ?_
    repeat (first | ((refine takeY_skip (a' := ?_) ?_ ?_ ?_); (rotate_left); (· (simp [Region.wanted, yielded, Go.undef]; done)); (· (simp only [List.getElem_toArray, List.getElem_cons_zero, List.getElem_cons_succ, Act.put, List.setIfInBounds_toArray, List.set_cons_zero, List.set_cons_succ]; exact rfl))) | ((refine takeY_step (v := ?_) (a' := ?_) ?_ ?_ ?_ ?_); (rotate_left 2); (· (simp [Region.wanted, yielded, Go.undef]; done)); (· (intro w' hS'; go_simp; try (with_reducible rfl))); (· (simp only [List.getElem_toArray, List.getElem_cons_zero, List.getElem_cons_succ, Act.put, List.setIfInBounds_toArray, List.set_cons_zero, List.set_cons_succ]; exact rfl))))
    refine takeY_nil ?_
    rw [← hq0]
    clear hq0
    refine gC_four (i := 19) (j := 20) (m := 21) (q := 22) (by kernel_rfl) rfl rfl rfl rfl ?_ ?_ ?_ ?_
    · go_wp2_with fail
      refine name_midw ?_
      intro q1 hn
      have hbq1 : Below q0.heap.size q0 q1 := by rw [hn]; exact (Below.refl _ _).alloc (Nat.le_refl _) _
      have zq1 : Blk q1 q0.heap.size #[.int .i64 0, .int .i64 0, .slice none 0 0] := by rw [hn]; exact Blk.new_ _ 27 _ rfl
      have seq1 : q0.heap.size < q1.heap.size := by rw [hn]; simp
      clear hn
      have bq1 : Below wx.heap.size wx q1 := bq0.trans (hbq1.mono bq0.size)
      have lq1 := hbq1.size
      refine mid_intro bq1 ?_
      refine gC_three (i := 20) (j := 21) (m := 22) (by kernel_rfl) rfl rfl rfl ?_ ?_ ?_
      · go_wp2_with fail
        refine name_midw ?_
        intro q2 hn
        have hbq2 : Below q1.heap.size q1 q2 := by rw [hn]; exact (Below.refl _ _).alloc (Nat.le_refl _) _
        have zq2 : Blk q2 q1.heap.size #[.int .i64 0, .int .i64 0, .slice none 0 0] := by rw [hn]; exact Blk.new_ _ 27 _ rfl
        have seq2 : q1.heap.size < q2.heap.size := by rw [hn]; simp
        clear hn
        have Z19q2 := zq1.keep hbq2
        have bq2 : Below wx.heap.size wx q2 := bq1.trans (hbq2.mono bq1.size)
        have lq2 := hbq2.size
        refine mid_intro bq2 ?_
        refine gC_two (i := 21) (j := 22) (by kernel_rfl) rfl rfl ?_ ?_
        · go_wp2_with fail
          refine name_midw ?_
          intro q3 hn
          have hbq3 : Below q2.heap.size q2 q3 := by rw [hn]; exact (Below.refl _ _).alloc (Nat.le_refl _) _
          have zq3 : Blk q3 q2.heap.size #[.int .i64 0, .int .i64 0, .slice none 0 0] := by rw [hn]; exact Blk.new_ _ 27 _ rfl
          have seq3 : q2.heap.size < q3.heap.size := by rw [hn]; simp
          clear hn
          have Z19q3 := Z19q2.keep hbq3
          have Z20q3 := zq2.keep hbq3
          have bq3 : Below wx.heap.size wx q3 := bq2.trans (hbq3.mono bq2.size)
          have lq3 := hbq3.size
          refine mid_intro bq3 ?_
          refine gC_one (i := 22) (by kernel_rfl) rfl ?_
          · go_wp2_with fail
            refine name_midw ?_
            intro q4 hn
            have hbq4 : Below q3.heap.size q3 q4 := by rw [hn]; exact (Below.refl _ _).alloc (Nat.le_refl _) _
            have zq4 : Blk q4 q3.heap.size #[.int .i64 0, .int .i64 0, .slice none 0 0] := by rw [hn]; exact Blk.new_ _ 27 _ rfl
            have seq4 : q3.heap.size < q4.heap.size := by rw [hn]; simp
            clear hn
            have Z19q4 := Z19q3.keep hbq4
            have Z20q4 := Z20q3.keep hbq4
            have Z21q4 := zq3.keep hbq4
            have bq4 : Below wx.heap.size wx q4 := bq3.trans (hbq4.mono bq3.size)
            have lq4 := hbq4.size
            refine mid_intro bq4 ?_
            obtain ⟨d190, d191, d192⟩ := Z19q4.three
            have e190 := Z19q4.frozen 0
            have e191 := Z19q4.frozen 1
            have e192 := Z19q4.frozen 2
            have sb19 : wx.heap.size ≤ q0.heap.size := by first | exact bq0.size | exact bq0.size
            obtain ⟨d200, d201, d202⟩ := Z20q4.three
            have e200 := Z20q4.frozen 0
            have e201 := Z20q4.frozen 1
            have e202 := Z20q4.frozen 2
            have sb20 : wx.heap.size ≤ q1.heap.size := by first | exact bq0.size | exact bq1.size
            obtain ⟨d210, d211, d212⟩ := Z21q4.three
            have e210 := Z21q4.frozen 0
            have e211 := Z21q4.frozen 1
            have e212 := Z21q4.frozen 2
            have sb21 : wx.heap.size ≤ q2.heap.size := by first | exact bq0.size | exact bq2.size
            obtain ⟨d220, d221, d222⟩ := zq4.three
            have e220 := zq4.frozen 0
            have e221 := zq4.frozen 1
            have e222 := zq4.frozen 2
            have sb22 : wx.heap.size ≤ q3.heap.size := by first | exact bq0.size | exact bq3.size
            have n1920 : q0.heap.size ≠ q1.heap.size := by omega
            have n1921 : q0.heap.size ≠ q2.heap.size := by omega
            have n1922 : q0.heap.size ≠ q3.heap.size := by omega
            have n2019 : q1.heap.size ≠ q0.heap.size := by omega
            have n2021 : q1.heap.size ≠ q2.heap.size := by omega
            have n2022 : q1.heap.size ≠ q3.heap.size := by omega
            have n2119 : q2.heap.size ≠ q0.heap.size := by omega
            have n2120 : q2.heap.size ≠ q1.heap.size := by omega
            have n2122 : q2.heap.size ≠ q3.heap.size := by omega
            have n2219 : q3.heap.size ≠ q0.heap.size := by omega
            have n2220 : q3.heap.size ≠ q1.heap.size := by omega
            have n2221 : q3.heap.size ≠ q2.heap.size := by omega
            refine gC_one (i := 23) (by kernel_rfl) rfl ?_
            go_wp2_with fail
            refine mid_intro (((bq4.setCell (p := ⟨q0.heap.size, 0, none⟩) sb19 _).setCell (p := ⟨q0.heap.size, 1, none⟩) sb19 _).setCell (p := ⟨q0.heap.size, 2, none⟩) sb19 _) ?_
            refine gC_one (i := 24) (by kernel_rfl) rfl ?_
            go_wp2_with fail
            refine mid_intro ((((((bq4.setCell (p := ⟨q0.heap.size, 0, none⟩) sb19 _).setCell (p := ⟨q0.heap.size, 1, none⟩) sb19 _).setCell (p := ⟨q0.heap.size, 2, none⟩) sb19 _).setCell (p := ⟨q1.heap.size, 0, none⟩) sb20 _).setCell (p := ⟨q1.heap.size, 1, none⟩) sb20 _).setCell (p := ⟨q1.heap.size, 2, none⟩) sb20 _) ?_
            refine gC_one (i := 25) (by kernel_rfl) rfl ?_
            go_wp2_with fail
            refine mid_intro (((((((((bq4.setCell (p := ⟨q0.heap.size, 0, none⟩) sb19 _).setCell (p := ⟨q0.heap.size, 1, none⟩) sb19 _).setCell (p := ⟨q0.heap.size, 2, none⟩) sb19 _).setCell (p := ⟨q1.heap.size, 0, none⟩) sb20 _).setCell (p := ⟨q1.heap.size, 1, none⟩) sb20 _).setCell (p := ⟨q1.heap.size, 2, none⟩) sb20 _).setCell (p := ⟨q2.heap.size, 0, none⟩) sb21 _).setCell (p := ⟨q2.heap.size, 1, none⟩) sb21 _).setCell (p := ⟨q2.heap.size, 2, none⟩) sb21 _) ?_
            refine gC_end [26] (lB := [_]) (by simp) (by kernel_rfl) (by kernel_rfl) rfl ?_
            go_wp2_with fail
            go_meet
            exact ⟨q0.heap.size, q1.heap.size, q2.heap.size, q3.heap.size, rfl, rfl, rfl, rfl, ((((((((((((Z19q4.set_ 0 _).set_ 1 _).set_ 2 _).far (p := ⟨q1.heap.size, 0, none⟩) n1920 _).far (p := ⟨q1.heap.size, 1, none⟩) n1920 _).far (p := ⟨q1.heap.size, 2, none⟩) n1920 _).far (p := ⟨q2.heap.size, 0, none⟩) n1921 _).far (p := ⟨q2.heap.size, 1, none⟩) n1921 _).far (p := ⟨q2.heap.size, 2, none⟩) n1921 _).far (p := ⟨q3.heap.size, 0, none⟩) n1922 _).far (p := ⟨q3.heap.size, 1, none⟩) n1922 _).far (p := ⟨q3.heap.size, 2, none⟩) n1922 _), ((((((((((((Z20q4.far (p := ⟨q0.heap.size, 0, none⟩) n2019 _).far (p := ⟨q0.heap.size, 1, none⟩) n2019 _).far (p := ⟨q0.heap.size, 2, none⟩) n2019 _).set_ 0 _).set_ 1 _).set_ 2 _).far (p := ⟨q2.heap.size, 0, none⟩) n2021 _).far (p := ⟨q2.heap.size, 1, none⟩) n2021 _).far (p := ⟨q2.heap.size, 2, none⟩) n2021 _).far (p := ⟨q3.heap.size, 0, none⟩) n2022 _).far (p := ⟨q3.heap.size, 1, none⟩) n2022 _).far (p := ⟨q3.heap.size, 2, none⟩) n2022 _), ((((((((((((Z21q4.far (p := ⟨q0.heap.size, 0, none⟩) n2119 _).far (p := ⟨q0.heap.size, 1, none⟩) n2119 _).far (p := ⟨q0.heap.size, 2, none⟩) n2119 _).far (p := ⟨q1.heap.size, 0, none⟩) n2120 _).far (p := ⟨q1.heap.size, 1, none⟩) n2120 _).far (p := ⟨q1.heap.size, 2, none⟩) n2120 _).set_ 0 _).set_ 1 _).set_ 2 _).far (p := ⟨q3.heap.size, 0, none⟩) n2122 _).far (p := ⟨q3.heap.size, 1, none⟩) n2122 _).far (p := ⟨q3.heap.size, 2, none⟩) n2122 _), ((((((((((((zq4.far (p := ⟨q0.heap.size, 0, none⟩) n2219 _).far (p := ⟨q0.heap.size, 1, none⟩) n2219 _).far (p := ⟨q0.heap.size, 2, none⟩) n2219 _).far (p := ⟨q1.heap.size, 0, none⟩) n2220 _).far (p := ⟨q1.heap.size, 1, none⟩) n2220 _).far (p := ⟨q1.heap.size, 2, none⟩) n2220 _).far (p := ⟨q2.heap.size, 0, none⟩) n2221 _).far (p := ⟨q2.heap.size, 1, none⟩) n2221 _).far (p := ⟨q2.heap.size, 2, none⟩) n2221 _).set_ 0 _).set_ 1 _).set_ 2 _), ((((((((((((bq4.setCell (p := ⟨q0.heap.size, 0, none⟩) sb19 _).setCell (p := ⟨q0.heap.size, 1, none⟩) sb19 _).setCell (p := ⟨q0.heap.size, 2, none⟩) sb19 _).setCell (p := ⟨q1.heap.size, 0, none⟩) sb20 _).setCell (p := ⟨q1.heap.size, 1, none⟩) sb20 _).setCell (p := ⟨q1.heap.size, 2, none⟩) sb20 _).setCell (p := ⟨q2.heap.size, 0, none⟩) sb21 _).setCell (p := ⟨q2.heap.size, 1, none⟩) sb21 _).setCell (p := ⟨q2.heap.size, 2, none⟩) sb21 _).setCell (p := ⟨q3.heap.size, 0, none⟩) sb22 _).setCell (p := ⟨q3.heap.size, 1, none⟩) sb22 _).setCell (p := ⟨q3.heap.size, 2, none⟩) sb22 _)⟩
        · go_wp2_with fail
          refine name_midw ?_
          intro q5 hn
          have hbq5 : Below q2.heap.size q2 q5 := by rw [hn]; exact (Below.refl _ _).alloc (Nat.le_refl _) _
          have zq5 : Blk q5 q2.heap.size #[.int .i64 0, .int .i64 0, .slice none 0 0] := by rw [hn]; exact Blk.new_ _ 27 _ rfl
          have seq5 : q2.heap.size < q5.heap.size := by rw [hn]; simp
          clear hn
          have Z19q5 := Z19q2.keep hbq5
          have Z20q5 := zq2.keep hbq5
          have bq5 : Below wx.heap.size wx q5 := bq2.trans (hbq5.mono bq2.size)
          have lq5 := hbq5.size
          refine mid_intro bq5 ?_
          refine gC_one (i := 21) (by kernel_rfl) rfl ?_
          · go_wp2_with fail
            refine name_midw ?_
            intro q6 hn
            have hbq6 : Below q5.heap.size q5 q6 := by rw [hn]; exact (Below.refl _ _).alloc (Nat.le_refl _) _
            have zq6 : Blk q6 q5.heap.size #[.int .i64 0, .int .i64 0, .slice none 0 0] := by rw [hn]; exact Blk.new_ _ 27 _ rfl
            have seq6 : q5.heap.size < q6.heap.size := by rw [hn]; simp
            clear hn
            have Z19q6 := Z19q5.keep hbq6
            have Z20q6 := Z20q5.keep hbq6
            have Z22q6 := zq5.keep hbq6
            have bq6 : Below wx.heap.size wx q6 := bq5.trans (hbq6.mono bq5.size)
            have lq6 := hbq6.size
            refine mid_intro bq6 ?_
            obtain ⟨d190, d191, d192⟩ := Z19q6.three
            have e190 := Z19q6.frozen 0
            have e191 := Z19q6.frozen 1
            have e192 := Z19q6.frozen 2
            have sb19 : wx.heap.size ≤ q0.heap.size := by first | exact bq0.size | exact bq0.size
            obtain ⟨d200, d201, d202⟩ := Z20q6.three
            have e200 := Z20q6.frozen 0
            have e201 := Z20q6.frozen 1
            have e202 := Z20q6.frozen 2
            have sb20 : wx.heap.size ≤ q1.heap.size := by first | exact bq0.size | exact bq1.size
            obtain ⟨d210, d211, d212⟩ := zq6.three
            have e210 := zq6.frozen 0
            have e211 := zq6.frozen 1
            have e212 := zq6.frozen 2
            have sb21 : wx.heap.size ≤ q5.heap.size := by first | exact bq0.size | exact bq5.size
            obtain ⟨d220, d221, d222⟩ := Z22q6.three
            have e220 := Z22q6.frozen 0
            have e221 := Z22q6.frozen 1
            have e222 := Z22q6.frozen 2
            have sb22 : wx.heap.size ≤ q2.heap.size := by first | exact bq0.size | exact bq2.size
            have n1920 : q0.heap.size ≠ q1.heap.size := by omega
            have n1921 : q0.heap.size ≠ q5.heap.size := by omega
            have n1922 : q0.heap.size ≠ q2.heap.size := by omega
            have n2019 : q1.heap.size ≠ q0.heap.size := by omega
            have n2021 : q1.heap.size ≠ q5.heap.size := by omega
            have n2022 : q1.heap.size ≠ q2.heap.size := by omega
            have n2119 : q5.heap.size ≠ q0.heap.size := by omega
            have n2120 : q5.heap.size ≠ q1.heap.size := by omega
            have n2122 : q5.heap.size ≠ q2.heap.size := by omega
            have n2219 : q2.heap.size ≠ q0.heap.size := by omega
            have n2220 : q2.heap.size ≠ q1.heap.size := by omega
            have n2221 : q2.heap.size ≠ q5.heap.size := by omega
            refine gC_one (i := 23) (by kernel_rfl) rfl ?_
            go_wp2_with fail
            refine mid_intro (((bq6.setCell (p := ⟨q0.heap.size, 0, none⟩) sb19 _).setCell (p := ⟨q0.heap.size, 1, none⟩) sb19 _).setCell (p := ⟨q0.heap.size, 2, none⟩) sb19 _) ?_
            refine gC_one (i := 24) (by kernel_rfl) rfl ?_
            go_wp2_with fail
            refine mid_intro ((((((bq6.setCell (p := ⟨q0.heap.size, 0, none⟩) sb19 _).setCell (p := ⟨q0.heap.size, 1, none⟩) sb19 _).setCell (p := ⟨q0.heap.size, 2, none⟩) sb19 _).setCell (p := ⟨q1.heap.size, 0, none⟩) sb20 _).setCell (p := ⟨q1.heap.size, 1, none⟩) sb20 _).setCell (p := ⟨q1.heap.size, 2, none⟩) sb20 _) ?_
            refine gC_one (i := 25) (by kernel_rfl) rfl ?_
            go_wp2_with fail
            refine mid_intro (((((((((bq6.setCell (p := ⟨q0.heap.size, 0, none⟩) sb19 _).setCell (p := ⟨q0.heap.size, 1, none⟩) sb19 _).setCell (p := ⟨q0.heap.size, 2, none⟩) sb19 _).setCell (p := ⟨q1.heap.size, 0, none⟩) sb20 _).setCell (p := ⟨q1.heap.size, 1, none⟩) sb20 _).setCell (p := ⟨q1.heap.size, 2, none⟩) sb20 _).setCell (p := ⟨q5.heap.size, 0, none⟩) sb21 _).setCell (p := ⟨q5.heap.size, 1, none⟩) sb21 _).setCell (p := ⟨q5.heap.size, 2, none⟩) sb21 _) ?_
            refine gC_end [26] (lB := [_]) (by simp) (by kernel_rfl) (by kernel_rfl) rfl ?_
            go_wp2_with fail
            go_meet
            exact ⟨q0.heap.size, q1.heap.size, q5.heap.size, q2.heap.size, rfl, rfl, rfl, rfl, ((((((((((((Z19q6.set_ 0 _).set_ 1 _).set_ 2 _).far (p := ⟨q1.heap.size, 0, none⟩) n1920 _).far (p := ⟨q1.heap.size, 1, none⟩) n1920 _).far (p := ⟨q1.heap.size, 2, none⟩) n1920 _).far (p := ⟨q5.heap.size, 0, none⟩) n1921 _).far (p := ⟨q5.heap.size, 1, none⟩) n1921 _).far (p := ⟨q5.heap.size, 2, none⟩) n1921 _).far (p := ⟨q2.heap.size, 0, none⟩) n1922 _).far (p := ⟨q2.heap.size, 1, none⟩) n1922 _).far (p := ⟨q2.heap.size, 2, none⟩) n1922 _), ((((((((((((Z20q6.far (p := ⟨q0.heap.size, 0, none⟩) n2019 _).far (p := ⟨q0.heap.size, 1, none⟩) n2019 _).far (p := ⟨q0.heap.size, 2, none⟩) n2019 _).set_ 0 _).set_ 1 _).set_ 2 _).far (p := ⟨q5.heap.size, 0, none⟩) n2021 _).far (p := ⟨q5.heap.size, 1, none⟩) n2021 _).far (p := ⟨q5.heap.size, 2, none⟩) n2021 _).far (p := ⟨q2.heap.size, 0, none⟩) n2022 _).far (p := ⟨q2.heap.size, 1, none⟩) n2022 _).far (p := ⟨q2.heap.size, 2, none⟩) n2022 _), ((((((((((((zq6.far (p := ⟨q0.heap.size, 0, none⟩) n2119 _).far (p := ⟨q0.heap.size, 1, none⟩) n2119 _).far (p := ⟨q0.heap.size, 2, none⟩) n2119 _).far (p := ⟨q1.heap.size, 0, none⟩) n2120 _).far (p := ⟨q1.heap.size, 1, none⟩) n2120 _).far (p := ⟨q1.heap.size, 2, none⟩) n2120 _).set_ 0 _).set_ 1 _).set_ 2 _).far (p := ⟨q2.heap.size, 0, none⟩) n2122 _).far (p := ⟨q2.heap.size, 1, none⟩) n2122 _).far (p := ⟨q2.heap.size, 2, none⟩) n2122 _), ((((((((((((Z22q6.far (p := ⟨q0.heap.size, 0, none⟩) n2219 _).far (p := ⟨q0.heap.size, 1, none⟩) n2219 _).far (p := ⟨q0.heap.size, 2, none⟩) n2219 _).far (p := ⟨q1.heap.size, 0, none⟩) n2220 _).far (p := ⟨q1.heap.size, 1, none⟩) n2220 _).far (p := ⟨q1.heap.size, 2, none⟩) n2220 _).far (p := ⟨q5.heap.size, 0, none⟩) n2221 _).far (p := ⟨q5.heap.size, 1, none⟩) n2221 _).far (p := ⟨q5.heap.size, 2, none⟩) n2221 _).set_ 0 _).set_ 1 _).set_ 2 _), ((((((((((((bq6.setCell (p := ⟨q0.heap.size, 0, none⟩) sb19 _).setCell (p := ⟨q0.heap.size, 1, none⟩) sb19 _).setCell (p := ⟨q0.heap.size, 2, none⟩) sb19 _).setCell (p := ⟨q1.heap.size, 0, none⟩) sb20 _).setCell (p := ⟨q1.heap.size, 1, none⟩) sb20 _).setCell (p := ⟨q1.heap.size, 2, none⟩) sb20 _).setCell (p := ⟨q5.heap.size, 0, none⟩) sb21 _).setCell (p := ⟨q5.heap.size, 1, none⟩) sb21 _).setCell (p := ⟨q5.heap.size, 2, none⟩) sb21 _).setCell (p := ⟨q2.heap.size, 0, none⟩) sb22 _).setCell (p := ⟨q2.heap.size, 1, none⟩) sb22 _).setCell (p := ⟨q2.heap.size, 2, none⟩) sb22 _)⟩
      · go_wp2_with fail
        refine name_midw ?_
        intro q7 hn
        have hbq7 : Below q1.heap.size q1 q7 := by rw [hn]; exact (Below.refl _ _).alloc (Nat.le_refl _) _
        have zq7 : Blk q7 q1.heap.size #[.int .i64 0, .int .i64 0, .slice none 0 0] := by rw [hn]; exact Blk.new_ _ 27 _ rfl
        have seq7 : q1.heap.size < q7.heap.size := by rw [hn]; simp
        clear hn
        have Z19q7 := zq1.keep hbq7
        have bq7 : Below wx.heap.size wx q7 := bq1.trans (hbq7.mono bq1.size)
        have lq7 := hbq7.size
        refine mid_intro bq7 ?_
        refine gC_two (i := 20) (j := 22) (by kernel_rfl) rfl rfl ?_ ?_
        · go_wp2_with fail
          refine name_midw ?_
          intro q8 hn
          have hbq8 : Below q7.heap.size q7 q8 := by rw [hn]; exact (Below.refl _ _).alloc (Nat.le_refl _) _
          have zq8 : Blk q8 q7.heap.size #[.int .i64 0, .int .i64 0, .slice none 0 0] := by rw [hn]; exact Blk.new_ _ 27 _ rfl
          have seq8 : q7.heap.size < q8.heap.size := by rw [hn]; simp
          clear hn
          have Z19q8 := Z19q7.keep hbq8
          have Z21q8 := zq7.keep hbq8
          have bq8 : Below wx.heap.size wx q8 := bq7.trans (hbq8.mono bq7.size)
          have lq8 := hbq8.size
          refine mid_intro bq8 ?_
          refine gC_one (i := 22) (by kernel_rfl) rfl ?_
          · go_wp2_with fail
            refine name_midw ?_
            intro q9 hn
            have hbq9 : Below q8.heap.size q8 q9 := by rw [hn]; exact (Below.refl _ _).alloc (Nat.le_refl _) _
            have zq9 : Blk q9 q8.heap.size #[.int .i64 0, .int .i64 0, .slice none 0 0] := by rw [hn]; exact Blk.new_ _ 27 _ rfl
            have seq9 : q8.heap.size < q9.heap.size := by rw [hn]; simp
            clear hn
            have Z19q9 := Z19q8.keep hbq9
            have Z21q9 := Z21q8.keep hbq9
            have Z20q9 := zq8.keep hbq9
            have bq9 : Below wx.heap.size wx q9 := bq8.trans (hbq9.mono bq8.size)
            have lq9 := hbq9.size
            refine mid_intro bq9 ?_
            obtain ⟨d190, d191, d192⟩ := Z19q9.three
            have e190 := Z19q9.frozen 0
            have e191 := Z19q9.frozen 1
            have e192 := Z19q9.frozen 2
            have sb19 : wx.heap.size ≤ q0.heap.size := by first | exact bq0.size | exact bq0.size
            obtain ⟨d200, d201, d202⟩ := Z20q9.three
            have e200 := Z20q9.frozen 0
            have e201 := Z20q9.frozen 1
            have e202 := Z20q9.frozen 2
            have sb20 : wx.heap.size ≤ q7.heap.size := by first | exact bq0.size | exact bq7.size
            obtain ⟨d210, d211, d212⟩ := Z21q9.three
            have e210 := Z21q9.frozen 0
            have e211 := Z21q9.frozen 1
            have e212 := Z21q9.frozen 2
            have sb21 : wx.heap.size ≤ q1.heap.size := by first | exact bq0.size | exact bq1.size
            obtain ⟨d220, d221, d222⟩ := zq9.three
            have e220 := zq9.frozen 0
            have e221 := zq9.frozen 1
            have e222 := zq9.frozen 2
            have sb22 : wx.heap.size ≤ q8.heap.size := by first | exact bq0.size | exact bq8.size
            have n1920 : q0.heap.size ≠ q7.heap.size := by omega
            have n1921 : q0.heap.size ≠ q1.heap.size := by omega
            have n1922 : q0.heap.size ≠ q8.heap.size := by omega
            have n2019 : q7.heap.size ≠ q0.heap.size := by omega
            have n2021 : q7.heap.size ≠ q1.heap.size := by omega
            have n2022 : q7.heap.size ≠ q8.heap.size := by omega
            have n2119 : q1.heap.size ≠ q0.heap.size := by omega
            have n2120 : q1.heap.size ≠ q7.heap.size := by omega
            have n2122 : q1.heap.size ≠ q8.heap.size := by omega
            have n2219 : q8.heap.size ≠ q0.heap.size := by omega
            have n2220 : q8.heap.size ≠ q7.heap.size := by omega
            have n2221 : q8.heap.size ≠ q1.heap.size := by omega
            refine gC_one (i := 23) (by kernel_rfl) rfl ?_
            go_wp2_with fail
            refine mid_intro (((bq9.setCell (p := ⟨q0.heap.size, 0, none⟩) sb19 _).setCell (p := ⟨q0.heap.size, 1, none⟩) sb19 _).setCell (p := ⟨q0.heap.size, 2, none⟩) sb19 _) ?_
            refine gC_one (i := 24) (by kernel_rfl) rfl ?_
            go_wp2_with fail
            refine mid_intro ((((((bq9.setCell (p := ⟨q0.heap.size, 0, none⟩) sb19 _).setCell (p := ⟨q0.heap.size, 1, none⟩) sb19 _).setCell (p := ⟨q0.heap.size, 2, none⟩) sb19 _).setCell (p := ⟨q7.heap.size, 0, none⟩) sb20 _).setCell (p := ⟨q7.heap.size, 1, none⟩) sb20 _).setCell (p := ⟨q7.heap.size, 2, none⟩) sb20 _) ?_
            refine gC_one (i := 25) (by kernel_rfl) rfl ?_
            go_wp2_with fail
            refine mid_intro (((((((((bq9.setCell (p := ⟨q0.heap.size, 0, none⟩) sb19 _).setCell (p := ⟨q0.heap.size, 1, none⟩) sb19 _).setCell (p := ⟨q0.heap.size, 2, none⟩) sb19 _).setCell (p := ⟨q7.heap.size, 0, none⟩) sb20 _).setCell (p := ⟨q7.heap.size, 1, none⟩) sb20 _).setCell (p := ⟨q7.heap.size, 2, none⟩) sb20 _).setCell (p := ⟨q1.heap.size, 0, none⟩) sb21 _).setCell (p := ⟨q1.heap.size, 1, none⟩) sb21 _).setCell (p := ⟨q1.heap.size, 2, none⟩) sb21 _) ?_
            refine gC_end [26] (lB := [_]) (by simp) (by kernel_rfl) (by kernel_rfl) rfl ?_
            go_wp2_with fail
            go_meet
            exact ⟨q0.heap.size, q7.heap.size, q1.heap.size, q8.heap.size, rfl, rfl, rfl, rfl, ((((((((((((Z19q9.set_ 0 _).set_ 1 _).set_ 2 _).far (p := ⟨q7.heap.size, 0, none⟩) n1920 _).far (p := ⟨q7.heap.size, 1, none⟩) n1920 _).far (p := ⟨q7.heap.size, 2, none⟩) n1920 _).far (p := ⟨q1.heap.size, 0, none⟩) n1921 _).far (p := ⟨q1.heap.size, 1, none⟩) n1921 _).far (p := ⟨q1.heap.size, 2, none⟩) n1921 _).far (p := ⟨q8.heap.size, 0, none⟩) n1922 _).far (p := ⟨q8.heap.size, 1, none⟩) n1922 _).far (p := ⟨q8.heap.size, 2, none⟩) n1922 _), ((((((((((((Z20q9.far (p := ⟨q0.heap.size, 0, none⟩) n2019 _).far (p := ⟨q0.heap.size, 1, none⟩) n2019 _).far (p := ⟨q0.heap.size, 2, none⟩) n2019 _).set_ 0 _).set_ 1 _).set_ 2 _).far (p := ⟨q1.heap.size, 0, none⟩) n2021 _).far (p := ⟨q1.heap.size, 1, none⟩) n2021 _).far (p := ⟨q1.heap.size, 2, none⟩) n2021 _).far (p := ⟨q8.heap.size, 0, none⟩) n2022 _).far (p := ⟨q8.heap.size, 1, none⟩) n2022 _).far (p := ⟨q8.heap.size, 2, none⟩) n2022 _), ((((((((((((Z21q9.far (p := ⟨q0.heap.size, 0, none⟩) n2119 _).far (p := ⟨q0.heap.size, 1, none⟩) n2119 _).far (p := ⟨q0.heap.size, 2, none⟩) n2119 _).far (p := ⟨q7.heap.size, 0, none⟩) n2120 _).far (p := ⟨q7.heap.size, 1, none⟩) n2120 _).far (p := ⟨q7.heap.size, 2, none⟩) n2120 _).set_ 0 _).set_ 1 _).set_ 2 _).far (p := ⟨q8.heap.size, 0, none⟩) n2122 _).far (p := ⟨q8.heap.size, 1, none⟩) n2122 _).far (p := ⟨q8.heap.size, 2, none⟩) n2122 _), ((((((((((((zq9.far (p := ⟨q0.heap.size, 0, none⟩) n2219 _).far (p := ⟨q0.heap.size, 1, none⟩) n2219 _).far (p := ⟨q0.heap.size, 2, none⟩) n2219 _).far (p := ⟨q7.heap.size, 0, none⟩) n2220 _).far (p := ⟨q7.heap.size, 1, none⟩) n2220 _).far (p := ⟨q7.heap.size, 2, none⟩) n2220 _).far (p := ⟨q1.heap.size, 0, none⟩) n2221 _).far (p := ⟨q1.heap.size, 1, none⟩) n2221 _).far (p := ⟨q1.heap.size, 2, none⟩) n2221 _).set_ 0 _).set_ 1 _).set_ 2 _), ((((((((((((bq9.setCell (p := ⟨q0.heap.size, 0, none⟩) sb19 _).setCell (p := ⟨q0.heap.size, 1, none⟩) sb19 _).setCell (p := ⟨q0.heap.size, 2, none⟩) sb19 _).setCell (p := ⟨q7.heap.size, 0, none⟩) sb20 _).setCell (p := ⟨q7.heap.size, 1, none⟩) sb20 _).setCell (p := ⟨q7.heap.size, 2, none⟩) sb20 _).setCell (p := ⟨q1.heap.size, 0, none⟩) sb21 _).setCell (p := ⟨q1.heap.size, 1, none⟩) sb21 _).setCell (p := ⟨q1.heap.size, 2, none⟩) sb21 _).setCell (p := ⟨q8.heap.size, 0, none⟩) sb22 _).setCell (p := ⟨q8.heap.size, 1, none⟩) sb22 _).setCell (p := ⟨q8.heap.size, 2, none⟩) sb22 _)⟩
        · go_wp2_with fail
          refine name_midw ?_
          intro q10 hn
          have hbq10 : Below q7.heap.size q7 q10 := by rw [hn]; exact (Below.refl _ _).alloc (Nat.le_refl _) _
          have zq10 : Blk q10 q7.heap.size #[.int .i64 0, .int .i64 0, .slice none 0 0] := by rw [hn]; exact Blk.new_ _ 27 _ rfl
          have seq10 : q7.heap.size < q10.heap.size := by rw [hn]; simp
          clear hn
          have Z19q10 := Z19q7.keep hbq10
          have Z21q10 := zq7.keep hbq10
          have bq10 : Below wx.heap.size wx q10 := bq7.trans (hbq10.mono bq7.size)
          have lq10 := hbq10.size
          refine mid_intro bq10 ?_
          refine gC_one (i := 20) (by kernel_rfl) rfl ?_
          · go_wp2_with fail
            refine name_midw ?_
            intro q11 hn
            have hbq11 : Below q10.heap.size q10 q11 := by rw [hn]; exact (Below.refl _ _).alloc (Nat.le_refl _) _
            have zq11 : Blk q11 q10.heap.size #[.int .i64 0, .int .i64 0, .slice none 0 0] := by rw [hn]; exact Blk.new_ _ 27 _ rfl
            have seq11 : q10.heap.size < q11.heap.size := by rw [hn]; simp
            clear hn
            have Z19q11 := Z19q10.keep hbq11
            have Z21q11 := Z21q10.keep hbq11
            have Z22q11 := zq10.keep hbq11
            have bq11 : Below wx.heap.size wx q11 := bq10.trans (hbq11.mono bq10.size)
            have lq11 := hbq11.size
            refine mid_intro bq11 ?_
            obtain ⟨d190, d191, d192⟩ := Z19q11.three
            have e190 := Z19q11.frozen 0
            have e191 := Z19q11.frozen 1
            have e192 := Z19q11.frozen 2
            have sb19 : wx.heap.size ≤ q0.heap.size := by first | exact bq0.size | exact bq0.size
            obtain ⟨d200, d201, d202⟩ := zq11.three
            have e200 := zq11.frozen 0
            have e201 := zq11.frozen 1
            have e202 := zq11.frozen 2
            have sb20 : wx.heap.size ≤ q10.heap.size := by first | exact bq0.size | exact bq10.size
            obtain ⟨d210, d211, d212⟩ := Z21q11.three
            have e210 := Z21q11.frozen 0
            have e211 := Z21q11.frozen 1
            have e212 := Z21q11.frozen 2
            have sb21 : wx.heap.size ≤ q1.heap.size := by first | exact bq0.size | exact bq1.size
            obtain ⟨d220, d221, d222⟩ := Z22q11.three
            have e220 := Z22q11.frozen 0
            have e221 := Z22q11.frozen 1
            have e222 := Z22q11.frozen 2
            have sb22 : wx.heap.size ≤ q7.heap.size := by first | exact bq0.size | exact bq7.size
            have n1920 : q0.heap.size ≠ q10.heap.size := by omega
            have n1921 : q0.heap.size ≠ q1.heap.size := by omega
            have n1922 : q0.heap.size ≠ q7.heap.size := by omega
            have n2019 : q10.heap.size ≠ q0.heap.size := by omega
            have n2021 : q10.heap.size ≠ q1.heap.size := by omega
            have n2022 : q10.heap.size ≠ q7.heap.size := by omega
            have n2119 : q1.heap.size ≠ q0.heap.size := by omega
            have n2120 : q1.heap.size ≠ q10.heap.size := by omega
            have n2122 : q1.heap.size ≠ q7.heap.size := by omega
            have n2219 : q7.heap.size ≠ q0.heap.size := by omega
            have n2220 : q7.heap.size ≠ q10.heap.size := by omega
            have n2221 : q7.heap.size ≠ q1.heap.size := by omega
            refine gC_one (i := 23) (by kernel_rfl) rfl ?_
            go_wp2_with fail
            refine mid_intro (((bq11.setCell (p := ⟨q0.heap.size, 0, none⟩) sb19 _).setCell (p := ⟨q0.heap.size, 1, none⟩) sb19 _).setCell (p := ⟨q0.heap.size, 2, none⟩) sb19 _) ?_
            refine gC_one (i := 24) (by kernel_rfl) rfl ?_
            go_wp2_with fail
            refine mid_intro ((((((bq11.setCell (p := ⟨q0.heap.size, 0, none⟩) sb19 _).setCell (p := ⟨q0.heap.size, 1, none⟩) sb19 _).setCell (p := ⟨q0.heap.size, 2, none⟩) sb19 _).setCell (p := ⟨q10.heap.size, 0, none⟩) sb20 _).setCell (p := ⟨q10.heap.size, 1, none⟩) sb20 _).setCell (p := ⟨q10.heap.size, 2, none⟩) sb20 _) ?_
            refine gC_one (i := 25) (by kernel_rfl) rfl ?_
            go_wp2_with fail
            refine mid_intro (((((((((bq11.setCell (p := ⟨q0.heap.size, 0, none⟩) sb19 _).setCell (p := ⟨q0.heap.size, 1, none⟩) sb19 _).setCell (p := ⟨q0.heap.size, 2, none⟩) sb19 _).setCell (p := ⟨q10.heap.size, 0, none⟩) sb20 _).setCell (p := ⟨q10.heap.size, 1, none⟩) sb20 _).setCell (p := ⟨q10.heap.size, 2, none⟩) sb20 _).setCell (p := ⟨q1.heap.size, 0, none⟩) sb21 _).setCell (p := ⟨q1.heap.size, 1, none⟩) sb21 _).setCell (p := ⟨q1.heap.size, 2, none⟩) sb21 _) ?_
            refine gC_end [26] (lB := [_]) (by simp) (by kernel_rfl) (by kernel_rfl) rfl ?_
            go_wp2_with fail
            go_meet
            exact ⟨q0.heap.size, q10.heap.size, q1.heap.size, q7.heap.size, rfl, rfl, rfl, rfl, ((((((((((((Z19q11.set_ 0 _).set_ 1 _).set_ 2 _).far (p := ⟨q10.heap.size, 0, none⟩) n1920 _).far (p := ⟨q10.heap.size, 1, none⟩) n1920 _).far (p := ⟨q10.heap.size, 2, none⟩) n1920 _).far (p := ⟨q1.heap.size, 0, none⟩) n1921 _).far (p := ⟨q1.heap.size, 1, none⟩) n1921 _).far (p := ⟨q1.heap.size, 2, none⟩) n1921 _).far (p := ⟨q7.heap.size, 0, none⟩) n1922 _).far (p := ⟨q7.heap.size, 1, none⟩) n1922 _).far (p := ⟨q7.heap.size, 2, none⟩) n1922 _), ((((((((((((zq11.far (p := ⟨q0.heap.size, 0, none⟩) n2019 _).far (p := ⟨q0.heap.size, 1, none⟩) n2019 _).far (p := ⟨q0.heap.size, 2, none⟩) n2019 _).set_ 0 _).set_ 1 _).set_ 2 _).far (p := ⟨q1.heap.size, 0, none⟩) n2021 _).far (p := ⟨q1.heap.size, 1, none⟩) n2021 _).far (p := ⟨q1.heap.size, 2, none⟩) n2021 _).far (p := ⟨q7.heap.size, 0, none⟩) n2022 _).far (p := ⟨q7.heap.size, 1, none⟩) n2022 _).far (p := ⟨q7.heap.size, 2, none⟩) n2022 _), ((((((((((((Z21q11.far (p := ⟨q0.heap.size, 0, none⟩) n2119 _).far (p := ⟨q0.heap.size, 1, none⟩) n2119 _).far (p := ⟨q0.heap.size, 2, none⟩) n2119 _).far (p := ⟨q10.heap.size, 0, none⟩) n2120 _).far (p := ⟨q10.heap.size, 1, none⟩) n2120 _).far (p := ⟨q10.heap.size, 2, none⟩) n2120 _).set_ 0 _).set_ 1 _).set_ 2 _).far (p := ⟨q7.heap.size, 0, none⟩) n2122 _).far (p := ⟨q7.heap.size, 1, none⟩) n2122 _).far (p := ⟨q7.heap.size, 2, none⟩) n2122 _), ((((((((((((Z22q11.far (p := ⟨q0.heap.size, 0, none⟩) n2219 _).far (p := ⟨q0.heap.size, 1, none⟩) n2219 _).far (p := ⟨q0.heap.size, 2, none⟩) n2219 _).far (p := ⟨q10.heap.size, 0, none⟩) n2220 _).far (p := ⟨q10.heap.size, 1, none⟩) n2220 _).far (p := ⟨q10.heap.size, 2, none⟩) n2220 _).far (p := ⟨q1.heap.size, 0, none⟩) n2221 _).far (p := ⟨q1.heap.size, 1, none⟩) n2221 _).far (p := ⟨q1.heap.size, 2, none⟩) n2221 _).set_ 0 _).set_ 1 _).set_ 2 _), ((((((((((((bq11.setCell (p := ⟨q0.heap.size, 0, none⟩) sb19 _).setCell (p := ⟨q0.heap.size, 1, none⟩) sb19 _).setCell (p := ⟨q0.heap.size, 2, none⟩) sb19 _).setCell (p := ⟨q10.heap.size, 0, none⟩) sb20 _).setCell (p := ⟨q10.heap.size, 1, none⟩) sb20 _).setCell (p := ⟨q10.heap.size, 2, none⟩) sb20 _).setCell (p := ⟨q1.heap.size, 0, none⟩) sb21 _).setCell (p := ⟨q1.heap.size, 1, none⟩) sb21 _).setCell (p := ⟨q1.heap.size, 2, none⟩) sb21 _).setCell (p := ⟨q7.heap.size, 0, none⟩) sb22 _).setCell (p := ⟨q7.heap.size, 1, none⟩) sb22 _).setCell (p := ⟨q7.heap.size, 2, none⟩) sb22 _)⟩
      · go_wp2_with fail
        refine name_midw ?_
        intro q12 hn
        have hbq12 : Below q1.heap.size q1 q12 := by rw [hn]; exact (Below.refl _ _).alloc (Nat.le_refl _) _
        have zq12 : Blk q12 q1.heap.size #[.int .i64 0, .int .i64 0, .slice none 0 0] := by rw [hn]; exact Blk.new_ _ 27 _ rfl
        have seq12 : q1.heap.size < q12.heap.size := by rw [hn]; simp
        clear hn
        have Z19q12 := zq1.keep hbq12
        have bq12 : Below wx.heap.size wx q12 := bq1.trans (hbq12.mono bq1.size)
        have lq12 := hbq12.size
        refine mid_intro bq12 ?_
        refine gC_two (i := 20) (j := 21) (by kernel_rfl) rfl rfl ?_ ?_
        · go_wp2_with fail
          refine name_midw ?_
          intro q13 hn
          have hbq13 : Below q12.heap.size q12 q13 := by rw [hn]; exact (Below.refl _ _).alloc (Nat.le_refl _) _
          have zq13 : Blk q13 q12.heap.size #[.int .i64 0, .int .i64 0, .slice none 0 0] := by rw [hn]; exact Blk.new_ _ 27 _ rfl
          have seq13 : q12.heap.size < q13.heap.size := by rw [hn]; simp
          clear hn
          have Z19q13 := Z19q12.keep hbq13
          have Z22q13 := zq12.keep hbq13
          have bq13 : Below wx.heap.size wx q13 := bq12.trans (hbq13.mono bq12.size)
          have lq13 := hbq13.size
          refine mid_intro bq13 ?_
          refine gC_one (i := 21) (by kernel_rfl) rfl ?_
          · go_wp2_with fail
            refine name_midw ?_
            intro q14 hn
            have hbq14 : Below q13.heap.size q13 q14 := by rw [hn]; exact (Below.refl _ _).alloc (Nat.le_refl _) _
            have zq14 : Blk q14 q13.heap.size #[.int .i64 0, .int .i64 0, .slice none 0 0] := by rw [hn]; exact Blk.new_ _ 27 _ rfl
            have seq14 : q13.heap.size < q14.heap.size := by rw [hn]; simp
            clear hn
            have Z19q14 := Z19q13.keep hbq14
            have Z22q14 := Z22q13.keep hbq14
            have Z20q14 := zq13.keep hbq14
            have bq14 : Below wx.heap.size wx q14 := bq13.trans (hbq14.mono bq13.size)
            have lq14 := hbq14.size
            refine mid_intro bq14 ?_
            obtain ⟨d190, d191, d192⟩ := Z19q14.three
            have e190 := Z19q14.frozen 0
            have e191 := Z19q14.frozen 1
            have e192 := Z19q14.frozen 2
            have sb19 : wx.heap.size ≤ q0.heap.size := by first | exact bq0.size | exact bq0.size
            obtain ⟨d200, d201, d202⟩ := Z20q14.three
            have e200 := Z20q14.frozen 0
            have e201 := Z20q14.frozen 1
            have e202 := Z20q14.frozen 2
            have sb20 : wx.heap.size ≤ q12.heap.size := by first | exact bq0.size | exact bq12.size
            obtain ⟨d210, d211, d212⟩ := zq14.three
            have e210 := zq14.frozen 0
            have e211 := zq14.frozen 1
            have e212 := zq14.frozen 2
            have sb21 : wx.heap.size ≤ q13.heap.size := by first | exact bq0.size | exact bq13.size
            obtain ⟨d220, d221, d222⟩ := Z22q14.three
            have e220 := Z22q14.frozen 0
            have e221 := Z22q14.frozen 1
            have e222 := Z22q14.frozen 2
            have sb22 : wx.heap.size ≤ q1.heap.size := by first | exact bq0.size | exact bq1.size
            have n1920 : q0.heap.size ≠ q12.heap.size := by omega
            have n1921 : q0.heap.size ≠ q13.heap.size := by omega
            have n1922 : q0.heap.size ≠ q1.heap.size := by omega
            have n2019 : q12.heap.size ≠ q0.heap.size := by omega
            have n2021 : q12.heap.size ≠ q13.heap.size := by omega
            have n2022 : q12.heap.size ≠ q1.heap.size := by omega
            have n2119 : q13.heap.size ≠ q0.heap.size := by omega
            have n2120 : q13.heap.size ≠ q12.heap.size := by omega
            have n2122 : q13.heap.size ≠ q1.heap.size := by omega
            have n2219 : q1.heap.size ≠ q0.heap.size := by omega
            have n2220 : q1.heap.size ≠ q12.heap.size := by omega
            have n2221 : q1.heap.size ≠ q13.heap.size := by omega
            refine gC_one (i := 23) (by kernel_rfl) rfl ?_
            go_wp2_with fail
            refine mid_intro (((bq14.setCell (p := ⟨q0.heap.size, 0, none⟩) sb19 _).setCell (p := ⟨q0.heap.size, 1, none⟩) sb19 _).setCell (p := ⟨q0.heap.size, 2, none⟩) sb19 _) ?_
            refine gC_one (i := 24) (by kernel_rfl) rfl ?_
            go_wp2_with fail
            refine mid_intro ((((((bq14.setCell (p := ⟨q0.heap.size, 0, none⟩) sb19 _).setCell (p := ⟨q0.heap.size, 1, none⟩) sb19 _).setCell (p := ⟨q0.heap.size, 2, none⟩) sb19 _).setCell (p := ⟨q12.heap.size, 0, none⟩) sb20 _).setCell (p := ⟨q12.heap.size, 1, none⟩) sb20 _).setCell (p := ⟨q12.heap.size, 2, none⟩) sb20 _) ?_
            refine gC_one (i := 25) (by kernel_rfl) rfl ?_
            go_wp2_with fail
            refine mid_intro (((((((((bq14.setCell (p := ⟨q0.heap.size, 0, none⟩) sb19 _).setCell (p := ⟨q0.heap.size, 1, none⟩) sb19 _).setCell (p := ⟨q0.heap.size, 2, none⟩) sb19 _).setCell (p := ⟨q12.heap.size, 0, none⟩) sb20 _).setCell (p := ⟨q12.heap.size, 1, none⟩) sb20 _).setCell (p := ⟨q12.heap.size, 2, none⟩) sb20 _).setCell (p := ⟨q13.heap.size, 0, none⟩) sb21 _).setCell (p := ⟨q13.heap.size, 1, none⟩) sb21 _).setCell (p := ⟨q13.heap.size, 2, none⟩) sb21 _) ?_
            refine gC_end [26] (lB := [_]) (by simp) (by kernel_rfl) (by kernel_rfl) rfl ?_
            go_wp2_with fail
            go_meet
            exact ⟨q0.heap.size, q12.heap.size, q13.heap.size, q1.heap.size, rfl, rfl, rfl, rfl, ((((((((((((Z19q14.set_ 0 _).set_ 1 _).set_ 2 _).far (p := ⟨q12.heap.size, 0, none⟩) n1920 _).far (p := ⟨q12.heap.size, 1, none⟩) n1920 _).far (p := ⟨q12.heap.size, 2, none⟩) n1920 _).far (p := ⟨q13.heap.size, 0, none⟩) n1921 _).far (p := ⟨q13.heap.size, 1, none⟩) n1921 _).far (p := ⟨q13.heap.size, 2, none⟩) n1921 _).far (p := ⟨q1.heap.size, 0, none⟩) n1922 _).far (p := ⟨q1.heap.size, 1, none⟩) n1922 _).far (p := ⟨q1.heap.size, 2, none⟩) n1922 _), ((((((((((((Z20q14.far (p := ⟨q0.heap.size, 0, none⟩) n2019 _).far (p := ⟨q0.heap.size, 1, none⟩) n2019 _).far (p := ⟨q0.heap.size, 2, none⟩) n2019 _).set_ 0 _).set_ 1 _).set_ 2 _).far (p := ⟨q13.heap.size, 0, none⟩) n2021 _).far (p := ⟨q13.heap.size, 1, none⟩) n2021 _).far (p := ⟨q13.heap.size, 2, none⟩) n2021 _).far (p := ⟨q1.heap.size, 0, none⟩) n2022 _).far (p := ⟨q1.heap.size, 1, none⟩) n2022 _).far (p := ⟨q1.heap.size, 2, none⟩) n2022 _), ((((((((((((zq14.far (p := ⟨q0.heap.size, 0, none⟩) n2119 _).far (p := ⟨q0.heap.size, 1, none⟩) n2119 _).far (p := ⟨q0.heap.size, 2, none⟩) n2119 _).far (p := ⟨q12.heap.size, 0, none⟩) n2120 _).far (p := ⟨q12.heap.size, 1, none⟩) n2120 _).far (p := ⟨q12.heap.size, 2, none⟩) n2120 _).set_ 0 _).set_ 1 _).set_ 2 _).far (p := ⟨q1.heap.size, 0, none⟩) n2122 _).far (p := ⟨q1.heap.size, 1, none⟩) n2122 _).far (p := ⟨q1.heap.size, 2, none⟩) n2122 _), ((((((((((((Z22q14.far (p := ⟨q0.heap.size, 0, none⟩) n2219 _).far (p := ⟨q0.heap.size, 1, none⟩) n2219 _).far (p := ⟨q0.heap.size, 2, none⟩) n2219 _).far (p := ⟨q12.heap.size, 0, none⟩) n2220 _).far (p := ⟨q12.heap.size, 1, none⟩) n2220 _).far (p := ⟨q12.heap.size, 2, none⟩) n2220 _).far (p := ⟨q13.heap.size, 0, none⟩) n2221 _).far (p := ⟨q13.heap.size, 1, none⟩) n2221 _).far (p := ⟨q13.heap.size, 2, none⟩) n2221 _).set_ 0 _).set_ 1 _).set_ 2 _), ((((((((((((bq14.setCell (p := ⟨q0.heap.size, 0, none⟩) sb19 _).setCell (p := ⟨q0.heap.size, 1, none⟩) sb19 _).setCell (p := ⟨q0.heap.size, 2, none⟩) sb19 _).setCell (p := ⟨q12.heap.size, 0, none⟩) sb20 _).setCell (p := ⟨q12.heap.size, 1, none⟩) sb20 _).setCell (p := ⟨q12.heap.size, 2, none⟩) sb20 _).setCell (p := ⟨q13.heap.size, 0, none⟩) sb21 _).setCell (p := ⟨q13.heap.size, 1, none⟩) sb21 _).setCell (p := ⟨q13.heap.size, 2, none⟩) sb21 _).setCell (p := ⟨q1.heap.size, 0, none⟩) sb22 _).setCell (p := ⟨q1.heap.size, 1, none⟩) sb22 _).setCell (p := ⟨q1.heap.size, 2, none⟩) sb22 _)⟩
        · go_wp2_with fail
          refine name_midw ?_
          intro q15 hn
          have hbq15 : Below q12.heap.size q12 q15 := by rw [hn]; exact (Below.refl _ _).alloc (Nat.le_refl _) _
          have zq15 : Blk q15 q12.heap.size #[.int .i64 0, .int .i64 0, .slice none 0 0] := by rw [hn]; exact Blk.new_ _ 27 _ rfl
          have seq15 : q12.heap.size < q15.heap.size := by rw [hn]; simp
          clear hn
          have Z19q15 := Z19q12.keep hbq15
          have Z22q15 := zq12.keep hbq15
          have bq15 : Below wx.heap.size wx q15 := bq12.trans (hbq15.mono bq12.size)
          have lq15 := hbq15.size
          refine mid_intro bq15 ?_
          refine gC_one (i := 20) (by kernel_rfl) rfl ?_
          · go_wp2_with fail
            refine name_midw ?_
            intro q16 hn
            have hbq16 : Below q15.heap.size q15 q16 := by rw [hn]; exact (Below.refl _ _).alloc (Nat.le_refl _) _
            have zq16 : Blk q16 q15.heap.size #[.int .i64 0, .int .i64 0, .slice none 0 0] := by rw [hn]; exact Blk.new_ _ 27 _ rfl
            have seq16 : q15.heap.size < q16.heap.size := by rw [hn]; simp
            clear hn
            have Z19q16 := Z19q15.keep hbq16
            have Z22q16 := Z22q15.keep hbq16
            have Z21q16 := zq15.keep hbq16
            have bq16 : Below wx.heap.size wx q16 := bq15.trans (hbq16.mono bq15.size)
            have lq16 := hbq16.size
            refine mid_intro bq16 ?_
            obtain ⟨d190, d191, d192⟩ := Z19q16.three
            have e190 := Z19q16.frozen 0
            have e191 := Z19q16.frozen 1
            have e192 := Z19q16.frozen 2
            have sb19 : wx.heap.size ≤ q0.heap.size := by first | exact bq0.size | exact bq0.size
            obtain ⟨d200, d201, d202⟩ := zq16.three
            have e200 := zq16.frozen 0
            have e201 := zq16.frozen 1
            have e202 := zq16.frozen 2
            have sb20 : wx.heap.size ≤ q15.heap.size := by first | exact bq0.size | exact bq15.size
            obtain ⟨d210, d211, d212⟩ := Z21q16.three
            have e210 := Z21q16.frozen 0
            have e211 := Z21q16.frozen 1
            have e212 := Z21q16.frozen 2
            have sb21 : wx.heap.size ≤ q12.heap.size := by first | exact bq0.size | exact bq12.size
            obtain ⟨d220, d221, d222⟩ := Z22q16.three
            have e220 := Z22q16.frozen 0
            have e221 := Z22q16.frozen 1
            have e222 := Z22q16.frozen 2
            have sb22 : wx.heap.size ≤ q1.heap.size := by first | exact bq0.size | exact bq1.size
            have n1920 : q0.heap.size ≠ q15.heap.size := by omega
            have n1921 : q0.heap.size ≠ q12.heap.size := by omega
            have n1922 : q0.heap.size ≠ q1.heap.size := by omega
            have n2019 : q15.heap.size ≠ q0.heap.size := by omega
            have n2021 : q15.heap.size ≠ q12.heap.size := by omega
            have n2022 : q15.heap.size ≠ q1.heap.size := by omega
            have n2119 : q12.heap.size ≠ q0.heap.size := by omega
            have n2120 : q12.heap.size ≠ q15.heap.size := by omega
            have n2122 : q12.heap.size ≠ q1.heap.size := by omega
            have n2219 : q1.heap.size ≠ q0.heap.size := by omega
            have n2220 : q1.heap.size ≠ q15.heap.size := by omega
            have n2221 : q1.heap.size ≠ q12.heap.size := by omega
            refine gC_one (i := 23) (by kernel_rfl) rfl ?_
            go_wp2_with fail
            refine mid_intro (((bq16.setCell (p := ⟨q0.heap.size, 0, none⟩) sb19 _).setCell (p := ⟨q0.heap.size, 1, none⟩) sb19 _).setCell (p := ⟨q0.heap.size, 2, none⟩) sb19 _) ?_
            refine gC_one (i := 24) (by kernel_rfl) rfl ?_
            go_wp2_with fail
            refine mid_intro ((((((bq16.setCell (p := ⟨q0.heap.size, 0, none⟩) sb19 _).setCell (p := ⟨q0.heap.size, 1, none⟩) sb19 _).setCell (p := ⟨q0.heap.size, 2, none⟩) sb19 _).setCell (p := ⟨q15.heap.size, 0, none⟩) sb20 _).setCell (p := ⟨q15.heap.size, 1, none⟩) sb20 _).setCell (p := ⟨q15.heap.size, 2, none⟩) sb20 _) ?_
            refine gC_one (i := 25) (by kernel_rfl) rfl ?_
            go_wp2_with fail
            refine mid_intro (((((((((bq16.setCell (p := ⟨q0.heap.size, 0, none⟩) sb19 _).setCell (p := ⟨q0.heap.size, 1, none⟩) sb19 _).setCell (p := ⟨q0.heap.size, 2, none⟩) sb19 _).setCell (p := ⟨q15.heap.size, 0, none⟩) sb20 _).setCell (p := ⟨q15.heap.size, 1, none⟩) sb20 _).setCell (p := ⟨q15.heap.size, 2, none⟩) sb20 _).setCell (p := ⟨q12.heap.size, 0, none⟩) sb21 _).setCell (p := ⟨q12.heap.size, 1, none⟩) sb21 _).setCell (p := ⟨q12.heap.size, 2, none⟩) sb21 _) ?_
            refine gC_end [26] (lB := [_]) (by simp) (by kernel_rfl) (by kernel_rfl) rfl ?_
            go_wp2_with fail
            go_meet
            exact ⟨q0.heap.size, q15.heap.size, q12.heap.size, q1.heap.size, rfl, rfl, rfl, rfl, ((((((((((((Z19q16.set_ 0 _).set_ 1 _).set_ 2 _).far (p := ⟨q15.heap.size, 0, none⟩) n1920 _).far (p := ⟨q15.heap.size, 1, none⟩) n1920 _).far (p := ⟨q15.heap.size, 2, none⟩) n1920 _).far (p := ⟨q12.heap.size, 0, none⟩) n1921 _).far (p := ⟨q12.heap.size, 1, none⟩) n1921 _).far (p := ⟨q12.heap.size, 2, none⟩) n1921 _).far (p := ⟨q1.heap.size, 0, none⟩) n1922 _).far (p := ⟨q1.heap.size, 1, none⟩) n1922 _).far (p := ⟨q1.heap.size, 2, none⟩) n1922 _), ((((((((((((zq16.far (p := ⟨q0.heap.size, 0, none⟩) n2019 _).far (p := ⟨q0.heap.size, 1, none⟩) n2019 _).far (p := ⟨q0.heap.size, 2, none⟩) n2019 _).set_ 0 _).set_ 1 _).set_ 2 _).far (p := ⟨q12.heap.size, 0, none⟩) n2021 _).far (p := ⟨q12.heap.size, 1, none⟩) n2021 _).far (p := ⟨q12.heap.size, 2, none⟩) n2021 _).far (p := ⟨q1.heap.size, 0, none⟩) n2022 _).far (p := ⟨q1.heap.size, 1, none⟩) n2022 _).far (p := ⟨q1.heap.size, 2, none⟩) n2022 _), ((((((((((((Z21q16.far (p := ⟨q0.heap.size, 0, none⟩) n2119 _).far (p := ⟨q0.heap.size, 1, none⟩) n2119 _).far (p := ⟨q0.heap.size, 2, none⟩) n2119 _).far (p := ⟨q15.heap.size, 0, none⟩) n2120 _).far (p := ⟨q15.heap.size, 1, none⟩) n2120 _).far (p := ⟨q15.heap.size, 2, none⟩) n2120 _).set_ 0 _).set_ 1 _).set_ 2 _).far (p := ⟨q1.heap.size, 0, none⟩) n2122 _).far (p := ⟨q1.heap.size, 1, none⟩) n2122 _).far (p := ⟨q1.heap.size, 2, none⟩) n2122 _), ((((((((((((Z22q16.far (p := ⟨q0.heap.size, 0, none⟩) n2219 _).far (p := ⟨q0.heap.size, 1, none⟩) n2219 _).far (p := ⟨q0.heap.size, 2, none⟩) n2219 _).far (p := ⟨q15.heap.size, 0, none⟩) n2220 _).far (p := ⟨q15.heap.size, 1, none⟩) n2220 _).far (p := ⟨q15.heap.size, 2, none⟩) n2220 _).far (p := ⟨q12.heap.size, 0, none⟩) n2221 _).far (p := ⟨q12.heap.size, 1, none⟩) n2221 _).far (p := ⟨q12.heap.size, 2, none⟩) n2221 _).set_ 0 _).set_ 1 _).set_ 2 _), ((((((((((((bq16.setCell (p := ⟨q0.heap.size, 0, none⟩) sb19 _).setCell (p := ⟨q0.heap.size, 1, none⟩) sb19 _).setCell (p := ⟨q0.heap.size, 2, none⟩) sb19 _).setCell (p := ⟨q15.heap.size, 0, none⟩) sb20 _).setCell (p := ⟨q15.heap.size, 1, none⟩) sb20 _).setCell (p := ⟨q15.heap.size, 2, none⟩) sb20 _).setCell (p := ⟨q12.heap.size, 0, none⟩) sb21 _).setCell (p := ⟨q12.heap.size, 1, none⟩) sb21 _).setCell (p := ⟨q12.heap.size, 2, none⟩) sb21 _).setCell (p := ⟨q1.heap.size, 0, none⟩) sb22 _).setCell (p := ⟨q1.heap.size, 1, none⟩) sb22 _).setCell (p := ⟨q1.heap.size, 2, none⟩) sb22 _)⟩
    · go_wp2_with fail
      refine name_midw ?_
      intro q17 hn
      have hbq17 : Below q0.heap.size q0 q17 := by rw [hn]; exact (Below.refl _ _).alloc (Nat.le_refl _) _
      have zq17 : Blk q17 q0.heap.size #[.int .i64 0, .int .i64 0, .slice none 0 0] := by rw [hn]; exact Blk.new_ _ 27 _ rfl
      have seq17 : q0.heap.size < q17.heap.size := by rw [hn]; simp
      clear hn
      have bq17 : Below wx.heap.size wx q17 := bq0.trans (hbq17.mono bq0.size)
      have lq17 := hbq17.size
      refine mid_intro bq17 ?_
      refine gC_three (i := 19) (j := 21) (m := 22) (by kernel_rfl) rfl rfl rfl ?_ ?_ ?_
      · go_wp2_with fail
        refine name_midw ?_
        intro q18 hn
        have hbq18 : Below q17.heap.size q17 q18 := by rw [hn]; exact (Below.refl _ _).alloc (Nat.le_refl _) _
        have zq18 : Blk q18 q17.heap.size #[.int .i64 0, .int .i64 0, .slice none 0 0] := by rw [hn]; exact Blk.new_ _ 27 _ rfl
        have seq18 : q17.heap.size < q18.heap.size := by rw [hn]; simp
        clear hn
        have Z20q18 := zq17.keep hbq18
        have bq18 : Below wx.heap.size wx q18 := bq17.trans (hbq18.mono bq17.size)
        have lq18 := hbq18.size
        refine mid_intro bq18 ?_
        refine gC_two (i := 21) (j := 22) (by kernel_rfl) rfl rfl ?_ ?_
        · go_wp2_with fail
          refine name_midw ?_
          intro q19 hn
          have hbq19 : Below q18.heap.size q18 q19 := by rw [hn]; exact (Below.refl _ _).alloc (Nat.le_refl _) _
          have zq19 : Blk q19 q18.heap.size #[.int .i64 0, .int .i64 0, .slice none 0 0] := by rw [hn]; exact Blk.new_ _ 27 _ rfl
          have seq19 : q18.heap.size < q19.heap.size := by rw [hn]; simp
          clear hn
          have Z20q19 := Z20q18.keep hbq19
          have Z19q19 := zq18.keep hbq19
          have bq19 : Below wx.heap.size wx q19 := bq18.trans (hbq19.mono bq18.size)
          have lq19 := hbq19.size
          refine mid_intro bq19 ?_
          refine gC_one (i := 22) (by kernel_rfl) rfl ?_
          · go_wp2_with fail
            refine name_midw ?_
            intro q20 hn
            have hbq20 : Below q19.heap.size q19 q20 := by rw [hn]; exact (Below.refl _ _).alloc (Nat.le_refl _) _
            have zq20 : Blk q20 q19.heap.size #[.int .i64 0, .int .i64 0, .slice none 0 0] := by rw [hn]; exact Blk.new_ _ 27 _ rfl
            have seq20 : q19.heap.size < q20.heap.size := by rw [hn]; simp
            clear hn
            have Z20q20 := Z20q19.keep hbq20
            have Z19q20 := Z19q19.keep hbq20
            have Z21q20 := zq19.keep hbq20
            have bq20 : Below wx.heap.size wx q20 := bq19.trans (hbq20.mono bq19.size)
            have lq20 := hbq20.size
            refine mid_intro bq20 ?_
            obtain ⟨d190, d191, d192⟩ := Z19q20.three
            have e190 := Z19q20.frozen 0
            have e191 := Z19q20.frozen 1
            have e192 := Z19q20.frozen 2
            have sb19 : wx.heap.size ≤ q17.heap.size := by first | exact bq0.size | exact bq17.size
            obtain ⟨d200, d201, d202⟩ := Z20q20.three
            have e200 := Z20q20.frozen 0
            have e201 := Z20q20.frozen 1
            have e202 := Z20q20.frozen 2
            have sb20 : wx.heap.size ≤ q0.heap.size := by first | exact bq0.size | exact bq0.size
            obtain ⟨d210, d211, d212⟩ := Z21q20.three
            have e210 := Z21q20.frozen 0
            have e211 := Z21q20.frozen 1
            have e212 := Z21q20.frozen 2
            have sb21 : wx.heap.size ≤ q18.heap.size := by first | exact bq0.size | exact bq18.size
            obtain ⟨d220, d221, d222⟩ := zq20.three
            have e220 := zq20.frozen 0
            have e221 := zq20.frozen 1
            have e222 := zq20.frozen 2
            have sb22 : wx.heap.size ≤ q19.heap.size := by first | exact bq0.size | exact bq19.size
            have n1920 : q17.heap.size ≠ q0.heap.size := by omega
            have n1921 : q17.heap.size ≠ q18.heap.size := by omega
            have n1922 : q17.heap.size ≠ q19.heap.size := by omega
            have n2019 : q0.heap.size ≠ q17.heap.size := by omega
            have n2021 : q0.heap.size ≠ q18.heap.size := by omega
            have n2022 : q0.heap.size ≠ q19.heap.size := by omega
            have n2119 : q18.heap.size ≠ q17.heap.size := by omega
            have n2120 : q18.heap.size ≠ q0.heap.size := by omega
            have n2122 : q18.heap.size ≠ q19.heap.size := by omega
            have n2219 : q19.heap.size ≠ q17.heap.size := by omega
            have n2220 : q19.heap.size ≠ q0.heap.size := by omega
            have n2221 : q19.heap.size ≠ q18.heap.size := by omega
            refine gC_one (i := 23) (by kernel_rfl) rfl ?_
            go_wp2_with fail
            refine mid_intro (((bq20.setCell (p := ⟨q17.heap.size, 0, none⟩) sb19 _).setCell (p := ⟨q17.heap.size, 1, none⟩) sb19 _).setCell (p := ⟨q17.heap.size, 2, none⟩) sb19 _) ?_
            refine gC_one (i := 24) (by kernel_rfl) rfl ?_
            go_wp2_with fail
            refine mid_intro ((((((bq20.setCell (p := ⟨q17.heap.size, 0, none⟩) sb19 _).setCell (p := ⟨q17.heap.size, 1, none⟩) sb19 _).setCell (p := ⟨q17.heap.size, 2, none⟩) sb19 _).setCell (p := ⟨q0.heap.size, 0, none⟩) sb20 _).setCell (p := ⟨q0.heap.size, 1, none⟩) sb20 _).setCell (p := ⟨q0.heap.size, 2, none⟩) sb20 _) ?_
            refine gC_one (i := 25) (by kernel_rfl) rfl ?_
            go_wp2_with fail
            refine mid_intro (((((((((bq20.setCell (p := ⟨q17.heap.size, 0, none⟩) sb19 _).setCell (p := ⟨q17.heap.size, 1, none⟩) sb19 _).setCell (p := ⟨q17.heap.size, 2, none⟩) sb19 _).setCell (p := ⟨q0.heap.size, 0, none⟩) sb20 _).setCell (p := ⟨q0.heap.size, 1, none⟩) sb20 _).setCell (p := ⟨q0.heap.size, 2, none⟩) sb20 _).setCell (p := ⟨q18.heap.size, 0, none⟩) sb21 _).setCell (p := ⟨q18.heap.size, 1, none⟩) sb21 _).setCell (p := ⟨q18.heap.size, 2, none⟩) sb21 _) ?_
            refine gC_end [26] (lB := [_]) (by simp) (by kernel_rfl) (by kernel_rfl) rfl ?_
            go_wp2_with fail
            go_meet
            exact ⟨q17.heap.size, q0.heap.size, q18.heap.size, q19.heap.size, rfl, rfl, rfl, rfl, ((((((((((((Z19q20.set_ 0 _).set_ 1 _).set_ 2 _).far (p := ⟨q0.heap.size, 0, none⟩) n1920 _).far (p := ⟨q0.heap.size, 1, none⟩) n1920 _).far (p := ⟨q0.heap.size, 2, none⟩) n1920 _).far (p := ⟨q18.heap.size, 0, none⟩) n1921 _).far (p := ⟨q18.heap.size, 1, none⟩) n1921 _).far (p := ⟨q18.heap.size, 2, none⟩) n1921 _).far (p := ⟨q19.heap.size, 0, none⟩) n1922 _).far (p := ⟨q19.heap.size, 1, none⟩) n1922 _).far (p := ⟨q19.heap.size, 2, none⟩) n1922 _), ((((((((((((Z20q20.far (p := ⟨q17.heap.size, 0, none⟩) n2019 _).far (p := ⟨q17.heap.size, 1, none⟩) n2019 _).far (p := ⟨q17.heap.size, 2, none⟩) n2019 _).set_ 0 _).set_ 1 _).set_ 2 _).far (p := ⟨q18.heap.size, 0, none⟩) n2021 _).far (p := ⟨q18.heap.size, 1, none⟩) n2021 _).far (p := ⟨q18.heap.size, 2, none⟩) n2021 _).far (p := ⟨q19.heap.size, 0, none⟩) n2022 _).far (p := ⟨q19.heap.size, 1, none⟩) n2022 _).far (p := ⟨q19.heap.size, 2, none⟩) n2022 _), ((((((((((((Z21q20.far (p := ⟨q17.heap.size, 0, none⟩) n2119 _).far (p := ⟨q17.heap.size, 1, none⟩) n2119 _).far (p := ⟨q17.heap.size, 2, none⟩) n2119 _).far (p := ⟨q0.heap.size, 0, none⟩) n2120 _).far (p := ⟨q0.heap.size, 1, none⟩) n2120 _).far (p := ⟨q0.heap.size, 2, none⟩) n2120 _).set_ 0 _).set_ 1 _).set_ 2 _).far (p := ⟨q19.heap.size, 0, none⟩) n2122 _).far (p := ⟨q19.heap.size, 1, none⟩) n2122 _).far (p := ⟨q19.heap.size, 2, none⟩) n2122 _), ((((((((((((zq20.far (p := ⟨q17.heap.size, 0, none⟩) n2219 _).far (p := ⟨q17.heap.size, 1, none⟩) n2219 _).far (p := ⟨q17.heap.size, 2, none⟩) n2219 _).far (p := ⟨q0.heap.size, 0, none⟩) n2220 _).far (p := ⟨q0.heap.size, 1, none⟩) n2220 _).far (p := ⟨q0.heap.size, 2, none⟩) n2220 _).far (p := ⟨q18.heap.size, 0, none⟩) n2221 _).far (p := ⟨q18.heap.size, 1, none⟩) n2221 _).far (p := ⟨q18.heap.size, 2, none⟩) n2221 _).set_ 0 _).set_ 1 _).set_ 2 _), ((((((((((((bq20.setCell (p := ⟨q17.heap.size, 0, none⟩) sb19 _).setCell (p := ⟨q17.heap.size, 1, none⟩) sb19 _).setCell (p := ⟨q17.heap.size, 2, none⟩) sb19 _).setCell (p := ⟨q0.heap.size, 0, none⟩) sb20 _).setCell (p := ⟨q0.heap.size, 1, none⟩) sb20 _).setCell (p := ⟨q0.heap.size, 2, none⟩) sb20 _).setCell (p := ⟨q18.heap.size, 0, none⟩) sb21 _).setCell (p := ⟨q18.heap.size, 1, none⟩) sb21 _).setCell (p := ⟨q18.heap.size, 2, none⟩) sb21 _).setCell (p := ⟨q19.heap.size, 0, none⟩) sb22 _).setCell (p := ⟨q19.heap.size, 1, none⟩) sb22 _).setCell (p := ⟨q19.heap.size, 2, none⟩) sb22 _)⟩
        · go_wp2_with fail
          refine name_midw ?_
          intro q21 hn
          have hbq21 : Below q18.heap.size q18 q21 := by rw [hn]; exact (Below.refl _ _).alloc (Nat.le_refl _) _
          have zq21 : Blk q21 q18.heap.size #[.int .i64 0, .int .i64 0, .slice none 0 0] := by rw [hn]; exact Blk.new_ _ 27 _ rfl
          have seq21 : q18.heap.size < q21.heap.size := by rw [hn]; simp
          clear hn
          have Z20q21 := Z20q18.keep hbq21
          have Z19q21 := zq18.keep hbq21
          have bq21 : Below wx.heap.size wx q21 := bq18.trans (hbq21.mono bq18.size)
          have lq21 := hbq21.size
          refine mid_intro bq21 ?_
          refine gC_one (i := 21) (by kernel_rfl) rfl ?_
          · go_wp2_with fail
            refine name_midw ?_
            intro q22 hn
            have hbq22 : Below q21.heap.size q21 q22 := by rw [hn]; exact (Below.refl _ _).alloc (Nat.le_refl _) _
            have zq22 : Blk q22 q21.heap.size #[.int .i64 0, .int .i64 0, .slice none 0 0] := by rw [hn]; exact Blk.new_ _ 27 _ rfl
            have seq22 : q21.heap.size < q22.heap.size := by rw [hn]; simp
            clear hn
            have Z20q22 := Z20q21.keep hbq22
            have Z19q22 := Z19q21.keep hbq22
            have Z22q22 := zq21.keep hbq22
            have bq22 : Below wx.heap.size wx q22 := bq21.trans (hbq22.mono bq21.size)
            have lq22 := hbq22.size
            refine mid_intro bq22 ?_
            obtain ⟨d190, d191, d192⟩ := Z19q22.three
            have e190 := Z19q22.frozen 0
            have e191 := Z19q22.frozen 1
            have e192 := Z19q22.frozen 2
            have sb19 : wx.heap.size ≤ q17.heap.size := by first | exact bq0.size | exact bq17.size
            obtain ⟨d200, d201, d202⟩ := Z20q22.three
            have e200 := Z20q22.frozen 0
            have e201 := Z20q22.frozen 1
            have e202 := Z20q22.frozen 2
            have sb20 : wx.heap.size ≤ q0.heap.size := by first | exact bq0.size | exact bq0.size
            obtain ⟨d210, d211, d212⟩ := zq22.three
            have e210 := zq22.frozen 0
            have e211 := zq22.frozen 1
            have e212 := zq22.frozen 2
            have sb21 : wx.heap.size ≤ q21.heap.size := by first | exact bq0.size | exact bq21.size
            obtain ⟨d220, d221, d222⟩ := Z22q22.three
            have e220 := Z22q22.frozen 0
            have e221 := Z22q22.frozen 1
            have e222 := Z22q22.frozen 2
            have sb22 : wx.heap.size ≤ q18.heap.size := by first | exact bq0.size | exact bq18.size
            have n1920 : q17.heap.size ≠ q0.heap.size := by omega
            have n1921 : q17.heap.size ≠ q21.heap.size := by omega
            have n1922 : q17.heap.size ≠ q18.heap.size := by omega
            have n2019 : q0.heap.size ≠ q17.heap.size := by omega
            have n2021 : q0.heap.size ≠ q21.heap.size := by omega
            have n2022 : q0.heap.size ≠ q18.heap.size := by omega
            have n2119 : q21.heap.size ≠ q17.heap.size := by omega
            have n2120 : q21.heap.size ≠ q0.heap.size := by omega
            have n2122 : q21.heap.size ≠ q18.heap.size := by omega
            have n2219 : q18.heap.size ≠ q17.heap.size := by omega
            have n2220 : q18.heap.size ≠ q0.heap.size := by omega
            have n2221 : q18.heap.size ≠ q21.heap.size := by omega
            refine gC_one (i := 23) (by kernel_rfl) rfl ?_
            go_wp2_with fail
            refine mid_intro (((bq22.setCell (p := ⟨q17.heap.size, 0, none⟩) sb19 _).setCell (p := ⟨q17.heap.size, 1, none⟩) sb19 _).setCell (p := ⟨q17.heap.size, 2, none⟩) sb19 _) ?_
            refine gC_one (i := 24) (by kernel_rfl) rfl ?_
            go_wp2_with fail
            refine mid_intro ((((((bq22.setCell (p := ⟨q17.heap.size, 0, none⟩) sb19 _).setCell (p := ⟨q17.heap.size, 1, none⟩) sb19 _).setCell (p := ⟨q17.heap.size, 2, none⟩) sb19 _).setCell (p := ⟨q0.heap.size, 0, none⟩) sb20 _).setCell (p := ⟨q0.heap.size, 1, none⟩) sb20 _).setCell (p := ⟨q0.heap.size, 2, none⟩) sb20 _) ?_
            refine gC_one (i := 25) (by kernel_rfl) rfl ?_
            go_wp2_with fail
            refine mid_intro (((((((((bq22.setCell (p := ⟨q17.heap.size, 0, none⟩) sb19 _).setCell (p := ⟨q17.heap.size, 1, none⟩) sb19 _).setCell (p := ⟨q17.heap.size, 2, none⟩) sb19 _).setCell (p := ⟨q0.heap.size, 0, none⟩) sb20 _).setCell (p := ⟨q0.heap.size, 1, none⟩) sb20 _).setCell (p := ⟨q0.heap.size, 2, none⟩) sb20 _).setCell (p := ⟨q21.heap.size, 0, none⟩) sb21 _).setCell (p := ⟨q21.heap.size, 1, none⟩) sb21 _).setCell (p := ⟨q21.heap.size, 2, none⟩) sb21 _) ?_
            refine gC_end [26] (lB := [_]) (by simp) (by kernel_rfl) (by kernel_rfl) rfl ?_
            go_wp2_with fail
            go_meet
            exact ⟨q17.heap.size, q0.heap.size, q21.heap.size, q18.heap.size, rfl, rfl, rfl, rfl, ((((((((((((Z19q22.set_ 0 _).set_ 1 _).set_ 2 _).far (p := ⟨q0.heap.size, 0, none⟩) n1920 _).far (p := ⟨q0.heap.size, 1, none⟩) n1920 _).far (p := ⟨q0.heap.size, 2, none⟩) n1920 _).far (p := ⟨q21.heap.size, 0, none⟩) n1921 _).far (p := ⟨q21.heap.size, 1, none⟩) n1921 _).far (p := ⟨q21.heap.size, 2, none⟩) n1921 _).far (p := ⟨q18.heap.size, 0, none⟩) n1922 _).far (p := ⟨q18.heap.size, 1, none⟩) n1922 _).far (p := ⟨q18.heap.size, 2, none⟩) n1922 _), ((((((((((((Z20q22.far (p := ⟨q17.heap.size, 0, none⟩) n2019 _).far (p := ⟨q17.heap.size, 1, none⟩) n2019 _).far (p := ⟨q17.heap.size, 2, none⟩) n2019 _).set_ 0 _).set_ 1 _).set_ 2 _).far (p := ⟨q21.heap.size, 0, none⟩) n2021 _).far (p := ⟨q21.heap.size, 1, none⟩) n2021 _).far (p := ⟨q21.heap.size, 2, none⟩) n2021 _).far (p := ⟨q18.heap.size, 0, none⟩) n2022 _).far (p := ⟨q18.heap.size, 1, none⟩) n2022 _).far (p := ⟨q18.heap.size, 2, none⟩) n2022 _), ((((((((((((zq22.far (p := ⟨q17.heap.size, 0, none⟩) n2119 _).far (p := ⟨q17.heap.size, 1, none⟩) n2119 _).far (p := ⟨q17.heap.size, 2, none⟩) n2119 _).far (p := ⟨q0.heap.size, 0, none⟩) n2120 _).far (p := ⟨q0.heap.size, 1, none⟩) n2120 _).far (p := ⟨q0.heap.size, 2, none⟩) n2120 _).set_ 0 _).set_ 1 _).set_ 2 _).far (p := ⟨q18.heap.size, 0, none⟩) n2122 _).far (p := ⟨q18.heap.size, 1, none⟩) n2122 _).far (p := ⟨q18.heap.size, 2, none⟩) n2122 _), ((((((((((((Z22q22.far (p := ⟨q17.heap.size, 0, none⟩) n2219 _).far (p := ⟨q17.heap.size, 1, none⟩) n2219 _).far (p := ⟨q17.heap.size, 2, none⟩) n2219 _).far (p := ⟨q0.heap.size, 0, none⟩) n2220 _).far (p := ⟨q0.heap.size, 1, none⟩) n2220 _).far (p := ⟨q0.heap.size, 2, none⟩) n2220 _).far (p := ⟨q21.heap.size, 0, none⟩) n2221 _).far (p := ⟨q21.heap.size, 1, none⟩) n2221 _).far (p := ⟨q21.heap.size, 2, none⟩) n2221 _).set_ 0 _).set_ 1 _).set_ 2 _), ((((((((((((bq22.setCell (p := ⟨q17.heap.size, 0, none⟩) sb19 _).setCell (p := ⟨q17.heap.size, 1, none⟩) sb19 _).setCell (p := ⟨q17.heap.size, 2, none⟩) sb19 _).setCell (p := ⟨q0.heap.size, 0, none⟩) sb20 _).setCell (p := ⟨q0.heap.size, 1, none⟩) sb20 _).setCell (p := ⟨q0.heap.size, 2, none⟩) sb20 _).setCell (p := ⟨q21.heap.size, 0, none⟩) sb21 _).setCell (p := ⟨q21.heap.size, 1, none⟩) sb21 _).setCell (p := ⟨q21.heap.size, 2, none⟩) sb21 _).setCell (p := ⟨q18.heap.size, 0, none⟩) sb22 _).setCell (p := ⟨q18.heap.size, 1, none⟩) sb22 _).setCell (p := ⟨q18.heap.size, 2, none⟩) sb22 _)⟩
      · go_wp2_with fail
        refine name_midw ?_
        intro q23 hn
        have hbq23 : Below q17.heap.size q17 q23 := by rw [hn]; exact (Below.refl _ _).alloc (Nat.le_refl _) _
        have zq23 : Blk q23 q17.heap.size #[.int .i64 0, .int .i64 0, .slice none 0 0] := by rw [hn]; exact Blk.new_ _ 27 _ rfl
        have seq23 : q17.heap.size < q23.heap.size := by rw [hn]; simp
        clear hn
        have Z20q23 := zq17.keep hbq23
        have bq23 : Below wx.heap.size wx q23 := bq17.trans (hbq23.mono bq17.size)
        have lq23 := hbq23.size
        refine mid_intro bq23 ?_
        refine gC_two (i := 19) (j := 22) (by kernel_rfl) rfl rfl ?_ ?_
        · go_wp2_with fail
          refine name_midw ?_
          intro q24 hn
          have hbq24 : Below q23.heap.size q23 q24 := by rw [hn]; exact (Below.refl _ _).alloc (Nat.le_refl _) _
          have zq24 : Blk q24 q23.heap.size #[.int .i64 0, .int .i64 0, .slice none 0 0] := by rw [hn]; exact Blk.new_ _ 27 _ rfl
          have seq24 : q23.heap.size < q24.heap.size := by rw [hn]; simp
          clear hn
          have Z20q24 := Z20q23.keep hbq24
          have Z21q24 := zq23.keep hbq24
          have bq24 : Below wx.heap.size wx q24 := bq23.trans (hbq24.mono bq23.size)
          have lq24 := hbq24.size
          refine mid_intro bq24 ?_
          refine gC_one (i := 22) (by kernel_rfl) rfl ?_
          · go_wp2_with fail
            refine name_midw ?_
            intro q25 hn
            have hbq25 : Below q24.heap.size q24 q25 := by rw [hn]; exact (Below.refl _ _).alloc (Nat.le_refl _) _
            have zq25 : Blk q25 q24.heap.size #[.int .i64 0, .int .i64 0, .slice none 0 0] := by rw [hn]; exact Blk.new_ _ 27 _ rfl
            have seq25 : q24.heap.size < q25.heap.size := by rw [hn]; simp
            clear hn
            have Z20q25 := Z20q24.keep hbq25
            have Z21q25 := Z21q24.keep hbq25
            have Z19q25 := zq24.keep hbq25
            have bq25 : Below wx.heap.size wx q25 := bq24.trans (hbq25.mono bq24.size)
            have lq25 := hbq25.size
            refine mid_intro bq25 ?_
            obtain ⟨d190, d191, d192⟩ := Z19q25.three
            have e190 := Z19q25.frozen 0
            have e191 := Z19q25.frozen 1
            have e192 := Z19q25.frozen 2
            have sb19 : wx.heap.size ≤ q23.heap.size := by first | exact bq0.size | exact bq23.size
            obtain ⟨d200, d201, d202⟩ := Z20q25.three
            have e200 := Z20q25.frozen 0
            have e201 := Z20q25.frozen 1
            have e202 := Z20q25.frozen 2
            have sb20 : wx.heap.size ≤ q0.heap.size := by first | exact bq0.size | exact bq0.size
            obtain ⟨d210, d211, d212⟩ := Z21q25.three
            have e210 := Z21q25.frozen 0
            have e211 := Z21q25.frozen 1
            have e212 := Z21q25.frozen 2
            have sb21 : wx.heap.size ≤ q17.heap.size := by first | exact bq0.size | exact bq17.size
            obtain ⟨d220, d221, d222⟩ := zq25.three
            have e220 := zq25.frozen 0
            have e221 := zq25.frozen 1
            have e222 := zq25.frozen 2
            have sb22 : wx.heap.size ≤ q24.heap.size := by first | exact bq0.size | exact bq24.size
            have n1920 : q23.heap.size ≠ q0.heap.size := by omega
            have n1921 : q23.heap.size ≠ q17.heap.size := by omega
            have n1922 : q23.heap.size ≠ q24.heap.size := by omega
            have n2019 : q0.heap.size ≠ q23.heap.size := by omega
            have n2021 : q0.heap.size ≠ q17.heap.size := by omega
            have n2022 : q0.heap.size ≠ q24.heap.size := by omega
            have n2119 : q17.heap.size ≠ q23.heap.size := by omega
            have n2120 : q17.heap.size ≠ q0.heap.size := by omega
            have n2122 : q17.heap.size ≠ q24.heap.size := by omega
            have n2219 : q24.heap.size ≠ q23.heap.size := by omega
            have n2220 : q24.heap.size ≠ q0.heap.size := by omega
            have n2221 : q24.heap.size ≠ q17.heap.size := by omega
            refine gC_one (i := 23) (by kernel_rfl) rfl ?_
            go_wp2_with fail
            refine mid_intro (((bq25.setCell (p := ⟨q23.heap.size, 0, none⟩) sb19 _).setCell (p := ⟨q23.heap.size, 1, none⟩) sb19 _).setCell (p := ⟨q23.heap.size, 2, none⟩) sb19 _) ?_
            refine gC_one (i := 24) (by kernel_rfl) rfl ?_
            go_wp2_with fail
            refine mid_intro ((((((bq25.setCell (p := ⟨q23.heap.size, 0, none⟩) sb19 _).setCell (p := ⟨q23.heap.size, 1, none⟩) sb19 _).setCell (p := ⟨q23.heap.size, 2, none⟩) sb19 _).setCell (p := ⟨q0.heap.size, 0, none⟩) sb20 _).setCell (p := ⟨q0.heap.size, 1, none⟩) sb20 _).setCell (p := ⟨q0.heap.size, 2, none⟩) sb20 _) ?_
            refine gC_one (i := 25) (by kernel_rfl) rfl ?_
            go_wp2_with fail
            refine mid_intro (((((((((bq25.setCell (p := ⟨q23.heap.size, 0, none⟩) sb19 _).setCell (p := ⟨q23.heap.size, 1, none⟩) sb19 _).setCell (p := ⟨q23.heap.size, 2, none⟩) sb19 _).setCell (p := ⟨q0.heap.size, 0, none⟩) sb20 _).setCell (p := ⟨q0.heap.size, 1, none⟩) sb20 _).setCell (p := ⟨q0.heap.size, 2, none⟩) sb20 _).setCell (p := ⟨q17.heap.size, 0, none⟩) sb21 _).setCell (p := ⟨q17.heap.size, 1, none⟩) sb21 _).setCell (p := ⟨q17.heap.size, 2, none⟩) sb21 _) ?_
            refine gC_end [26] (lB := [_]) (by simp) (by kernel_rfl) (by kernel_rfl) rfl ?_
            go_wp2_with fail
            go_meet
            exact ⟨q23.heap.size, q0.heap.size, q17.heap.size, q24.heap.size, rfl, rfl, rfl, rfl, ((((((((((((Z19q25.set_ 0 _).set_ 1 _).set_ 2 _).far (p := ⟨q0.heap.size, 0, none⟩) n1920 _).far (p := ⟨q0.heap.size, 1, none⟩) n1920 _).far (p := ⟨q0.heap.size, 2, none⟩) n1920 _).far (p := ⟨q17.heap.size, 0, none⟩) n1921 _).far (p := ⟨q17.heap.size, 1, none⟩) n1921 _).far (p := ⟨q17.heap.size, 2, none⟩) n1921 _).far (p := ⟨q24.heap.size, 0, none⟩) n1922 _).far (p := ⟨q24.heap.size, 1, none⟩) n1922 _).far (p := ⟨q24.heap.size, 2, none⟩) n1922 _), ((((((((((((Z20q25.far (p := ⟨q23.heap.size, 0, none⟩) n2019 _).far (p := ⟨q23.heap.size, 1, none⟩) n2019 _).far (p := ⟨q23.heap.size, 2, none⟩) n2019 _).set_ 0 _).set_ 1 _).set_ 2 _).far (p := ⟨q17.heap.size, 0, none⟩) n2021 _).far (p := ⟨q17.heap.size, 1, none⟩) n2021 _).far (p := ⟨q17.heap.size, 2, none⟩) n2021 _).far (p := ⟨q24.heap.size, 0, none⟩) n2022 _).far (p := ⟨q24.heap.size, 1, none⟩) n2022 _).far (p := ⟨q24.heap.size, 2, none⟩) n2022 _), ((((((((((((Z21q25.far (p := ⟨q23.heap.size, 0, none⟩) n2119 _).far (p := ⟨q23.heap.size, 1, none⟩) n2119 _).far (p := ⟨q23.heap.size, 2, none⟩) n2119 _).far (p := ⟨q0.heap.size, 0, none⟩) n2120 _).far (p := ⟨q0.heap.size, 1, none⟩) n2120 _).far (p := ⟨q0.heap.size, 2, none⟩) n2120 _).set_ 0 _).set_ 1 _).set_ 2 _).far (p := ⟨q24.heap.size, 0, none⟩) n2122 _).far (p := ⟨q24.heap.size, 1, none⟩) n2122 _).far (p := ⟨q24.heap.size, 2, none⟩) n2122 _), ((((((((((((zq25.far (p := ⟨q23.heap.size, 0, none⟩) n2219 _).far (p := ⟨q23.heap.size, 1, none⟩) n2219 _).far (p := ⟨q23.heap.size, 2, none⟩) n2219 _).far (p := ⟨q0.heap.size, 0, none⟩) n2220 _).far (p := ⟨q0.heap.size, 1, none⟩) n2220 _).far (p := ⟨q0.heap.size, 2, none⟩) n2220 _).far (p := ⟨q17.heap.size, 0, none⟩) n2221 _).far (p := ⟨q17.heap.size, 1, none⟩) n2221 _).far (p := ⟨q17.heap.size, 2, none⟩) n2221 _).set_ 0 _).set_ 1 _).set_ 2 _), ((((((((((((bq25.setCell (p := ⟨q23.heap.size, 0, none⟩) sb19 _).setCell (p := ⟨q23.heap.size, 1, none⟩) sb19 _).setCell (p := ⟨q23.heap.size, 2, none⟩) sb19 _).setCell (p := ⟨q0.heap.size, 0, none⟩) sb20 _).setCell (p := ⟨q0.heap.size, 1, none⟩) sb20 _).setCell (p := ⟨q0.heap.size, 2, none⟩) sb20 _).setCell (p := ⟨q17.heap.size, 0, none⟩) sb21 _).setCell (p := ⟨q17.heap.size, 1, none⟩) sb21 _).setCell (p := ⟨q17.heap.size, 2, none⟩) sb21 _).setCell (p := ⟨q24.heap.size, 0, none⟩) sb22 _).setCell (p := ⟨q24.heap.size, 1, none⟩) sb22 _).setCell (p := ⟨q24.heap.size, 2, none⟩) sb22 _)⟩
        · go_wp2_with fail
          refine name_midw ?_
          intro q26 hn
          have hbq26 : Below q23.heap.size q23 q26 := by rw [hn]; exact (Below.refl _ _).alloc (Nat.le_refl _) _
          have zq26 : Blk q26 q23.heap.size #[.int .i64 0, .int .i64 0, .slice none 0 0] := by rw [hn]; exact Blk.new_ _ 27 _ rfl
          have seq26 : q23.heap.size < q26.heap.size := by rw [hn]; simp
          clear hn
          have Z20q26 := Z20q23.keep hbq26
          have Z21q26 := zq23.keep hbq26
          have bq26 : Below wx.heap.size wx q26 := bq23.trans (hbq26.mono bq23.size)
          have lq26 := hbq26.size
          refine mid_intro bq26 ?_
          refine gC_one (i := 19) (by kernel_rfl) rfl ?_
          · go_wp2_with fail
            refine name_midw ?_
            intro q27 hn
            have hbq27 : Below q26.heap.size q26 q27 := by rw [hn]; exact (Below.refl _ _).alloc (Nat.le_refl _) _
            have zq27 : Blk q27 q26.heap.size #[.int .i64 0, .int .i64 0, .slice none 0 0] := by rw [hn]; exact Blk.new_ _ 27 _ rfl
            have seq27 : q26.heap.size < q27.heap.size := by rw [hn]; simp
            clear hn
            have Z20q27 := Z20q26.keep hbq27
            have Z21q27 := Z21q26.keep hbq27
            have Z22q27 := zq26.keep hbq27
            have bq27 : Below wx.heap.size wx q27 := bq26.trans (hbq27.mono bq26.size)
            have lq27 := hbq27.size
            refine mid_intro bq27 ?_
            obtain ⟨d190, d191, d192⟩ := zq27.three
            have e190 := zq27.frozen 0
            have e191 := zq27.frozen 1
            have e192 := zq27.frozen 2
            have sb19 : wx.heap.size ≤ q26.heap.size := by first | exact bq0.size | exact bq26.size
            obtain ⟨d200, d201, d202⟩ := Z20q27.three
            have e200 := Z20q27.frozen 0
            have e201 := Z20q27.frozen 1
            have e202 := Z20q27.frozen 2
            have sb20 : wx.heap.size ≤ q0.heap.size := by first | exact bq0.size | exact bq0.size
            obtain ⟨d210, d211, d212⟩ := Z21q27.three
            have e210 := Z21q27.frozen 0
            have e211 := Z21q27.frozen 1
            have e212 := Z21q27.frozen 2
            have sb21 : wx.heap.size ≤ q17.heap.size := by first | exact bq0.size | exact bq17.size
            obtain ⟨d220, d221, d222⟩ := Z22q27.three
            have e220 := Z22q27.frozen 0
            have e221 := Z22q27.frozen 1
            have e222 := Z22q27.frozen 2
            have sb22 : wx.heap.size ≤ q23.heap.size := by first | exact bq0.size | exact bq23.size
            have n1920 : q26.heap.size ≠ q0.heap.size := by omega
            have n1921 : q26.heap.size ≠ q17.heap.size := by omega
            have n1922 : q26.heap.size ≠ q23.heap.size := by omega
            have n2019 : q0.heap.size ≠ q26.heap.size := by omega
            have n2021 : q0.heap.size ≠ q17.heap.size := by omega
            have n2022 : q0.heap.size ≠ q23.heap.size := by omega
            have n2119 : q17.heap.size ≠ q26.heap.size := by omega
            have n2120 : q17.heap.size ≠ q0.heap.size := by omega
            have n2122 : q17.heap.size ≠ q23.heap.size := by omega
            have n2219 : q23.heap.size ≠ q26.heap.size := by omega
            have n2220 : q23.heap.size ≠ q0.heap.size := by omega
            have n2221 : q23.heap.size ≠ q17.heap.size := by omega
            refine gC_one (i := 23) (by kernel_rfl) rfl ?_
            go_wp2_with fail
            refine mid_intro (((bq27.setCell (p := ⟨q26.heap.size, 0, none⟩) sb19 _).setCell (p := ⟨q26.heap.size, 1, none⟩) sb19 _).setCell (p := ⟨q26.heap.size, 2, none⟩) sb19 _) ?_
            refine gC_one (i := 24) (by kernel_rfl) rfl ?_
            go_wp2_with fail
            refine mid_intro ((((((bq27.setCell (p := ⟨q26.heap.size, 0, none⟩) sb19 _).setCell (p := ⟨q26.heap.size, 1, none⟩) sb19 _).setCell (p := ⟨q26.heap.size, 2, none⟩) sb19 _).setCell (p := ⟨q0.heap.size, 0, none⟩) sb20 _).setCell (p := ⟨q0.heap.size, 1, none⟩) sb20 _).setCell (p := ⟨q0.heap.size, 2, none⟩) sb20 _) ?_
            refine gC_one (i := 25) (by kernel_rfl) rfl ?_
            go_wp2_with fail
            refine mid_intro (((((((((bq27.setCell (p := ⟨q26.heap.size, 0, none⟩) sb19 _).setCell (p := ⟨q26.heap.size, 1, none⟩) sb19 _).setCell (p := ⟨q26.heap.size, 2, none⟩) sb19 _).setCell (p := ⟨q0.heap.size, 0, none⟩) sb20 _).setCell (p := ⟨q0.heap.size, 1, none⟩) sb20 _).setCell (p := ⟨q0.heap.size, 2, none⟩) sb20 _).setCell (p := ⟨q17.heap.size, 0, none⟩) sb21 _).setCell (p := ⟨q17.heap.size, 1, none⟩) sb21 _).setCell (p := ⟨q17.heap.size, 2, none⟩) sb21 _) ?_
            refine gC_end [26] (lB := [_]) (by simp) (by kernel_rfl) (by kernel_rfl) rfl ?_
            go_wp2_with fail
            go_meet
            exact ⟨q26.heap.size, q0.heap.size, q17.heap.size, q23.heap.size, rfl, rfl, rfl, rfl, ((((((((((((zq27.set_ 0 _).set_ 1 _).set_ 2 _).far (p := ⟨q0.heap.size, 0, none⟩) n1920 _).far (p := ⟨q0.heap.size, 1, none⟩) n1920 _).far (p := ⟨q0.heap.size, 2, none⟩) n1920 _).far (p := ⟨q17.heap.size, 0, none⟩) n1921 _).far (p := ⟨q17.heap.size, 1, none⟩) n1921 _).far (p := ⟨q17.heap.size, 2, none⟩) n1921 _).far (p := ⟨q23.heap.size, 0, none⟩) n1922 _).far (p := ⟨q23.heap.size, 1, none⟩) n1922 _).far (p := ⟨q23.heap.size, 2, none⟩) n1922 _), ((((((((((((Z20q27.far (p := ⟨q26.heap.size, 0, none⟩) n2019 _).far (p := ⟨q26.heap.size, 1, none⟩) n2019 _).far (p := ⟨q26.heap.size, 2, none⟩) n2019 _).set_ 0 _).set_ 1 _).set_ 2 _).far (p := ⟨q17.heap.size, 0, none⟩) n2021 _).far (p := ⟨q17.heap.size, 1, none⟩) n2021 _).far (p := ⟨q17.heap.size, 2, none⟩) n2021 _).far (p := ⟨q23.heap.size, 0, none⟩) n2022 _).far (p := ⟨q23.heap.size, 1, none⟩) n2022 _).far (p := ⟨q23.heap.size, 2, none⟩) n2022 _), ((((((((((((Z21q27.far (p := ⟨q26.heap.size, 0, none⟩) n2119 _).far (p := ⟨q26.heap.size, 1, none⟩) n2119 _).far (p := ⟨q26.heap.size, 2, none⟩) n2119 _).far (p := ⟨q0.heap.size, 0, none⟩) n2120 _).far (p := ⟨q0.heap.size, 1, none⟩) n2120 _).far (p := ⟨q0.heap.size, 2, none⟩) n2120 _).set_ 0 _).set_ 1 _).set_ 2 _).far (p := ⟨q23.heap.size, 0, none⟩) n2122 _).far (p := ⟨q23.heap.size, 1, none⟩) n2122 _).far (p := ⟨q23.heap.size, 2, none⟩) n2122 _), ((((((((((((Z22q27.far (p := ⟨q26.heap.size, 0, none⟩) n2219 _).far (p := ⟨q26.heap.size, 1, none⟩) n2219 _).far (p := ⟨q26.heap.size, 2, none⟩) n2219 _).far (p := ⟨q0.heap.size, 0, none⟩) n2220 _).far (p := ⟨q0.heap.size, 1, none⟩) n2220 _).far (p := ⟨q0.heap.size, 2, none⟩) n2220 _).far (p := ⟨q17.heap.size, 0, none⟩) n2221 _).far (p := ⟨q17.heap.size, 1, none⟩) n2221 _).far (p := ⟨q17.heap.size, 2, none⟩) n2221 _).set_ 0 _).set_ 1 _).set_ 2 _), ((((((((((((bq27.setCell (p := ⟨q26.heap.size, 0, none⟩) sb19 _).setCell (p := ⟨q26.heap.size, 1, none⟩) sb19 _).setCell (p := ⟨q26.heap.size, 2, none⟩) sb19 _).setCell (p := ⟨q0.heap.size, 0, none⟩) sb20 _).setCell (p := ⟨q0.heap.size, 1, none⟩) sb20 _).setCell (p := ⟨q0.heap.size, 2, none⟩) sb20 _).setCell (p := ⟨q17.heap.size, 0, none⟩) sb21 _).setCell (p := ⟨q17.heap.size, 1, none⟩) sb21 _).setCell (p := ⟨q17.heap.size, 2, none⟩) sb21 _).setCell (p := ⟨q23.heap.size, 0, none⟩) sb22 _).setCell (p := ⟨q23.heap.size, 1, none⟩) sb22 _).setCell (p := ⟨q23.heap.size, 2, none⟩) sb22 _)⟩
      · go_wp2_with fail
        refine name_midw ?_
        intro q28 hn
        have hbq28 : Below q17.heap.size q17 q28 := by rw [hn]; exact (Below.refl _ _).alloc (Nat.le_refl _) _
        have zq28 : Blk q28 q17.heap.size #[.int .i64 0, .int .i64 0, .slice none 0 0] := by rw [hn]; exact Blk.new_ _ 27 _ rfl
        have seq28 : q17.heap.size < q28.heap.size := by rw [hn]; simp
        clear hn
        have Z20q28 := zq17.keep hbq28
        have bq28 : Below wx.heap.size wx q28 := bq17.trans (hbq28.mono bq17.size)
        have lq28 := hbq28.size
        refine mid_intro bq28 ?_
        refine gC_two (i := 19) (j := 21) (by kernel_rfl) rfl rfl ?_ ?_
        · go_wp2_with fail
          refine name_midw ?_
          intro q29 hn
          have hbq29 : Below q28.heap.size q28 q29 := by rw [hn]; exact (Below.refl _ _).alloc (Nat.le_refl _) _
          have zq29 : Blk q29 q28.heap.size #[.int .i64 0, .int .i64 0, .slice none 0 0] := by rw [hn]; exact Blk.new_ _ 27 _ rfl
          have seq29 : q28.heap.size < q29.heap.size := by rw [hn]; simp
          clear hn
          have Z20q29 := Z20q28.keep hbq29
          have Z22q29 := zq28.keep hbq29
          have bq29 : Below wx.heap.size wx q29 := bq28.trans (hbq29.mono bq28.size)
          have lq29 := hbq29.size
          refine mid_intro bq29 ?_
          refine gC_one (i := 21) (by kernel_rfl) rfl ?_
          · go_wp2_with fail
            refine name_midw ?_
            intro q30 hn
            have hbq30 : Below q29.heap.size q29 q30 := by rw [hn]; exact (Below.refl _ _).alloc (Nat.le_refl _) _
            have zq30 : Blk q30 q29.heap.size #[.int .i64 0, .int .i64 0, .slice none 0 0] := by rw [hn]; exact Blk.new_ _ 27 _ rfl
            have seq30 : q29.heap.size < q30.heap.size := by rw [hn]; simp
            clear hn
            have Z20q30 := Z20q29.keep hbq30
            have Z22q30 := Z22q29.keep hbq30
            have Z19q30 := zq29.keep hbq30
            have bq30 : Below wx.heap.size wx q30 := bq29.trans (hbq30.mono bq29.size)
            have lq30 := hbq30.size
            refine mid_intro bq30 ?_
            obtain ⟨d190, d191, d192⟩ := Z19q30.three
            have e190 := Z19q30.frozen 0
            have e191 := Z19q30.frozen 1
            have e192 := Z19q30.frozen 2
            have sb19 : wx.heap.size ≤ q28.heap.size := by first | exact bq0.size | exact bq28.size
            obtain ⟨d200, d201, d202⟩ := Z20q30.three
            have e200 := Z20q30.frozen 0
            have e201 := Z20q30.frozen 1
            have e202 := Z20q30.frozen 2
            have sb20 : wx.heap.size ≤ q0.heap.size := by first | exact bq0.size | exact bq0.size
            obtain ⟨d210, d211, d212⟩ := zq30.three
            have e210 := zq30.frozen 0
            have e211 := zq30.frozen 1
            have e212 := zq30.frozen 2
            have sb21 : wx.heap.size ≤ q29.heap.size := by first | exact bq0.size | exact bq29.size
            obtain ⟨d220, d221, d222⟩ := Z22q30.three
            have e220 := Z22q30.frozen 0
            have e221 := Z22q30.frozen 1
            have e222 := Z22q30.frozen 2
            have sb22 : wx.heap.size ≤ q17.heap.size := by first | exact bq0.size | exact bq17.size
            have n1920 : q28.heap.size ≠ q0.heap.size := by omega
            have n1921 : q28.heap.size ≠ q29.heap.size := by omega
            have n1922 : q28.heap.size ≠ q17.heap.size := by omega
            have n2019 : q0.heap.size ≠ q28.heap.size := by omega
            have n2021 : q0.heap.size ≠ q29.heap.size := by omega
            have n2022 : q0.heap.size ≠ q17.heap.size := by omega
            have n2119 : q29.heap.size ≠ q28.heap.size := by omega
            have n2120 : q29.heap.size ≠ q0.heap.size := by omega
            have n2122 : q29.heap.size ≠ q17.heap.size := by omega
            have n2219 : q17.heap.size ≠ q28.heap.size := by omega
            have n2220 : q17.heap.size ≠ q0.heap.size := by omega
            have n2221 : q17.heap.size ≠ q29.heap.size := by omega
            refine gC_one (i := 23) (by kernel_rfl) rfl ?_
            go_wp2_with fail
            refine mid_intro (((bq30.setCell (p := ⟨q28.heap.size, 0, none⟩) sb19 _).setCell (p := ⟨q28.heap.size, 1, none⟩) sb19 _).setCell (p := ⟨q28.heap.size, 2, none⟩) sb19 _) ?_
            refine gC_one (i := 24) (by kernel_rfl) rfl ?_
            go_wp2_with fail
            refine mid_intro ((((((bq30.setCell (p := ⟨q28.heap.size, 0, none⟩) sb19 _).setCell (p := ⟨q28.heap.size, 1, none⟩) sb19 _).setCell (p := ⟨q28.heap.size, 2, none⟩) sb19 _).setCell (p := ⟨q0.heap.size, 0, none⟩) sb20 _).setCell (p := ⟨q0.heap.size, 1, none⟩) sb20 _).setCell (p := ⟨q0.heap.size, 2, none⟩) sb20 _) ?_
            refine gC_one (i := 25) (by kernel_rfl) rfl ?_
            go_wp2_with fail
            refine mid_intro (((((((((bq30.setCell (p := ⟨q28.heap.size, 0, none⟩) sb19 _).setCell (p := ⟨q28.heap.size, 1, none⟩) sb19 _).setCell (p := ⟨q28.heap.size, 2, none⟩) sb19 _).setCell (p := ⟨q0.heap.size, 0, none⟩) sb20 _).setCell (p := ⟨q0.heap.size, 1, none⟩) sb20 _).setCell (p := ⟨q0.heap.size, 2, none⟩) sb20 _).setCell (p := ⟨q29.heap.size, 0, none⟩) sb21 _).setCell (p := ⟨q29.heap.size, 1, none⟩) sb21 _).setCell (p := ⟨q29.heap.size, 2, none⟩) sb21 _) ?_
            refine gC_end [26] (lB := [_]) (by simp) (by kernel_rfl) (by kernel_rfl) rfl ?_
            go_wp2_with fail
            go_meet
            exact ⟨q28.heap.size, q0.heap.size, q29.heap.size, q17.heap.size, rfl, rfl, rfl, rfl, ((((((((((((Z19q30.set_ 0 _).set_ 1 _).set_ 2 _).far (p := ⟨q0.heap.size, 0, none⟩) n1920 _).far (p := ⟨q0.heap.size, 1, none⟩) n1920 _).far (p := ⟨q0.heap.size, 2, none⟩) n1920 _).far (p := ⟨q29.heap.size, 0, none⟩) n1921 _).far (p := ⟨q29.heap.size, 1, none⟩) n1921 _).far (p := ⟨q29.heap.size, 2, none⟩) n1921 _).far (p := ⟨q17.heap.size, 0, none⟩) n1922 _).far (p := ⟨q17.heap.size, 1, none⟩) n1922 _).far (p := ⟨q17.heap.size, 2, none⟩) n1922 _), ((((((((((((Z20q30.far (p := ⟨q28.heap.size, 0, none⟩) n2019 _).far (p := ⟨q28.heap.size, 1, none⟩) n2019 _).far (p := ⟨q28.heap.size, 2, none⟩) n2019 _).set_ 0 _).set_ 1 _).set_ 2 _).far (p := ⟨q29.heap.size, 0, none⟩) n2021 _).far (p := ⟨q29.heap.size, 1, none⟩) n2021 _).far (p := ⟨q29.heap.size, 2, none⟩) n2021 _).far (p := ⟨q17.heap.size, 0, none⟩) n2022 _).far (p := ⟨q17.heap.size, 1, none⟩) n2022 _).far (p := ⟨q17.heap.size, 2, none⟩) n2022 _), ((((((((((((zq30.far (p := ⟨q28.heap.size, 0, none⟩) n2119 _).far (p := ⟨q28.heap.size, 1, none⟩) n2119 _).far (p := ⟨q28.heap.size, 2, none⟩) n2119 _).far (p := ⟨q0.heap.size, 0, none⟩) n2120 _).far (p := ⟨q0.heap.size, 1, none⟩) n2120 _).far (p := ⟨q0.heap.size, 2, none⟩) n2120 _).set_ 0 _).set_ 1 _).set_ 2 _).far (p := ⟨q17.heap.size, 0, none⟩) n2122 _).far (p := ⟨q17.heap.size, 1, none⟩) n2122 _).far (p := ⟨q17.heap.size, 2, none⟩) n2122 _), ((((((((((((Z22q30.far (p := ⟨q28.heap.size, 0, none⟩) n2219 _).far (p := ⟨q28.heap.size, 1, none⟩) n2219 _).far (p := ⟨q28.heap.size, 2, none⟩) n2219 _).far (p := ⟨q0.heap.size, 0, none⟩) n2220 _).far (p := ⟨q0.heap.size, 1, none⟩) n2220 _).far (p := ⟨q0.heap.size, 2, none⟩) n2220 _).far (p := ⟨q29.heap.size, 0, none⟩) n2221 _).far (p := ⟨q29.heap.size, 1, none⟩) n2221 _).far (p := ⟨q29.heap.size, 2, none⟩) n2221 _).set_ 0 _).set_ 1 _).set_ 2 _), ((((((((((((bq30.setCell (p := ⟨q28.heap.size, 0, none⟩) sb19 _).setCell (p := ⟨q28.heap.size, 1, none⟩) sb19 _).setCell (p := ⟨q28.heap.size, 2, none⟩) sb19 _).setCell (p := ⟨q0.heap.size, 0, none⟩) sb20 _).setCell (p := ⟨q0.heap.size, 1, none⟩) sb20 _).setCell (p := ⟨q0.heap.size, 2, none⟩) sb20 _).setCell (p := ⟨q29.heap.size, 0, none⟩) sb21 _).setCell (p := ⟨q29.heap.size, 1, none⟩) sb21 _).setCell (p := ⟨q29.heap.size, 2, none⟩) sb21 _).setCell (p := ⟨q17.heap.size, 0, none⟩) sb22 _).setCell (p := ⟨q17.heap.size, 1, none⟩) sb22 _).setCell (p := ⟨q17.heap.size, 2, none⟩) sb22 _)⟩
        · go_wp2_with fail
          refine name_midw ?_
          intro q31 hn
          have hbq31 : Below q28.heap.size q28 q31 := by rw [hn]; exact (Below.refl _ _).alloc (Nat.le_refl _) _
          have zq31 : Blk q31 q28.heap.size #[.int .i64 0, .int .i64 0, .slice none 0 0] := by rw [hn]; exact Blk.new_ _ 27 _ rfl
          have seq31 : q28.heap.size < q31.heap.size := by rw [hn]; simp
          clear hn
          have Z20q31 := Z20q28.keep hbq31
          have Z22q31 := zq28.keep hbq31
          have bq31 : Below wx.heap.size wx q31 := bq28.trans (hbq31.mono bq28.size)
          have lq31 := hbq31.size
          refine mid_intro bq31 ?_
          refine gC_one (i := 19) (by kernel_rfl) rfl ?_
          · go_wp2_with fail
            refine name_midw ?_
            intro q32 hn
            have hbq32 : Below q31.heap.size q31 q32 := by rw [hn]; exact (Below.refl _ _).alloc (Nat.le_refl _) _
            have zq32 : Blk q32 q31.heap.size #[.int .i64 0, .int .i64 0, .slice none 0 0] := by rw [hn]; exact Blk.new_ _ 27 _ rfl
            have seq32 : q31.heap.size < q32.heap.size := by rw [hn]; simp
            clear hn
            have Z20q32 := Z20q31.keep hbq32
            have Z22q32 := Z22q31.keep hbq32
            have Z21q32 := zq31.keep hbq32
            have bq32 : Below wx.heap.size wx q32 := bq31.trans (hbq32.mono bq31.size)
            have lq32 := hbq32.size
            refine mid_intro bq32 ?_
            obtain ⟨d190, d191, d192⟩ := zq32.three
            have e190 := zq32.frozen 0
            have e191 := zq32.frozen 1
            have e192 := zq32.frozen 2
            have sb19 : wx.heap.size ≤ q31.heap.size := by first | exact bq0.size | exact bq31.size
            obtain ⟨d200, d201, d202⟩ := Z20q32.three
            have e200 := Z20q32.frozen 0
            have e201 := Z20q32.frozen 1
            have e202 := Z20q32.frozen 2
            have sb20 : wx.heap.size ≤ q0.heap.size := by first | exact bq0.size | exact bq0.size
            obtain ⟨d210, d211, d212⟩ := Z21q32.three
            have e210 := Z21q32.frozen 0
            have e211 := Z21q32.frozen 1
            have e212 := Z21q32.frozen 2
            have sb21 : wx.heap.size ≤ q28.heap.size := by first | exact bq0.size | exact bq28.size
            obtain ⟨d220, d221, d222⟩ := Z22q32.three
            have e220 := Z22q32.frozen 0
            have e221 := Z22q32.frozen 1
            have e222 := Z22q32.frozen 2
            have sb22 : wx.heap.size ≤ q17.heap.size := by first | exact bq0.size | exact bq17.size
            have n1920 : q31.heap.size ≠ q0.heap.size := by omega
            have n1921 : q31.heap.size ≠ q28.heap.size := by omega
            have n1922 : q31.heap.size ≠ q17.heap.size := by omega
            have n2019 : q0.heap.size ≠ q31.heap.size := by omega
            have n2021 : q0.heap.size ≠ q28.heap.size := by omega
            have n2022 : q0.heap.size ≠ q17.heap.size := by omega
            have n2119 : q28.heap.size ≠ q31.heap.size := by omega
            have n2120 : q28.heap.size ≠ q0.heap.size := by omega
            have n2122 : q28.heap.size ≠ q17.heap.size := by omega
            have n2219 : q17.heap.size ≠ q31.heap.size := by omega
            have n2220 : q17.heap.size ≠ q0.heap.size := by omega
            have n2221 : q17.heap.size ≠ q28.heap.size := by omega
            refine gC_one (i := 23) (by kernel_rfl) rfl ?_
            go_wp2_with fail
            refine mid_intro (((bq32.setCell (p := ⟨q31.heap.size, 0, none⟩) sb19 _).setCell (p := ⟨q31.heap.size, 1, none⟩) sb19 _).setCell (p := ⟨q31.heap.size, 2, none⟩) sb19 _) ?_
            refine gC_one (i := 24) (by kernel_rfl) rfl ?_
            go_wp2_with fail
            refine mid_intro ((((((bq32.setCell (p := ⟨q31.heap.size, 0, none⟩) sb19 _).setCell (p := ⟨q31.heap.size, 1, none⟩) sb19 _).setCell (p := ⟨q31.heap.size, 2, none⟩) sb19 _).setCell (p := ⟨q0.heap.size, 0, none⟩) sb20 _).setCell (p := ⟨q0.heap.size, 1, none⟩) sb20 _).setCell (p := ⟨q0.heap.size, 2, none⟩) sb20 _) ?_
            refine gC_one (i := 25) (by kernel_rfl) rfl ?_
            go_wp2_with fail
            refine mid_intro (((((((((bq32.setCell (p := ⟨q31.heap.size, 0, none⟩) sb19 _).setCell (p := ⟨q31.heap.size, 1, none⟩) sb19 _).setCell (p := ⟨q31.heap.size, 2, none⟩) sb19 _).setCell (p := ⟨q0.heap.size, 0, none⟩) sb20 _).setCell (p := ⟨q0.heap.size, 1, none⟩) sb20 _).setCell (p := ⟨q0.heap.size, 2, none⟩) sb20 _).setCell (p := ⟨q28.heap.size, 0, none⟩) sb21 _).setCell (p := ⟨q28.heap.size, 1, none⟩) sb21 _).setCell (p := ⟨q28.heap.size, 2, none⟩) sb21 _) ?_
            refine gC_end [26] (lB := [_]) (by simp) (by kernel_rfl) (by kernel_rfl) rfl ?_
            go_wp2_with fail
            go_meet
            exact ⟨q31.heap.size, q0.heap.size, q28.heap.size, q17.heap.size, rfl, rfl, rfl, rfl, ((((((((((((zq32.set_ 0 _).set_ 1 _).set_ 2 _).far (p := ⟨q0.heap.size, 0, none⟩) n1920 _).far (p := ⟨q0.heap.size, 1, none⟩) n1920 _).far (p := ⟨q0.heap.size, 2, none⟩) n1920 _).far (p := ⟨q28.heap.size, 0, none⟩) n1921 _).far (p := ⟨q28.heap.size, 1, none⟩) n1921 _).far (p := ⟨q28.heap.size, 2, none⟩) n1921 _).far (p := ⟨q17.heap.size, 0, none⟩) n1922 _).far (p := ⟨q17.heap.size, 1, none⟩) n1922 _).far (p := ⟨q17.heap.size, 2, none⟩) n1922 _), ((((((((((((Z20q32.far (p := ⟨q31.heap.size, 0, none⟩) n2019 _).far (p := ⟨q31.heap.size, 1, none⟩) n2019 _).far (p := ⟨q31.heap.size, 2, none⟩) n2019 _).set_ 0 _).set_ 1 _).set_ 2 _).far (p := ⟨q28.heap.size, 0, none⟩) n2021 _).far (p := ⟨q28.heap.size, 1, none⟩) n2021 _).far (p := ⟨q28.heap.size, 2, none⟩) n2021 _).far (p := ⟨q17.heap.size, 0, none⟩) n2022 _).far (p := ⟨q17.heap.size, 1, none⟩) n2022 _).far (p := ⟨q17.heap.size, 2, none⟩) n2022 _), ((((((((((((Z21q32.far (p := ⟨q31.heap.size, 0, none⟩) n2119 _).far (p := ⟨q31.heap.size, 1, none⟩) n2119 _).far (p := ⟨q31.heap.size, 2, none⟩) n2119 _).far (p := ⟨q0.heap.size, 0, none⟩) n2120 _).far (p := ⟨q0.heap.size, 1, none⟩) n2120 _).far (p := ⟨q0.heap.size, 2, none⟩) n2120 _).set_ 0 _).set_ 1 _).set_ 2 _).far (p := ⟨q17.heap.size, 0, none⟩) n2122 _).far (p := ⟨q17.heap.size, 1, none⟩) n2122 _).far (p := ⟨q17.heap.size, 2, none⟩) n2122 _), ((((((((((((Z22q32.far (p := ⟨q31.heap.size, 0, none⟩) n2219 _).far (p := ⟨q31.heap.size, 1, none⟩) n2219 _).far (p := ⟨q31.heap.size, 2, none⟩) n2219 _).far (p := ⟨q0.heap.size, 0, none⟩) n2220 _).far (p := ⟨q0.heap.size, 1, none⟩) n2220 _).far (p := ⟨q0.heap.size, 2, none⟩) n2220 _).far (p := ⟨q28.heap.size, 0, none⟩) n2221 _).far (p := ⟨q28.heap.size, 1, none⟩) n2221 _).far (p := ⟨q28.heap.size, 2, none⟩) n2221 _).set_ 0 _).set_ 1 _).set_ 2 _), ((((((((((((bq32.setCell (p := ⟨q31.heap.size, 0, none⟩) sb19 _).setCell (p := ⟨q31.heap.size, 1, none⟩) sb19 _).setCell (p := ⟨q31.heap.size, 2, none⟩) sb19 _).setCell (p := ⟨q0.heap.size, 0, none⟩) sb20 _).setCell (p := ⟨q0.heap.size, 1, none⟩) sb20 _).setCell (p := ⟨q0.heap.size, 2, none⟩) sb20 _).setCell (p := ⟨q28.heap.size, 0, none⟩) sb21 _).setCell (p := ⟨q28.heap.size, 1, none⟩) sb21 _).setCell (p := ⟨q28.heap.size, 2, none⟩) sb21 _).setCell (p := ⟨q17.heap.size, 0, none⟩) sb22 _).setCell (p := ⟨q17.heap.size, 1, none⟩) sb22 _).setCell (p := ⟨q17.heap.size, 2, none⟩) sb22 _)⟩
    · go_wp2_with fail
      refine name_midw ?_
      intro q33 hn
      have hbq33 : Below q0.heap.size q0 q33 := by rw [hn]; exact (Below.refl _ _).alloc (Nat.le_refl _) _
      have zq33 : Blk q33 q0.heap.size #[.int .i64 0, .int .i64 0, .slice none 0 0] := by rw [hn]; exact Blk.new_ _ 27 _ rfl
      have seq33 : q0.heap.size < q33.heap.size := by rw [hn]; simp
      clear hn
      have bq33 : Below wx.heap.size wx q33 := bq0.trans (hbq33.mono bq0.size)
      have lq33 := hbq33.size
      refine mid_intro bq33 ?_
      refine gC_three (i := 19) (j := 20) (m := 22) (by kernel_rfl) rfl rfl rfl ?_ ?_ ?_
      · go_wp2_with fail
        refine name_midw ?_
        intro q34 hn
        have hbq34 : Below q33.heap.size q33 q34 := by rw [hn]; exact (Below.refl _ _).alloc (Nat.le_refl _) _
        have zq34 : Blk q34 q33.heap.size #[.int .i64 0, .int .i64 0, .slice none 0 0] := by rw [hn]; exact Blk.new_ _ 27 _ rfl
        have seq34 : q33.heap.size < q34.heap.size := by rw [hn]; simp
        clear hn
        have Z21q34 := zq33.keep hbq34
        have bq34 : Below wx.heap.size wx q34 := bq33.trans (hbq34.mono bq33.size)
        have lq34 := hbq34.size
        refine mid_intro bq34 ?_
        refine gC_two (i := 20) (j := 22) (by kernel_rfl) rfl rfl ?_ ?_
        · go_wp2_with fail
          refine name_midw ?_
          intro q35 hn
          have hbq35 : Below q34.heap.size q34 q35 := by rw [hn]; exact (Below.refl _ _).alloc (Nat.le_refl _) _
          have zq35 : Blk q35 q34.heap.size #[.int .i64 0, .int .i64 0, .slice none 0 0] := by rw [hn]; exact Blk.new_ _ 27 _ rfl
          have seq35 : q34.heap.size < q35.heap.size := by rw [hn]; simp
          clear hn
          have Z21q35 := Z21q34.keep hbq35
          have Z19q35 := zq34.keep hbq35
          have bq35 : Below wx.heap.size wx q35 := bq34.trans (hbq35.mono bq34.size)
          have lq35 := hbq35.size
          refine mid_intro bq35 ?_
          refine gC_one (i := 22) (by kernel_rfl) rfl ?_
          · go_wp2_with fail
            refine name_midw ?_
            intro q36 hn
            have hbq36 : Below q35.heap.size q35 q36 := by rw [hn]; exact (Below.refl _ _).alloc (Nat.le_refl _) _
            have zq36 : Blk q36 q35.heap.size #[.int .i64 0, .int .i64 0, .slice none 0 0] := by rw [hn]; exact Blk.new_ _ 27 _ rfl
            have seq36 : q35.heap.size < q36.heap.size := by rw [hn]; simp
            clear hn
            have Z21q36 := Z21q35.keep hbq36
            have Z19q36 := Z19q35.keep hbq36
            have Z20q36 := zq35.keep hbq36
            have bq36 : Below wx.heap.size wx q36 := bq35.trans (hbq36.mono bq35.size)
            have lq36 := hbq36.size
            refine mid_intro bq36 ?_
            obtain ⟨d190, d191, d192⟩ := Z19q36.three
            have e190 := Z19q36.frozen 0
            have e191 := Z19q36.frozen 1
            have e192 := Z19q36.frozen 2
            have sb19 : wx.heap.size ≤ q33.heap.size := by first | exact bq0.size | exact bq33.size
            obtain ⟨d200, d201, d202⟩ := Z20q36.three
            have e200 := Z20q36.frozen 0
            have e201 := Z20q36.frozen 1
            have e202 := Z20q36.frozen 2
            have sb20 : wx.heap.size ≤ q34.heap.size := by first | exact bq0.size | exact bq34.size
            obtain ⟨d210, d211, d212⟩ := Z21q36.three
            have e210 := Z21q36.frozen 0
            have e211 := Z21q36.frozen 1
            have e212 := Z21q36.frozen 2
            have sb21 : wx.heap.size ≤ q0.heap.size := by first | exact bq0.size | exact bq0.size
            obtain ⟨d220, d221, d222⟩ := zq36.three
            have e220 := zq36.frozen 0
            have e221 := zq36.frozen 1
            have e222 := zq36.frozen 2
            have sb22 : wx.heap.size ≤ q35.heap.size := by first | exact bq0.size | exact bq35.size
            have n1920 : q33.heap.size ≠ q34.heap.size := by omega
            have n1921 : q33.heap.size ≠ q0.heap.size := by omega
            have n1922 : q33.heap.size ≠ q35.heap.size := by omega
            have n2019 : q34.heap.size ≠ q33.heap.size := by omega
            have n2021 : q34.heap.size ≠ q0.heap.size := by omega
            have n2022 : q34.heap.size ≠ q35.heap.size := by omega
            have n2119 : q0.heap.size ≠ q33.heap.size := by omega
            have n2120 : q0.heap.size ≠ q34.heap.size := by omega
            have n2122 : q0.heap.size ≠ q35.heap.size := by omega
            have n2219 : q35.heap.size ≠ q33.heap.size := by omega
            have n2220 : q35.heap.size ≠ q34.heap.size := by omega
            have n2221 : q35.heap.size ≠ q0.heap.size := by omega
            refine gC_one (i := 23) (by kernel_rfl) rfl ?_
            go_wp2_with fail
            refine mid_intro (((bq36.setCell (p := ⟨q33.heap.size, 0, none⟩) sb19 _).setCell (p := ⟨q33.heap.size, 1, none⟩) sb19 _).setCell (p := ⟨q33.heap.size, 2, none⟩) sb19 _) ?_
            refine gC_one (i := 24) (by kernel_rfl) rfl ?_
            go_wp2_with fail
            refine mid_intro ((((((bq36.setCell (p := ⟨q33.heap.size, 0, none⟩) sb19 _).setCell (p := ⟨q33.heap.size, 1, none⟩) sb19 _).setCell (p := ⟨q33.heap.size, 2, none⟩) sb19 _).setCell (p := ⟨q34.heap.size, 0, none⟩) sb20 _).setCell (p := ⟨q34.heap.size, 1, none⟩) sb20 _).setCell (p := ⟨q34.heap.size, 2, none⟩) sb20 _) ?_
            refine gC_one (i := 25) (by kernel_rfl) rfl ?_
            go_wp2_with fail
            refine mid_intro (((((((((bq36.setCell (p := ⟨q33.heap.size, 0, none⟩) sb19 _).setCell (p := ⟨q33.heap.size, 1, none⟩) sb19 _).setCell (p := ⟨q33.heap.size, 2, none⟩) sb19 _).setCell (p := ⟨q34.heap.size, 0, none⟩) sb20 _).setCell (p := ⟨q34.heap.size, 1, none⟩) sb20 _).setCell (p := ⟨q34.heap.size, 2, none⟩) sb20 _).setCell (p := ⟨q0.heap.size, 0, none⟩) sb21 _).setCell (p := ⟨q0.heap.size, 1, none⟩) sb21 _).setCell (p := ⟨q0.heap.size, 2, none⟩) sb21 _) ?_
            refine gC_end [26] (lB := [_]) (by simp) (by kernel_rfl) (by kernel_rfl) rfl ?_
            go_wp2_with fail
            go_meet
            exact ⟨q33.heap.size, q34.heap.size, q0.heap.size, q35.heap.size, rfl, rfl, rfl, rfl, ((((((((((((Z19q36.set_ 0 _).set_ 1 _).set_ 2 _).far (p := ⟨q34.heap.size, 0, none⟩) n1920 _).far (p := ⟨q34.heap.size, 1, none⟩) n1920 _).far (p := ⟨q34.heap.size, 2, none⟩) n1920 _).far (p := ⟨q0.heap.size, 0, none⟩) n1921 _).far (p := ⟨q0.heap.size, 1, none⟩) n1921 _).far (p := ⟨q0.heap.size, 2, none⟩) n1921 _).far (p := ⟨q35.heap.size, 0, none⟩) n1922 _).far (p := ⟨q35.heap.size, 1, none⟩) n1922 _).far (p := ⟨q35.heap.size, 2, none⟩) n1922 _), ((((((((((((Z20q36.far (p := ⟨q33.heap.size, 0, none⟩) n2019 _).far (p := ⟨q33.heap.size, 1, none⟩) n2019 _).far (p := ⟨q33.heap.size, 2, none⟩) n2019 _).set_ 0 _).set_ 1 _).set_ 2 _).far (p := ⟨q0.heap.size, 0, none⟩) n2021 _).far (p := ⟨q0.heap.size, 1, none⟩) n2021 _).far (p := ⟨q0.heap.size, 2, none⟩) n2021 _).far (p := ⟨q35.heap.size, 0, none⟩) n2022 _).far (p := ⟨q35.heap.size, 1, none⟩) n2022 _).far (p := ⟨q35.heap.size, 2, none⟩) n2022 _), ((((((((((((Z21q36.far (p := ⟨q33.heap.size, 0, none⟩) n2119 _).far (p := ⟨q33.heap.size, 1, none⟩) n2119 _).far (p := ⟨q33.heap.size, 2, none⟩) n2119 _).far (p := ⟨q34.heap.size, 0, none⟩) n2120 _).far (p := ⟨q34.heap.size, 1, none⟩) n2120 _).far (p := ⟨q34.heap.size, 2, none⟩) n2120 _).set_ 0 _).set_ 1 _).set_ 2 _).far (p := ⟨q35.heap.size, 0, none⟩) n2122 _).far (p := ⟨q35.heap.size, 1, none⟩) n2122 _).far (p := ⟨q35.heap.size, 2, none⟩) n2122 _), ((((((((((((zq36.far (p := ⟨q33.heap.size, 0, none⟩) n2219 _).far (p := ⟨q33.heap.size, 1, none⟩) n2219 _).far (p := ⟨q33.heap.size, 2, none⟩) n2219 _).far (p := ⟨q34.heap.size, 0, none⟩) n2220 _).far (p := ⟨q34.heap.size, 1, none⟩) n2220 _).far (p := ⟨q34.heap.size, 2, none⟩) n2220 _).far (p := ⟨q0.heap.size, 0, none⟩) n2221 _).far (p := ⟨q0.heap.size, 1, none⟩) n2221 _).far (p := ⟨q0.heap.size, 2, none⟩) n2221 _).set_ 0 _).set_ 1 _).set_ 2 _), ((((((((((((bq36.setCell (p := ⟨q33.heap.size, 0, none⟩) sb19 _).setCell (p := ⟨q33.heap.size, 1, none⟩) sb19 _).setCell (p := ⟨q33.heap.size, 2, none⟩) sb19 _).setCell (p := ⟨q34.heap.size, 0, none⟩) sb20 _).setCell (p := ⟨q34.heap.size, 1, none⟩) sb20 _).setCell (p := ⟨q34.heap.size, 2, none⟩) sb20 _).setCell (p := ⟨q0.heap.size, 0, none⟩) sb21 _).setCell (p := ⟨q0.heap.size, 1, none⟩) sb21 _).setCell (p := ⟨q0.heap.size, 2, none⟩) sb21 _).setCell (p := ⟨q35.heap.size, 0, none⟩) sb22 _).setCell (p := ⟨q35.heap.size, 1, none⟩) sb22 _).setCell (p := ⟨q35.heap.size, 2, none⟩) sb22 _)⟩
        · go_wp2_with fail
          refine name_midw ?_
          intro q37 hn
          have hbq37 : Below q34.heap.size q34 q37 := by rw [hn]; exact (Below.refl _ _).alloc (Nat.le_refl _) _
          have zq37 : Blk q37 q34.heap.size #[.int .i64 0, .int .i64 0, .slice none 0 0] := by rw [hn]; exact Blk.new_ _ 27 _ rfl
          have seq37 : q34.heap.size < q37.heap.size := by rw [hn]; simp
          clear hn
          have Z21q37 := Z21q34.keep hbq37
          have Z19q37 := zq34.keep hbq37
          have bq37 : Below wx.heap.size wx q37 := bq34.trans (hbq37.mono bq34.size)
          have lq37 := hbq37.size
          refine mid_intro bq37 ?_
          refine gC_one (i := 20) (by kernel_rfl) rfl ?_
          · go_wp2_with fail
            refine name_midw ?_
            intro q38 hn
            have hbq38 : Below q37.heap.size q37 q38 := by rw [hn]; exact (Below.refl _ _).alloc (Nat.le_refl _) _
            have zq38 : Blk q38 q37.heap.size #[.int .i64 0, .int .i64 0, .slice none 0 0] := by rw [hn]; exact Blk.new_ _ 27 _ rfl
            have seq38 : q37.heap.size < q38.heap.size := by rw [hn]; simp
            clear hn
            have Z21q38 := Z21q37.keep hbq38
            have Z19q38 := Z19q37.keep hbq38
            have Z22q38 := zq37.keep hbq38
            have bq38 : Below wx.heap.size wx q38 := bq37.trans (hbq38.mono bq37.size)
            have lq38 := hbq38.size
            refine mid_intro bq38 ?_
            obtain ⟨d190, d191, d192⟩ := Z19q38.three
            have e190 := Z19q38.frozen 0
            have e191 := Z19q38.frozen 1
            have e192 := Z19q38.frozen 2
            have sb19 : wx.heap.size ≤ q33.heap.size := by first | exact bq0.size | exact bq33.size
            obtain ⟨d200, d201, d202⟩ := zq38.three
            have e200 := zq38.frozen 0
            have e201 := zq38.frozen 1
            have e202 := zq38.frozen 2
            have sb20 : wx.heap.size ≤ q37.heap.size := by first | exact bq0.size | exact bq37.size
            obtain ⟨d210, d211, d212⟩ := Z21q38.three
            have e210 := Z21q38.frozen 0
            have e211 := Z21q38.frozen 1
            have e212 := Z21q38.frozen 2
            have sb21 : wx.heap.size ≤ q0.heap.size := by first | exact bq0.size | exact bq0.size
            obtain ⟨d220, d221, d222⟩ := Z22q38.three
            have e220 := Z22q38.frozen 0
            have e221 := Z22q38.frozen 1
            have e222 := Z22q38.frozen 2
            have sb22 : wx.heap.size ≤ q34.heap.size := by first | exact bq0.size | exact bq34.size
            have n1920 : q33.heap.size ≠ q37.heap.size := by omega
            have n1921 : q33.heap.size ≠ q0.heap.size := by omega
            have n1922 : q33.heap.size ≠ q34.heap.size := by omega
            have n2019 : q37.heap.size ≠ q33.heap.size := by omega
            have n2021 : q37.heap.size ≠ q0.heap.size := by omega
            have n2022 : q37.heap.size ≠ q34.heap.size := by omega
            have n2119 : q0.heap.size ≠ q33.heap.size := by omega
            have n2120 : q0.heap.size ≠ q37.heap.size := by omega
            have n2122 : q0.heap.size ≠ q34.heap.size := by omega
            have n2219 : q34.heap.size ≠ q33.heap.size := by omega
            have n2220 : q34.heap.size ≠ q37.heap.size := by omega
            have n2221 : q34.heap.size ≠ q0.heap.size := by omega
            refine gC_one (i := 23) (by kernel_rfl) rfl ?_
            go_wp2_with fail
            refine mid_intro (((bq38.setCell (p := ⟨q33.heap.size, 0, none⟩) sb19 _).setCell (p := ⟨q33.heap.size, 1, none⟩) sb19 _).setCell (p := ⟨q33.heap.size, 2, none⟩) sb19 _) ?_
            refine gC_one (i := 24) (by kernel_rfl) rfl ?_
            go_wp2_with fail
            refine mid_intro ((((((bq38.setCell (p := ⟨q33.heap.size, 0, none⟩) sb19 _).setCell (p := ⟨q33.heap.size, 1, none⟩) sb19 _).setCell (p := ⟨q33.heap.size, 2, none⟩) sb19 _).setCell (p := ⟨q37.heap.size, 0, none⟩) sb20 _).setCell (p := ⟨q37.heap.size, 1, none⟩) sb20 _).setCell (p := ⟨q37.heap.size, 2, none⟩) sb20 _) ?_
            refine gC_one (i := 25) (by kernel_rfl) rfl ?_
            go_wp2_with fail
            refine mid_intro (((((((((bq38.setCell (p := ⟨q33.heap.size, 0, none⟩) sb19 _).setCell (p := ⟨q33.heap.size, 1, none⟩) sb19 _).setCell (p := ⟨q33.heap.size, 2, none⟩) sb19 _).setCell (p := ⟨q37.heap.size, 0, none⟩) sb20 _).setCell (p := ⟨q37.heap.size, 1, none⟩) sb20 _).setCell (p := ⟨q37.heap.size, 2, none⟩) sb20 _).setCell (p := ⟨q0.heap.size, 0, none⟩) sb21 _).setCell (p := ⟨q0.heap.size, 1, none⟩) sb21 _).setCell (p := ⟨q0.heap.size, 2, none⟩) sb21 _) ?_
            refine gC_end [26] (lB := [_]) (by simp) (by kernel_rfl) (by kernel_rfl) rfl ?_
            go_wp2_with fail
            go_meet
            exact ⟨q33.heap.size, q37.heap.size, q0.heap.size, q34.heap.size, rfl, rfl, rfl, rfl, ((((((((((((Z19q38.set_ 0 _).set_ 1 _).set_ 2 _).far (p := ⟨q37.heap.size, 0, none⟩) n1920 _).far (p := ⟨q37.heap.size, 1, none⟩) n1920 _).far (p := ⟨q37.heap.size, 2, none⟩) n1920 _).far (p := ⟨q0.heap.size, 0, none⟩) n1921 _).far (p := ⟨q0.heap.size, 1, none⟩) n1921 _).far (p := ⟨q0.heap.size, 2, none⟩) n1921 _).far (p := ⟨q34.heap.size, 0, none⟩) n1922 _).far (p := ⟨q34.heap.size, 1, none⟩) n1922 _).far (p := ⟨q34.heap.size, 2, none⟩) n1922 _), ((((((((((((zq38.far (p := ⟨q33.heap.size, 0, none⟩) n2019 _).far (p := ⟨q33.heap.size, 1, none⟩) n2019 _).far (p := ⟨q33.heap.size, 2, none⟩) n2019 _).set_ 0 _).set_ 1 _).set_ 2 _).far (p := ⟨q0.heap.size, 0, none⟩) n2021 _).far (p := ⟨q0.heap.size, 1, none⟩) n2021 _).far (p := ⟨q0.heap.size, 2, none⟩) n2021 _).far (p := ⟨q34.heap.size, 0, none⟩) n2022 _).far (p := ⟨q34.heap.size, 1, none⟩) n2022 _).far (p := ⟨q34.heap.size, 2, none⟩) n2022 _), ((((((((((((Z21q38.far (p := ⟨q33.heap.size, 0, none⟩) n2119 _).far (p := ⟨q33.heap.size, 1, none⟩) n2119 _).far (p := ⟨q33.heap.size, 2, none⟩) n2119 _).far (p := ⟨q37.heap.size, 0, none⟩) n2120 _).far (p := ⟨q37.heap.size, 1, none⟩) n2120 _).far (p := ⟨q37.heap.size, 2, none⟩) n2120 _).set_ 0 _).set_ 1 _).set_ 2 _).far (p := ⟨q34.heap.size, 0, none⟩) n2122 _).far (p := ⟨q34.heap.size, 1, none⟩) n2122 _).far (p := ⟨q34.heap.size, 2, none⟩) n2122 _), ((((((((((((Z22q38.far (p := ⟨q33.heap.size, 0, none⟩) n2219 _).far (p := ⟨q33.heap.size, 1, none⟩) n2219 _).far (p := ⟨q33.heap.size, 2, none⟩) n2219 _).far (p := ⟨q37.heap.size, 0, none⟩) n2220 _).far (p := ⟨q37.heap.size, 1, none⟩) n2220 _).far (p := ⟨q37.heap.size, 2, none⟩) n2220 _).far (p := ⟨q0.heap.size, 0, none⟩) n2221 _).far (p := ⟨q0.heap.size, 1, none⟩) n2221 _).far (p := ⟨q0.heap.size, 2, none⟩) n2221 _).set_ 0 _).set_ 1 _).set_ 2 _), ((((((((((((bq38.setCell (p := ⟨q33.heap.size, 0, none⟩) sb19 _).setCell (p := ⟨q33.heap.size, 1, none⟩) sb19 _).setCell (p := ⟨q33.heap.size, 2, none⟩) sb19 _).setCell (p := ⟨q37.heap.size, 0, none⟩) sb20 _).setCell (p := ⟨q37.heap.size, 1, none⟩) sb20 _).setCell (p := ⟨q37.heap.size, 2, none⟩) sb20 _).setCell (p := ⟨q0.heap.size, 0, none⟩) sb21 _).setCell (p := ⟨q0.heap.size, 1, none⟩) sb21 _).setCell (p := ⟨q0.heap.size, 2, none⟩) sb21 _).setCell (p := ⟨q34.heap.size, 0, none⟩) sb22 _).setCell (p := ⟨q34.heap.size, 1, none⟩) sb22 _).setCell (p := ⟨q34.heap.size, 2, none⟩) sb22 _)⟩
      · go_wp2_with fail
        refine name_midw ?_
        intro q39 hn
        have hbq39 : Below q33.heap.size q33 q39 := by rw [hn]; exact (Below.refl _ _).alloc (Nat.le_refl _) _
        have zq39 : Blk q39 q33.heap.size #[.int .i64 0, .int .i64 0, .slice none 0 0] := by rw [hn]; exact Blk.new_ _ 27 _ rfl
        have seq39 : q33.heap.size < q39.heap.size := by rw [hn]; simp
        clear hn
        have Z21q39 := zq33.keep hbq39
        have bq39 : Below wx.heap.size wx q39 := bq33.trans (hbq39.mono bq33.size)
        have lq39 := hbq39.size
        refine mid_intro bq39 ?_
        refine gC_two (i := 19) (j := 22) (by kernel_rfl) rfl rfl ?_ ?_
        · go_wp2_with fail
          refine name_midw ?_
          intro q40 hn
          have hbq40 : Below q39.heap.size q39 q40 := by rw [hn]; exact (Below.refl _ _).alloc (Nat.le_refl _) _
          have zq40 : Blk q40 q39.heap.size #[.int .i64 0, .int .i64 0, .slice none 0 0] := by rw [hn]; exact Blk.new_ _ 27 _ rfl
          have seq40 : q39.heap.size < q40.heap.size := by rw [hn]; simp
          clear hn
          have Z21q40 := Z21q39.keep hbq40
          have Z20q40 := zq39.keep hbq40
          have bq40 : Below wx.heap.size wx q40 := bq39.trans (hbq40.mono bq39.size)
          have lq40 := hbq40.size
          refine mid_intro bq40 ?_
          refine gC_one (i := 22) (by kernel_rfl) rfl ?_
          · go_wp2_with fail
            refine name_midw ?_
            intro q41 hn
            have hbq41 : Below q40.heap.size q40 q41 := by rw [hn]; exact (Below.refl _ _).alloc (Nat.le_refl _) _
            have zq41 : Blk q41 q40.heap.size #[.int .i64 0, .int .i64 0, .slice none 0 0] := by rw [hn]; exact Blk.new_ _ 27 _ rfl
            have seq41 : q40.heap.size < q41.heap.size := by rw [hn]; simp
            clear hn
            have Z21q41 := Z21q40.keep hbq41
            have Z20q41 := Z20q40.keep hbq41
            have Z19q41 := zq40.keep hbq41
            have bq41 : Below wx.heap.size wx q41 := bq40.trans (hbq41.mono bq40.size)
            have lq41 := hbq41.size
            refine mid_intro bq41 ?_
            obtain ⟨d190, d191, d192⟩ := Z19q41.three
            have e190 := Z19q41.frozen 0
            have e191 := Z19q41.frozen 1
            have e192 := Z19q41.frozen 2
            have sb19 : wx.heap.size ≤ q39.heap.size := by first | exact bq0.size | exact bq39.size
            obtain ⟨d200, d201, d202⟩ := Z20q41.three
            have e200 := Z20q41.frozen 0
            have e201 := Z20q41.frozen 1
            have e202 := Z20q41.frozen 2
            have sb20 : wx.heap.size ≤ q33.heap.size := by first | exact bq0.size | exact bq33.size
            obtain ⟨d210, d211, d212⟩ := Z21q41.three
            have e210 := Z21q41.frozen 0
            have e211 := Z21q41.frozen 1
            have e212 := Z21q41.frozen 2
            have sb21 : wx.heap.size ≤ q0.heap.size := by first | exact bq0.size | exact bq0.size
            obtain ⟨d220, d221, d222⟩ := zq41.three
            have e220 := zq41.frozen 0
            have e221 := zq41.frozen 1
            have e222 := zq41.frozen 2
            have sb22 : wx.heap.size ≤ q40.heap.size := by first | exact bq0.size | exact bq40.size
            have n1920 : q39.heap.size ≠ q33.heap.size := by omega
            have n1921 : q39.heap.size ≠ q0.heap.size := by omega
            have n1922 : q39.heap.size ≠ q40.heap.size := by omega
            have n2019 : q33.heap.size ≠ q39.heap.size := by omega
            have n2021 : q33.heap.size ≠ q0.heap.size := by omega
            have n2022 : q33.heap.size ≠ q40.heap.size := by omega
            have n2119 : q0.heap.size ≠ q39.heap.size := by omega
            have n2120 : q0.heap.size ≠ q33.heap.size := by omega
            have n2122 : q0.heap.size ≠ q40.heap.size := by omega
            have n2219 : q40.heap.size ≠ q39.heap.size := by omega
            have n2220 : q40.heap.size ≠ q33.heap.size := by omega
            have n2221 : q40.heap.size ≠ q0.heap.size := by omega
            refine gC_one (i := 23) (by kernel_rfl) rfl ?_
            go_wp2_with fail
            refine mid_intro (((bq41.setCell (p := ⟨q39.heap.size, 0, none⟩) sb19 _).setCell (p := ⟨q39.heap.size, 1, none⟩) sb19 _).setCell (p := ⟨q39.heap.size, 2, none⟩) sb19 _) ?_
            refine gC_one (i := 24) (by kernel_rfl) rfl ?_
            go_wp2_with fail
            refine mid_intro ((((((bq41.setCell (p := ⟨q39.heap.size, 0, none⟩) sb19 _).setCell (p := ⟨q39.heap.size, 1, none⟩) sb19 _).setCell (p := ⟨q39.heap.size, 2, none⟩) sb19 _).setCell (p := ⟨q33.heap.size, 0, none⟩) sb20 _).setCell (p := ⟨q33.heap.size, 1, none⟩) sb20 _).setCell (p := ⟨q33.heap.size, 2, none⟩) sb20 _) ?_
            refine gC_one (i := 25) (by kernel_rfl) rfl ?_
            go_wp2_with fail
            refine mid_intro (((((((((bq41.setCell (p := ⟨q39.heap.size, 0, none⟩) sb19 _).setCell (p := ⟨q39.heap.size, 1, none⟩) sb19 _).setCell (p := ⟨q39.heap.size, 2, none⟩) sb19 _).setCell (p := ⟨q33.heap.size, 0, none⟩) sb20 _).setCell (p := ⟨q33.heap.size, 1, none⟩) sb20 _).setCell (p := ⟨q33.heap.size, 2, none⟩) sb20 _).setCell (p := ⟨q0.heap.size, 0, none⟩) sb21 _).setCell (p := ⟨q0.heap.size, 1, none⟩) sb21 _).setCell (p := ⟨q0.heap.size, 2, none⟩) sb21 _) ?_
            refine gC_end [26] (lB := [_]) (by simp) (by kernel_rfl) (by kernel_rfl) rfl ?_
            go_wp2_with fail
            go_meet
            exact ⟨q39.heap.size, q33.heap.size, q0.heap.size, q40.heap.size, rfl, rfl, rfl, rfl, ((((((((((((Z19q41.set_ 0 _).set_ 1 _).set_ 2 _).far (p := ⟨q33.heap.size, 0, none⟩) n1920 _).far (p := ⟨q33.heap.size, 1, none⟩) n1920 _).far (p := ⟨q33.heap.size, 2, none⟩) n1920 _).far (p := ⟨q0.heap.size, 0, none⟩) n1921 _).far (p := ⟨q0.heap.size, 1, none⟩) n1921 _).far (p := ⟨q0.heap.size, 2, none⟩) n1921 _).far (p := ⟨q40.heap.size, 0, none⟩) n1922 _).far (p := ⟨q40.heap.size, 1, none⟩) n1922 _).far (p := ⟨q40.heap.size, 2, none⟩) n1922 _), ((((((((((((Z20q41.far (p := ⟨q39.heap.size, 0, none⟩) n2019 _).far (p := ⟨q39.heap.size, 1, none⟩) n2019 _).far (p := ⟨q39.heap.size, 2, none⟩) n2019 _).set_ 0 _).set_ 1 _).set_ 2 _).far (p := ⟨q0.heap.size, 0, none⟩) n2021 _).far (p := ⟨q0.heap.size, 1, none⟩) n2021 _).far (p := ⟨q0.heap.size, 2, none⟩) n2021 _).far (p := ⟨q40.heap.size, 0, none⟩) n2022 _).far (p := ⟨q40.heap.size, 1, none⟩) n2022 _).far (p := ⟨q40.heap.size, 2, none⟩) n2022 _), ((((((((((((Z21q41.far (p := ⟨q39.heap.size, 0, none⟩) n2119 _).far (p := ⟨q39.heap.size, 1, none⟩) n2119 _).far (p := ⟨q39.heap.size, 2, none⟩) n2119 _).far (p := ⟨q33.heap.size, 0, none⟩) n2120 _).far (p := ⟨q33.heap.size, 1, none⟩) n2120 _).far (p := ⟨q33.heap.size, 2, none⟩) n2120 _).set_ 0 _).set_ 1 _).set_ 2 _).far (p := ⟨q40.heap.size, 0, none⟩) n2122 _).far (p := ⟨q40.heap.size, 1, none⟩) n2122 _).far (p := ⟨q40.heap.size, 2, none⟩) n2122 _), ((((((((((((zq41.far (p := ⟨q39.heap.size, 0, none⟩) n2219 _).far (p := ⟨q39.heap.size, 1, none⟩) n2219 _).far (p := ⟨q39.heap.size, 2, none⟩) n2219 _).far (p := ⟨q33.heap.size, 0, none⟩) n2220 _).far (p := ⟨q33.heap.size, 1, none⟩) n2220 _).far (p := ⟨q33.heap.size, 2, none⟩) n2220 _).far (p := ⟨q0.heap.size, 0, none⟩) n2221 _).far (p := ⟨q0.heap.size, 1, none⟩) n2221 _).far (p := ⟨q0.heap.size, 2, none⟩) n2221 _).set_ 0 _).set_ 1 _).set_ 2 _), ((((((((((((bq41.setCell (p := ⟨q39.heap.size, 0, none⟩) sb19 _).setCell (p := ⟨q39.heap.size, 1, none⟩) sb19 _).setCell (p := ⟨q39.heap.size, 2, none⟩) sb19 _).setCell (p := ⟨q33.heap.size, 0, none⟩) sb20 _).setCell (p := ⟨q33.heap.size, 1, none⟩) sb20 _).setCell (p := ⟨q33.heap.size, 2, none⟩) sb20 _).setCell (p := ⟨q0.heap.size, 0, none⟩) sb21 _).setCell (p := ⟨q0.heap.size, 1, none⟩) sb21 _).setCell (p := ⟨q0.heap.size, 2, none⟩) sb21 _).setCell (p := ⟨q40.heap.size, 0, none⟩) sb22 _).setCell (p := ⟨q40.heap.size, 1, none⟩) sb22 _).setCell (p := ⟨q40.heap.size, 2, none⟩) sb22 _)⟩
        · go_wp2_with fail
          refine name_midw ?_
          intro q42 hn
          have hbq42 : Below q39.heap.size q39 q42 := by rw [hn]; exact (Below.refl _ _).alloc (Nat.le_refl _) _
          have zq42 : Blk q42 q39.heap.size #[.int .i64 0, .int .i64 0, .slice none 0 0] := by rw [hn]; exact Blk.new_ _ 27 _ rfl
          have seq42 : q39.heap.size < q42.heap.size := by rw [hn]; simp
          clear hn
          have Z21q42 := Z21q39.keep hbq42
          have Z20q42 := zq39.keep hbq42
          have bq42 : Below wx.heap.size wx q42 := bq39.trans (hbq42.mono bq39.size)
          have lq42 := hbq42.size
          refine mid_intro bq42 ?_
          refine gC_one (i := 19) (by kernel_rfl) rfl ?_
          · go_wp2_with fail
            refine name_midw ?_
            intro q43 hn
            have hbq43 : Below q42.heap.size q42 q43 := by rw [hn]; exact (Below.refl _ _).alloc (Nat.le_refl _) _
            have zq43 : Blk q43 q42.heap.size #[.int .i64 0, .int .i64 0, .slice none 0 0] := by rw [hn]; exact Blk.new_ _ 27 _ rfl
            have seq43 : q42.heap.size < q43.heap.size := by rw [hn]; simp
            clear hn
            have Z21q43 := Z21q42.keep hbq43
            have Z20q43 := Z20q42.keep hbq43
            have Z22q43 := zq42.keep hbq43
            have bq43 : Below wx.heap.size wx q43 := bq42.trans (hbq43.mono bq42.size)
            have lq43 := hbq43.size
            refine mid_intro bq43 ?_
            obtain ⟨d190, d191, d192⟩ := zq43.three
            have e190 := zq43.frozen 0
            have e191 := zq43.frozen 1
            have e192 := zq43.frozen 2
            have sb19 : wx.heap.size ≤ q42.heap.size := by first | exact bq0.size | exact bq42.size
            obtain ⟨d200, d201, d202⟩ := Z20q43.three
            have e200 := Z20q43.frozen 0
            have e201 := Z20q43.frozen 1
            have e202 := Z20q43.frozen 2
            have sb20 : wx.heap.size ≤ q33.heap.size := by first | exact bq0.size | exact bq33.size
            obtain ⟨d210, d211, d212⟩ := Z21q43.three
            have e210 := Z21q43.frozen 0
            have e211 := Z21q43.frozen 1
            have e212 := Z21q43.frozen 2
            have sb21 : wx.heap.size ≤ q0.heap.size := by first | exact bq0.size | exact bq0.size
            obtain ⟨d220, d221, d222⟩ := Z22q43.three
            have e220 := Z22q43.frozen 0
            have e221 := Z22q43.frozen 1
            have e222 := Z22q43.frozen 2
            have sb22 : wx.heap.size ≤ q39.heap.size := by first | exact bq0.size | exact bq39.size
            have n1920 : q42.heap.size ≠ q33.heap.size := by omega
            have n1921 : q42.heap.size ≠ q0.heap.size := by omega
            have n1922 : q42.heap.size ≠ q39.heap.size := by omega
            have n2019 : q33.heap.size ≠ q42.heap.size := by omega
            have n2021 : q33.heap.size ≠ q0.heap.size := by omega
            have n2022 : q33.heap.size ≠ q39.heap.size := by omega
            have n2119 : q0.heap.size ≠ q42.heap.size := by omega
            have n2120 : q0.heap.size ≠ q33.heap.size := by omega
            have n2122 : q0.heap.size ≠ q39.heap.size := by omega
            have n2219 : q39.heap.size ≠ q42.heap.size := by omega
            have n2220 : q39.heap.size ≠ q33.heap.size := by omega
            have n2221 : q39.heap.size ≠ q0.heap.size := by omega
            refine gC_one (i := 23) (by kernel_rfl) rfl ?_
            go_wp2_with fail
            refine mid_intro (((bq43.setCell (p := ⟨q42.heap.size, 0, none⟩) sb19 _).setCell (p := ⟨q42.heap.size, 1, none⟩) sb19 _).setCell (p := ⟨q42.heap.size, 2, none⟩) sb19 _) ?_
            refine gC_one (i := 24) (by kernel_rfl) rfl ?_
            go_wp2_with fail
            refine mid_intro ((((((bq43.setCell (p := ⟨q42.heap.size, 0, none⟩) sb19 _).setCell (p := ⟨q42.heap.size, 1, none⟩) sb19 _).setCell (p := ⟨q42.heap.size, 2, none⟩) sb19 _).setCell (p := ⟨q33.heap.size, 0, none⟩) sb20 _).setCell (p := ⟨q33.heap.size, 1, none⟩) sb20 _).setCell (p := ⟨q33.heap.size, 2, none⟩) sb20 _) ?_
            refine gC_one (i := 25) (by kernel_rfl) rfl ?_
            go_wp2_with fail
            refine mid_intro (((((((((bq43.setCell (p := ⟨q42.heap.size, 0, none⟩) sb19 _).setCell (p := ⟨q42.heap.size, 1, none⟩) sb19 _).setCell (p := ⟨q42.heap.size, 2, none⟩) sb19 _).setCell (p := ⟨q33.heap.size, 0, none⟩) sb20 _).setCell (p := ⟨q33.heap.size, 1, none⟩) sb20 _).setCell (p := ⟨q33.heap.size, 2, none⟩) sb20 _).setCell (p := ⟨q0.heap.size, 0, none⟩) sb21 _).setCell (p := ⟨q0.heap.size, 1, none⟩) sb21 _).setCell (p := ⟨q0.heap.size, 2, none⟩) sb21 _) ?_
            refine gC_end [26] (lB := [_]) (by simp) (by kernel_rfl) (by kernel_rfl) rfl ?_
            go_wp2_with fail
            go_meet
            exact ⟨q42.heap.size, q33.heap.size, q0.heap.size, q39.heap.size, rfl, rfl, rfl, rfl, ((((((((((((zq43.set_ 0 _).set_ 1 _).set_ 2 _).far (p := ⟨q33.heap.size, 0, none⟩) n1920 _).far (p := ⟨q33.heap.size, 1, none⟩) n1920 _).far (p := ⟨q33.heap.size, 2, none⟩) n1920 _).far (p := ⟨q0.heap.size, 0, none⟩) n1921 _).far (p := ⟨q0.heap.size, 1, none⟩) n1921 _).far (p := ⟨q0.heap.size, 2, none⟩) n1921 _).far (p := ⟨q39.heap.size, 0, none⟩) n1922 _).far (p := ⟨q39.heap.size, 1, none⟩) n1922 _).far (p := ⟨q39.heap.size, 2, none⟩) n1922 _), ((((((((((((Z20q43.far (p := ⟨q42.heap.size, 0, none⟩) n2019 _).far (p := ⟨q42.heap.size, 1, none⟩) n2019 _).far (p := ⟨q42.heap.size, 2, none⟩) n2019 _).set_ 0 _).set_ 1 _).set_ 2 _).far (p := ⟨q0.heap.size, 0, none⟩) n2021 _).far (p := ⟨q0.heap.size, 1, none⟩) n2021 _).far (p := ⟨q0.heap.size, 2, none⟩) n2021 _).far (p := ⟨q39.heap.size, 0, none⟩) n2022 _).far (p := ⟨q39.heap.size, 1, none⟩) n2022 _).far (p := ⟨q39.heap.size, 2, none⟩) n2022 _), ((((((((((((Z21q43.far (p := ⟨q42.heap.size, 0, none⟩) n2119 _).far (p := ⟨q42.heap.size, 1, none⟩) n2119 _).far (p := ⟨q42.heap.size, 2, none⟩) n2119 _).far (p := ⟨q33.heap.size, 0, none⟩) n2120 _).far (p := ⟨q33.heap.size, 1, none⟩) n2120 _).far (p := ⟨q33.heap.size, 2, none⟩) n2120 _).set_ 0 _).set_ 1 _).set_ 2 _).far (p := ⟨q39.heap.size, 0, none⟩) n2122 _).far (p := ⟨q39.heap.size, 1, none⟩) n2122 _).far (p := ⟨q39.heap.size, 2, none⟩) n2122 _), ((((((((((((Z22q43.far (p := ⟨q42.heap.size, 0, none⟩) n2219 _).far (p := ⟨q42.heap.size, 1, none⟩) n2219 _).far (p := ⟨q42.heap.size, 2, none⟩) n2219 _).far (p := ⟨q33.heap.size, 0, none⟩) n2220 _).far (p := ⟨q33.heap.size, 1, none⟩) n2220 _).far (p := ⟨q33.heap.size, 2, none⟩) n2220 _).far (p := ⟨q0.heap.size, 0, none⟩) n2221 _).far (p := ⟨q0.heap.size, 1, none⟩) n2221 _).far (p := ⟨q0.heap.size, 2, none⟩) n2221 _).set_ 0 _).set_ 1 _).set_ 2 _), ((((((((((((bq43.setCell (p := ⟨q42.heap.size, 0, none⟩) sb19 _).setCell (p := ⟨q42.heap.size, 1, none⟩) sb19 _).setCell (p := ⟨q42.heap.size, 2, none⟩) sb19 _).setCell (p := ⟨q33.heap.size, 0, none⟩) sb20 _).setCell (p := ⟨q33.heap.size, 1, none⟩) sb20 _).setCell (p := ⟨q33.heap.size, 2, none⟩) sb20 _).setCell (p := ⟨q0.heap.size, 0, none⟩) sb21 _).setCell (p := ⟨q0.heap.size, 1, none⟩) sb21 _).setCell (p := ⟨q0.heap.size, 2, none⟩) sb21 _).setCell (p := ⟨q39.heap.size, 0, none⟩) sb22 _).setCell (p := ⟨q39.heap.size, 1, none⟩) sb22 _).setCell (p := ⟨q39.heap.size, 2, none⟩) sb22 _)⟩
      · go_wp2_with fail
        refine name_midw ?_
        intro q44 hn
        have hbq44 : Below q33.heap.size q33 q44 := by rw [hn]; exact (Below.refl _ _).alloc (Nat.le_refl _) _
        have zq44 : Blk q44 q33.heap.size #[.int .i64 0, .int .i64 0, .slice none 0 0] := by rw [hn]; exact Blk.new_ _ 27 _ rfl
        have seq44 : q33.heap.size < q44.heap.size := by rw [hn]; simp
        clear hn
        have Z21q44 := zq33.keep hbq44
        have bq44 : Below wx.heap.size wx q44 := bq33.trans (hbq44.mono bq33.size)
        have lq44 := hbq44.size
        refine mid_intro bq44 ?_
        refine gC_two (i := 19) (j := 20) (by kernel_rfl) rfl rfl ?_ ?_
        · go_wp2_with fail
          refine name_midw ?_
          intro q45 hn
          have hbq45 : Below q44.heap.size q44 q45 := by rw [hn]; exact (Below.refl _ _).alloc (Nat.le_refl _) _
          have zq45 : Blk q45 q44.heap.size #[.int .i64 0, .int .i64 0, .slice none 0 0] := by rw [hn]; exact Blk.new_ _ 27 _ rfl
          have seq45 : q44.heap.size < q45.heap.size := by rw [hn]; simp
          clear hn
          have Z21q45 := Z21q44.keep hbq45
          have Z22q45 := zq44.keep hbq45
          have bq45 : Below wx.heap.size wx q45 := bq44.trans (hbq45.mono bq44.size)
          have lq45 := hbq45.size
          refine mid_intro bq45 ?_
          refine gC_one (i := 20) (by kernel_rfl) rfl ?_
          · go_wp2_with fail
            refine name_midw ?_
            intro q46 hn
            have hbq46 : Below q45.heap.size q45 q46 := by rw [hn]; exact (Below.refl _ _).alloc (Nat.le_refl _) _
            have zq46 : Blk q46 q45.heap.size #[.int .i64 0, .int .i64 0, .slice none 0 0] := by rw [hn]; exact Blk.new_ _ 27 _ rfl
            have seq46 : q45.heap.size < q46.heap.size := by rw [hn]; simp
            clear hn
            have Z21q46 := Z21q45.keep hbq46
            have Z22q46 := Z22q45.keep hbq46
            have Z19q46 := zq45.keep hbq46
            have bq46 : Below wx.heap.size wx q46 := bq45.trans (hbq46.mono bq45.size)
            have lq46 := hbq46.size
            refine mid_intro bq46 ?_
            obtain ⟨d190, d191, d192⟩ := Z19q46.three
            have e190 := Z19q46.frozen 0
            have e191 := Z19q46.frozen 1
            have e192 := Z19q46.frozen 2
            have sb19 : wx.heap.size ≤ q44.heap.size := by first | exact bq0.size | exact bq44.size
            obtain ⟨d200, d201, d202⟩ := zq46.three
            have e200 := zq46.frozen 0
            have e201 := zq46.frozen 1
            have e202 := zq46.frozen 2
            have sb20 : wx.heap.size ≤ q45.heap.size := by first | exact bq0.size | exact bq45.size
            obtain ⟨d210, d211, d212⟩ := Z21q46.three
            have e210 := Z21q46.frozen 0
            have e211 := Z21q46.frozen 1
            have e212 := Z21q46.frozen 2
            have sb21 : wx.heap.size ≤ q0.heap.size := by first | exact bq0.size | exact bq0.size
            obtain ⟨d220, d221, d222⟩ := Z22q46.three
            have e220 := Z22q46.frozen 0
            have e221 := Z22q46.frozen 1
            have e222 := Z22q46.frozen 2
            have sb22 : wx.heap.size ≤ q33.heap.size := by first | exact bq0.size | exact bq33.size
            have n1920 : q44.heap.size ≠ q45.heap.size := by omega
            have n1921 : q44.heap.size ≠ q0.heap.size := by omega
            have n1922 : q44.heap.size ≠ q33.heap.size := by omega
            have n2019 : q45.heap.size ≠ q44.heap.size := by omega
            have n2021 : q45.heap.size ≠ q0.heap.size := by omega
            have n2022 : q45.heap.size ≠ q33.heap.size := by omega
            have n2119 : q0.heap.size ≠ q44.heap.size := by omega
            have n2120 : q0.heap.size ≠ q45.heap.size := by omega
            have n2122 : q0.heap.size ≠ q33.heap.size := by omega
            have n2219 : q33.heap.size ≠ q44.heap.size := by omega
            have n2220 : q33.heap.size ≠ q45.heap.size := by omega
            have n2221 : q33.heap.size ≠ q0.heap.size := by omega
            refine gC_one (i := 23) (by kernel_rfl) rfl ?_
            go_wp2_with fail
            refine mid_intro (((bq46.setCell (p := ⟨q44.heap.size, 0, none⟩) sb19 _).setCell (p := ⟨q44.heap.size, 1, none⟩) sb19 _).setCell (p := ⟨q44.heap.size, 2, none⟩) sb19 _) ?_
            refine gC_one (i := 24) (by kernel_rfl) rfl ?_
            go_wp2_with fail
            refine mid_intro ((((((bq46.setCell (p := ⟨q44.heap.size, 0, none⟩) sb19 _).setCell (p := ⟨q44.heap.size, 1, none⟩) sb19 _).setCell (p := ⟨q44.heap.size, 2, none⟩) sb19 _).setCell (p := ⟨q45.heap.size, 0, none⟩) sb20 _).setCell (p := ⟨q45.heap.size, 1, none⟩) sb20 _).setCell (p := ⟨q45.heap.size, 2, none⟩) sb20 _) ?_
            refine gC_one (i := 25) (by kernel_rfl) rfl ?_
            go_wp2_with fail
            refine mid_intro (((((((((bq46.setCell (p := ⟨q44.heap.size, 0, none⟩) sb19 _).setCell (p := ⟨q44.heap.size, 1, none⟩) sb19 _).setCell (p := ⟨q44.heap.size, 2, none⟩) sb19 _).setCell (p := ⟨q45.heap.size, 0, none⟩) sb20 _).setCell (p := ⟨q45.heap.size, 1, none⟩) sb20 _).setCell (p := ⟨q45.heap.size, 2, none⟩) sb20 _).setCell (p := ⟨q0.heap.size, 0, none⟩) sb21 _).setCell (p := ⟨q0.heap.size, 1, none⟩) sb21 _).setCell (p := ⟨q0.heap.size, 2, none⟩) sb21 _) ?_
            refine gC_end [26] (lB := [_]) (by simp) (by kernel_rfl) (by kernel_rfl) rfl ?_
            go_wp2_with fail
            go_meet
            exact ⟨q44.heap.size, q45.heap.size, q0.heap.size, q33.heap.size, rfl, rfl, rfl, rfl, ((((((((((((Z19q46.set_ 0 _).set_ 1 _).set_ 2 _).far (p := ⟨q45.heap.size, 0, none⟩) n1920 _).far (p := ⟨q45.heap.size, 1, none⟩) n1920 _).far (p := ⟨q45.heap.size, 2, none⟩) n1920 _).far (p := ⟨q0.heap.size, 0, none⟩) n1921 _).far (p := ⟨q0.heap.size, 1, none⟩) n1921 _).far (p := ⟨q0.heap.size, 2, none⟩) n1921 _).far (p := ⟨q33.heap.size, 0, none⟩) n1922 _).far (p := ⟨q33.heap.size, 1, none⟩) n1922 _).far (p := ⟨q33.heap.size, 2, none⟩) n1922 _), ((((((((((((zq46.far (p := ⟨q44.heap.size, 0, none⟩) n2019 _).far (p := ⟨q44.heap.size, 1, none⟩) n2019 _).far (p := ⟨q44.heap.size, 2, none⟩) n2019 _).set_ 0 _).set_ 1 _).set_ 2 _).far (p := ⟨q0.heap.size, 0, none⟩) n2021 _).far (p := ⟨q0.heap.size, 1, none⟩) n2021 _).far (p := ⟨q0.heap.size, 2, none⟩) n2021 _).far (p := ⟨q33.heap.size, 0, none⟩) n2022 _).far (p := ⟨q33.heap.size, 1, none⟩) n2022 _).far (p := ⟨q33.heap.size, 2, none⟩) n2022 _), ((((((((((((Z21q46.far (p := ⟨q44.heap.size, 0, none⟩) n2119 _).far (p := ⟨q44.heap.size, 1, none⟩) n2119 _).far (p := ⟨q44.heap.size, 2, none⟩) n2119 _).far (p := ⟨q45.heap.size, 0, none⟩) n2120 _).far (p := ⟨q45.heap.size, 1, none⟩) n2120 _).far (p := ⟨q45.heap.size, 2, none⟩) n2120 _).set_ 0 _).set_ 1 _).set_ 2 _).far (p := ⟨q33.heap.size, 0, none⟩) n2122 _).far (p := ⟨q33.heap.size, 1, none⟩) n2122 _).far (p := ⟨q33.heap.size, 2, none⟩) n2122 _), ((((((((((((Z22q46.far (p := ⟨q44.heap.size, 0, none⟩) n2219 _).far (p := ⟨q44.heap.size, 1, none⟩) n2219 _).far (p := ⟨q44.heap.size, 2, none⟩) n2219 _).far (p := ⟨q45.heap.size, 0, none⟩) n2220 _).far (p := ⟨q45.heap.size, 1, none⟩) n2220 _).far (p := ⟨q45.heap.size, 2, none⟩) n2220 _).far (p := ⟨q0.heap.size, 0, none⟩) n2221 _).far (p := ⟨q0.heap.size, 1, none⟩) n2221 _).far (p := ⟨q0.heap.size, 2, none⟩) n2221 _).set_ 0 _).set_ 1 _).set_ 2 _), ((((((((((((bq46.setCell (p := ⟨q44.heap.size, 0, none⟩) sb19 _).setCell (p := ⟨q44.heap.size, 1, none⟩) sb19 _).setCell (p := ⟨q44.heap.size, 2, none⟩) sb19 _).setCell (p := ⟨q45.heap.size, 0, none⟩) sb20 _).setCell (p := ⟨q45.heap.size, 1, none⟩) sb20 _).setCell (p := ⟨q45.heap.size, 2, none⟩) sb20 _).setCell (p := ⟨q0.heap.size, 0, none⟩) sb21 _).setCell (p := ⟨q0.heap.size, 1, none⟩) sb21 _).setCell (p := ⟨q0.heap.size, 2, none⟩) sb21 _).setCell (p := ⟨q33.heap.size, 0, none⟩) sb22 _).setCell (p := ⟨q33.heap.size, 1, none⟩) sb22 _).setCell (p := ⟨q33.heap.size, 2, none⟩) sb22 _)⟩
        · go_wp2_with fail
          refine name_midw ?_
          intro q47 hn
          have hbq47 : Below q44.heap.size q44 q47 := by rw [hn]; exact (Below.refl _ _).alloc (Nat.le_refl _) _
          have zq47 : Blk q47 q44.heap.size #[.int .i64 0, .int .i64 0, .slice none 0 0] := by rw [hn]; exact Blk.new_ _ 27 _ rfl
          have seq47 : q44.heap.size < q47.heap.size := by rw [hn]; simp
          clear hn
          have Z21q47 := Z21q44.keep hbq47
          have Z22q47 := zq44.keep hbq47
          have bq47 : Below wx.heap.size wx q47 := bq44.trans (hbq47.mono bq44.size)
          have lq47 := hbq47.size
          refine mid_intro bq47 ?_
          refine gC_one (i := 19) (by kernel_rfl) rfl ?_
          · go_wp2_with fail
            refine name_midw ?_
            intro q48 hn
            have hbq48 : Below q47.heap.size q47 q48 := by rw [hn]; exact (Below.refl _ _).alloc (Nat.le_refl _) _
            have zq48 : Blk q48 q47.heap.size #[.int .i64 0, .int .i64 0, .slice none 0 0] := by rw [hn]; exact Blk.new_ _ 27 _ rfl
            have seq48 : q47.heap.size < q48.heap.size := by rw [hn]; simp
            clear hn
            have Z21q48 := Z21q47.keep hbq48
            have Z22q48 := Z22q47.keep hbq48
            have Z20q48 := zq47.keep hbq48
            have bq48 : Below wx.heap.size wx q48 := bq47.trans (hbq48.mono bq47.size)
            have lq48 := hbq48.size
            refine mid_intro bq48 ?_
            obtain ⟨d190, d191, d192⟩ := zq48.three
            have e190 := zq48.frozen 0
            have e191 := zq48.frozen 1
            have e192 := zq48.frozen 2
            have sb19 : wx.heap.size ≤ q47.heap.size := by first | exact bq0.size | exact bq47.size
            obtain ⟨d200, d201, d202⟩ := Z20q48.three
            have e200 := Z20q48.frozen 0
            have e201 := Z20q48.frozen 1
            have e202 := Z20q48.frozen 2
            have sb20 : wx.heap.size ≤ q44.heap.size := by first | exact bq0.size | exact bq44.size
            obtain ⟨d210, d211, d212⟩ := Z21q48.three
            have e210 := Z21q48.frozen 0
            have e211 := Z21q48.frozen 1
            have e212 := Z21q48.frozen 2
            have sb21 : wx.heap.size ≤ q0.heap.size := by first | exact bq0.size | exact bq0.size
            obtain ⟨d220, d221, d222⟩ := Z22q48.three
            have e220 := Z22q48.frozen 0
            have e221 := Z22q48.frozen 1
            have e222 := Z22q48.frozen 2
            have sb22 : wx.heap.size ≤ q33.heap.size := by first | exact bq0.size | exact bq33.size
            have n1920 : q47.heap.size ≠ q44.heap.size := by omega
            have n1921 : q47.heap.size ≠ q0.heap.size := by omega
            have n1922 : q47.heap.size ≠ q33.heap.size := by omega
            have n2019 : q44.heap.size ≠ q47.heap.size := by omega
            have n2021 : q44.heap.size ≠ q0.heap.size := by omega
            have n2022 : q44.heap.size ≠ q33.heap.size := by omega
            have n2119 : q0.heap.size ≠ q47.heap.size := by omega
            have n2120 : q0.heap.size ≠ q44.heap.size := by omega
            have n2122 : q0.heap.size ≠ q33.heap.size := by omega
            have n2219 : q33.heap.size ≠ q47.heap.size := by omega
            have n2220 : q33.heap.size ≠ q44.heap.size := by omega
            have n2221 : q33.heap.size ≠ q0.heap.size := by omega
            refine gC_one (i := 23) (by kernel_rfl) rfl ?_
            go_wp2_with fail
            refine mid_intro (((bq48.setCell (p := ⟨q47.heap.size, 0, none⟩) sb19 _).setCell (p := ⟨q47.heap.size, 1, none⟩) sb19 _).setCell (p := ⟨q47.heap.size, 2, none⟩) sb19 _) ?_
            refine gC_one (i := 24) (by kernel_rfl) rfl ?_
            go_wp2_with fail
            refine mid_intro ((((((bq48.setCell (p := ⟨q47.heap.size, 0, none⟩) sb19 _).setCell (p := ⟨q47.heap.size, 1, none⟩) sb19 _).setCell (p := ⟨q47.heap.size, 2, none⟩) sb19 _).setCell (p := ⟨q44.heap.size, 0, none⟩) sb20 _).setCell (p := ⟨q44.heap.size, 1, none⟩) sb20 _).setCell (p := ⟨q44.heap.size, 2, none⟩) sb20 _) ?_
            refine gC_one (i := 25) (by kernel_rfl) rfl ?_
            go_wp2_with fail
            refine mid_intro (((((((((bq48.setCell (p := ⟨q47.heap.size, 0, none⟩) sb19 _).setCell (p := ⟨q47.heap.size, 1, none⟩) sb19 _).setCell (p := ⟨q47.heap.size, 2, none⟩) sb19 _).setCell (p := ⟨q44.heap.size, 0, none⟩) sb20 _).setCell (p := ⟨q44.heap.size, 1, none⟩) sb20 _).setCell (p := ⟨q44.heap.size, 2, none⟩) sb20 _).setCell (p := ⟨q0.heap.size, 0, none⟩) sb21 _).setCell (p := ⟨q0.heap.size, 1, none⟩) sb21 _).setCell (p := ⟨q0.heap.size, 2, none⟩) sb21 _) ?_
            refine gC_end [26] (lB := [_]) (by simp) (by kernel_rfl) (by kernel_rfl) rfl ?_
            go_wp2_with fail
            go_meet
            exact ⟨q47.heap.size, q44.heap.size, q0.heap.size, q33.heap.size, rfl, rfl, rfl, rfl, ((((((((((((zq48.set_ 0 _).set_ 1 _).set_ 2 _).far (p := ⟨q44.heap.size, 0, none⟩) n1920 _).far (p := ⟨q44.heap.size, 1, none⟩) n1920 _).far (p := ⟨q44.heap.size, 2, none⟩) n1920 _).far (p := ⟨q0.heap.size, 0, none⟩) n1921 _).far (p := ⟨q0.heap.size, 1, none⟩) n1921 _).far (p := ⟨q0.heap.size, 2, none⟩) n1921 _).far (p := ⟨q33.heap.size, 0, none⟩) n1922 _).far (p := ⟨q33.heap.size, 1, none⟩) n1922 _).far (p := ⟨q33.heap.size, 2, none⟩) n1922 _), ((((((((((((Z20q48.far (p := ⟨q47.heap.size, 0, none⟩) n2019 _).far (p := ⟨q47.heap.size, 1, none⟩) n2019 _).far (p := ⟨q47.heap.size, 2, none⟩) n2019 _).set_ 0 _).set_ 1 _).set_ 2 _).far (p := ⟨q0.heap.size, 0, none⟩) n2021 _).far (p := ⟨q0.heap.size, 1, none⟩) n2021 _).far (p := ⟨q0.heap.size, 2, none⟩) n2021 _).far (p := ⟨q33.heap.size, 0, none⟩) n2022 _).far (p := ⟨q33.heap.size, 1, none⟩) n2022 _).far (p := ⟨q33.heap.size, 2, none⟩) n2022 _), ((((((((((((Z21q48.far (p := ⟨q47.heap.size, 0, none⟩) n2119 _).far (p := ⟨q47.heap.size, 1, none⟩) n2119 _).far (p := ⟨q47.heap.size, 2, none⟩) n2119 _).far (p := ⟨q44.heap.size, 0, none⟩) n2120 _).far (p := ⟨q44.heap.size, 1, none⟩) n2120 _).far (p := ⟨q44.heap.size, 2, none⟩) n2120 _).set_ 0 _).set_ 1 _).set_ 2 _).far (p := ⟨q33.heap.size, 0, none⟩) n2122 _).far (p := ⟨q33.heap.size, 1, none⟩) n2122 _).far (p := ⟨q33.heap.size, 2, none⟩) n2122 _), ((((((((((((Z22q48.far (p := ⟨q47.heap.size, 0, none⟩) n2219 _).far (p := ⟨q47.heap.size, 1, none⟩) n2219 _).far (p := ⟨q47.heap.size, 2, none⟩) n2219 _).far (p := ⟨q44.heap.size, 0, none⟩) n2220 _).far (p := ⟨q44.heap.size, 1, none⟩) n2220 _).far (p := ⟨q44.heap.size, 2, none⟩) n2220 _).far (p := ⟨q0.heap.size, 0, none⟩) n2221 _).far (p := ⟨q0.heap.size, 1, none⟩) n2221 _).far (p := ⟨q0.heap.size, 2, none⟩) n2221 _).set_ 0 _).set_ 1 _).set_ 2 _), ((((((((((((bq48.setCell (p := ⟨q47.heap.size, 0, none⟩) sb19 _).setCell (p := ⟨q47.heap.size, 1, none⟩) sb19 _).setCell (p := ⟨q47.heap.size, 2, none⟩) sb19 _).setCell (p := ⟨q44.heap.size, 0, none⟩) sb20 _).setCell (p := ⟨q44.heap.size, 1, none⟩) sb20 _).setCell (p := ⟨q44.heap.size, 2, none⟩) sb20 _).setCell (p := ⟨q0.heap.size, 0, none⟩) sb21 _).setCell (p := ⟨q0.heap.size, 1, none⟩) sb21 _).setCell (p := ⟨q0.heap.size, 2, none⟩) sb21 _).setCell (p := ⟨q33.heap.size, 0, none⟩) sb22 _).setCell (p := ⟨q33.heap.size, 1, none⟩) sb22 _).setCell (p := ⟨q33.heap.size, 2, none⟩) sb22 _)⟩
    · go_wp2_with fail
      refine name_midw ?_
      intro q49 hn
      have hbq49 : Below q0.heap.size q0 q49 := by rw [hn]; exact (Below.refl _ _).alloc (Nat.le_refl _) _
      have zq49 : Blk q49 q0.heap.size #[.int .i64 0, .int .i64 0, .slice none 0 0] := by rw [hn]; exact Blk.new_ _ 27 _ rfl
      have seq49 : q0.heap.size < q49.heap.size := by rw [hn]; simp
      clear hn
      have bq49 : Below wx.heap.size wx q49 := bq0.trans (hbq49.mono bq0.size)
      have lq49 := hbq49.size
      refine mid_intro bq49 ?_
      refine gC_three (i := 19) (j := 20) (m := 21) (by kernel_rfl) rfl rfl rfl ?_ ?_ ?_
      · go_wp2_with fail
        refine name_midw ?_
        intro q50 hn
        have hbq50 : Below q49.heap.size q49 q50 := by rw [hn]; exact (Below.refl _ _).alloc (Nat.le_refl _) _
        have zq50 : Blk q50 q49.heap.size #[.int .i64 0, .int .i64 0, .slice none 0 0] := by rw [hn]; exact Blk.new_ _ 27 _ rfl
        have seq50 : q49.heap.size < q50.heap.size := by rw [hn]; simp
        clear hn
        have Z22q50 := zq49.keep hbq50
        have bq50 : Below wx.heap.size wx q50 := bq49.trans (hbq50.mono bq49.size)
        have lq50 := hbq50.size
        refine mid_intro bq50 ?_
        refine gC_two (i := 20) (j := 21) (by kernel_rfl) rfl rfl ?_ ?_
        · go_wp2_with fail
          refine name_midw ?_
          intro q51 hn
          have hbq51 : Below q50.heap.size q50 q51 := by rw [hn]; exact (Below.refl _ _).alloc (Nat.le_refl _) _
          have zq51 : Blk q51 q50.heap.size #[.int .i64 0, .int .i64 0, .slice none 0 0] := by rw [hn]; exact Blk.new_ _ 27 _ rfl
          have seq51 : q50.heap.size < q51.heap.size := by rw [hn]; simp
          clear hn
          have Z22q51 := Z22q50.keep hbq51
          have Z19q51 := zq50.keep hbq51
          have bq51 : Below wx.heap.size wx q51 := bq50.trans (hbq51.mono bq50.size)
          have lq51 := hbq51.size
          refine mid_intro bq51 ?_
          refine gC_one (i := 21) (by kernel_rfl) rfl ?_
          · go_wp2_with fail
            refine name_midw ?_
            intro q52 hn
            have hbq52 : Below q51.heap.size q51 q52 := by rw [hn]; exact (Below.refl _ _).alloc (Nat.le_refl _) _
            have zq52 : Blk q52 q51.heap.size #[.int .i64 0, .int .i64 0, .slice none 0 0] := by rw [hn]; exact Blk.new_ _ 27 _ rfl
            have seq52 : q51.heap.size < q52.heap.size := by rw [hn]; simp
            clear hn
            have Z22q52 := Z22q51.keep hbq52
            have Z19q52 := Z19q51.keep hbq52
            have Z20q52 := zq51.keep hbq52
            have bq52 : Below wx.heap.size wx q52 := bq51.trans (hbq52.mono bq51.size)
            have lq52 := hbq52.size
            refine mid_intro bq52 ?_
            obtain ⟨d190, d191, d192⟩ := Z19q52.three
            have e190 := Z19q52.frozen 0
            have e191 := Z19q52.frozen 1
            have e192 := Z19q52.frozen 2
            have sb19 : wx.heap.size ≤ q49.heap.size := by first | exact bq0.size | exact bq49.size
            obtain ⟨d200, d201, d202⟩ := Z20q52.three
            have e200 := Z20q52.frozen 0
            have e201 := Z20q52.frozen 1
            have e202 := Z20q52.frozen 2
            have sb20 : wx.heap.size ≤ q50.heap.size := by first | exact bq0.size | exact bq50.size
            obtain ⟨d210, d211, d212⟩ := zq52.three
            have e210 := zq52.frozen 0
            have e211 := zq52.frozen 1
            have e212 := zq52.frozen 2
            have sb21 : wx.heap.size ≤ q51.heap.size := by first | exact bq0.size | exact bq51.size
            obtain ⟨d220, d221, d222⟩ := Z22q52.three
            have e220 := Z22q52.frozen 0
            have e221 := Z22q52.frozen 1
            have e222 := Z22q52.frozen 2
            have sb22 : wx.heap.size ≤ q0.heap.size := by first | exact bq0.size | exact bq0.size
            have n1920 : q49.heap.size ≠ q50.heap.size := by omega
            have n1921 : q49.heap.size ≠ q51.heap.size := by omega
            have n1922 : q49.heap.size ≠ q0.heap.size := by omega
            have n2019 : q50.heap.size ≠ q49.heap.size := by omega
            have n2021 : q50.heap.size ≠ q51.heap.size := by omega
            have n2022 : q50.heap.size ≠ q0.heap.size := by omega
            have n2119 : q51.heap.size ≠ q49.heap.size := by omega
            have n2120 : q51.heap.size ≠ q50.heap.size := by omega
            have n2122 : q51.heap.size ≠ q0.heap.size := by omega
            have n2219 : q0.heap.size ≠ q49.heap.size := by omega
            have n2220 : q0.heap.size ≠ q50.heap.size := by omega
            have n2221 : q0.heap.size ≠ q51.heap.size := by omega
            refine gC_one (i := 23) (by kernel_rfl) rfl ?_
            go_wp2_with fail
            refine mid_intro (((bq52.setCell (p := ⟨q49.heap.size, 0, none⟩) sb19 _).setCell (p := ⟨q49.heap.size, 1, none⟩) sb19 _).setCell (p := ⟨q49.heap.size, 2, none⟩) sb19 _) ?_
            refine gC_one (i := 24) (by kernel_rfl) rfl ?_
            go_wp2_with fail
            refine mid_intro ((((((bq52.setCell (p := ⟨q49.heap.size, 0, none⟩) sb19 _).setCell (p := ⟨q49.heap.size, 1, none⟩) sb19 _).setCell (p := ⟨q49.heap.size, 2, none⟩) sb19 _).setCell (p := ⟨q50.heap.size, 0, none⟩) sb20 _).setCell (p := ⟨q50.heap.size, 1, none⟩) sb20 _).setCell (p := ⟨q50.heap.size, 2, none⟩) sb20 _) ?_
            refine gC_one (i := 25) (by kernel_rfl) rfl ?_
            go_wp2_with fail
            refine mid_intro (((((((((bq52.setCell (p := ⟨q49.heap.size, 0, none⟩) sb19 _).setCell (p := ⟨q49.heap.size, 1, none⟩) sb19 _).setCell (p := ⟨q49.heap.size, 2, none⟩) sb19 _).setCell (p := ⟨q50.heap.size, 0, none⟩) sb20 _).setCell (p := ⟨q50.heap.size, 1, none⟩) sb20 _).setCell (p := ⟨q50.heap.size, 2, none⟩) sb20 _).setCell (p := ⟨q51.heap.size, 0, none⟩) sb21 _).setCell (p := ⟨q51.heap.size, 1, none⟩) sb21 _).setCell (p := ⟨q51.heap.size, 2, none⟩) sb21 _) ?_
            refine gC_end [26] (lB := [_]) (by simp) (by kernel_rfl) (by kernel_rfl) rfl ?_
            go_wp2_with fail
            go_meet
            exact ⟨q49.heap.size, q50.heap.size, q51.heap.size, q0.heap.size, rfl, rfl, rfl, rfl, ((((((((((((Z19q52.set_ 0 _).set_ 1 _).set_ 2 _).far (p := ⟨q50.heap.size, 0, none⟩) n1920 _).far (p := ⟨q50.heap.size, 1, none⟩) n1920 _).far (p := ⟨q50.heap.size, 2, none⟩) n1920 _).far (p := ⟨q51.heap.size, 0, none⟩) n1921 _).far (p := ⟨q51.heap.size, 1, none⟩) n1921 _).far (p := ⟨q51.heap.size, 2, none⟩) n1921 _).far (p := ⟨q0.heap.size, 0, none⟩) n1922 _).far (p := ⟨q0.heap.size, 1, none⟩) n1922 _).far (p := ⟨q0.heap.size, 2, none⟩) n1922 _), ((((((((((((Z20q52.far (p := ⟨q49.heap.size, 0, none⟩) n2019 _).far (p := ⟨q49.heap.size, 1, none⟩) n2019 _).far (p := ⟨q49.heap.size, 2, none⟩) n2019 _).set_ 0 _).set_ 1 _).set_ 2 _).far (p := ⟨q51.heap.size, 0, none⟩) n2021 _).far (p := ⟨q51.heap.size, 1, none⟩) n2021 _).far (p := ⟨q51.heap.size, 2, none⟩) n2021 _).far (p := ⟨q0.heap.size, 0, none⟩) n2022 _).far (p := ⟨q0.heap.size, 1, none⟩) n2022 _).far (p := ⟨q0.heap.size, 2, none⟩) n2022 _), ((((((((((((zq52.far (p := ⟨q49.heap.size, 0, none⟩) n2119 _).far (p := ⟨q49.heap.size, 1, none⟩) n2119 _).far (p := ⟨q49.heap.size, 2, none⟩) n2119 _).far (p := ⟨q50.heap.size, 0, none⟩) n2120 _).far (p := ⟨q50.heap.size, 1, none⟩) n2120 _).far (p := ⟨q50.heap.size, 2, none⟩) n2120 _).set_ 0 _).set_ 1 _).set_ 2 _).far (p := ⟨q0.heap.size, 0, none⟩) n2122 _).far (p := ⟨q0.heap.size, 1, none⟩) n2122 _).far (p := ⟨q0.heap.size, 2, none⟩) n2122 _), ((((((((((((Z22q52.far (p := ⟨q49.heap.size, 0, none⟩) n2219 _).far (p := ⟨q49.heap.size, 1, none⟩) n2219 _).far (p := ⟨q49.heap.size, 2, none⟩) n2219 _).far (p := ⟨q50.heap.size, 0, none⟩) n2220 _).far (p := ⟨q50.heap.size, 1, none⟩) n2220 _).far (p := ⟨q50.heap.size, 2, none⟩) n2220 _).far (p := ⟨q51.heap.size, 0, none⟩) n2221 _).far (p := ⟨q51.heap.size, 1, none⟩) n2221 _).far (p := ⟨q51.heap.size, 2, none⟩) n2221 _).set_ 0 _).set_ 1 _).set_ 2 _), ((((((((((((bq52.setCell (p := ⟨q49.heap.size, 0, none⟩) sb19 _).setCell (p := ⟨q49.heap.size, 1, none⟩) sb19 _).setCell (p := ⟨q49.heap.size, 2, none⟩) sb19 _).setCell (p := ⟨q50.heap.size, 0, none⟩) sb20 _).setCell (p := ⟨q50.heap.size, 1, none⟩) sb20 _).setCell (p := ⟨q50.heap.size, 2, none⟩) sb20 _).setCell (p := ⟨q51.heap.size, 0, none⟩) sb21 _).setCell (p := ⟨q51.heap.size, 1, none⟩) sb21 _).setCell (p := ⟨q51.heap.size, 2, none⟩) sb21 _).setCell (p := ⟨q0.heap.size, 0, none⟩) sb22 _).setCell (p := ⟨q0.heap.size, 1, none⟩) sb22 _).setCell (p := ⟨q0.heap.size, 2, none⟩) sb22 _)⟩
        · go_wp2_with fail
          refine name_midw ?_
          intro q53 hn
          have hbq53 : Below q50.heap.size q50 q53 := by rw [hn]; exact (Below.refl _ _).alloc (Nat.le_refl _) _
          have zq53 : Blk q53 q50.heap.size #[.int .i64 0, .int .i64 0, .slice none 0 0] := by rw [hn]; exact Blk.new_ _ 27 _ rfl
          have seq53 : q50.heap.size < q53.heap.size := by rw [hn]; simp
          clear hn
          have Z22q53 := Z22q50.keep hbq53
          have Z19q53 := zq50.keep hbq53
          have bq53 : Below wx.heap.size wx q53 := bq50.trans (hbq53.mono bq50.size)
          have lq53 := hbq53.size
          refine mid_intro bq53 ?_
          refine gC_one (i := 20) (by kernel_rfl) rfl ?_
          · go_wp2_with fail
            refine name_midw ?_
            intro q54 hn
            have hbq54 : Below q53.heap.size q53 q54 := by rw [hn]; exact (Below.refl _ _).alloc (Nat.le_refl _) _
            have zq54 : Blk q54 q53.heap.size #[.int .i64 0, .int .i64 0, .slice none 0 0] := by rw [hn]; exact Blk.new_ _ 27 _ rfl
            have seq54 : q53.heap.size < q54.heap.size := by rw [hn]; simp
            clear hn
            have Z22q54 := Z22q53.keep hbq54
            have Z19q54 := Z19q53.keep hbq54
            have Z21q54 := zq53.keep hbq54
            have bq54 : Below wx.heap.size wx q54 := bq53.trans (hbq54.mono bq53.size)
            have lq54 := hbq54.size
            refine mid_intro bq54 ?_
            obtain ⟨d190, d191, d192⟩ := Z19q54.three
            have e190 := Z19q54.frozen 0
            have e191 := Z19q54.frozen 1
            have e192 := Z19q54.frozen 2
            have sb19 : wx.heap.size ≤ q49.heap.size := by first | exact bq0.size | exact bq49.size
            obtain ⟨d200, d201, d202⟩ := zq54.three
            have e200 := zq54.frozen 0
            have e201 := zq54.frozen 1
            have e202 := zq54.frozen 2
            have sb20 : wx.heap.size ≤ q53.heap.size := by first | exact bq0.size | exact bq53.size
            obtain ⟨d210, d211, d212⟩ := Z21q54.three
            have e210 := Z21q54.frozen 0
            have e211 := Z21q54.frozen 1
            have e212 := Z21q54.frozen 2
            have sb21 : wx.heap.size ≤ q50.heap.size := by first | exact bq0.size | exact bq50.size
            obtain ⟨d220, d221, d222⟩ := Z22q54.three
            have e220 := Z22q54.frozen 0
            have e221 := Z22q54.frozen 1
            have e222 := Z22q54.frozen 2
            have sb22 : wx.heap.size ≤ q0.heap.size := by first | exact bq0.size | exact bq0.size
            have n1920 : q49.heap.size ≠ q53.heap.size := by omega
            have n1921 : q49.heap.size ≠ q50.heap.size := by omega
            have n1922 : q49.heap.size ≠ q0.heap.size := by omega
            have n2019 : q53.heap.size ≠ q49.heap.size := by omega
            have n2021 : q53.heap.size ≠ q50.heap.size := by omega
            have n2022 : q53.heap.size ≠ q0.heap.size := by omega
            have n2119 : q50.heap.size ≠ q49.heap.size := by omega
            have n2120 : q50.heap.size ≠ q53.heap.size := by omega
            have n2122 : q50.heap.size ≠ q0.heap.size := by omega
            have n2219 : q0.heap.size ≠ q49.heap.size := by omega
            have n2220 : q0.heap.size ≠ q53.heap.size := by omega
            have n2221 : q0.heap.size ≠ q50.heap.size := by omega
            refine gC_one (i := 23) (by kernel_rfl) rfl ?_
            go_wp2_with fail
            refine mid_intro (((bq54.setCell (p := ⟨q49.heap.size, 0, none⟩) sb19 _).setCell (p := ⟨q49.heap.size, 1, none⟩) sb19 _).setCell (p := ⟨q49.heap.size, 2, none⟩) sb19 _) ?_
            refine gC_one (i := 24) (by kernel_rfl) rfl ?_
            go_wp2_with fail
            refine mid_intro ((((((bq54.setCell (p := ⟨q49.heap.size, 0, none⟩) sb19 _).setCell (p := ⟨q49.heap.size, 1, none⟩) sb19 _).setCell (p := ⟨q49.heap.size, 2, none⟩) sb19 _).setCell (p := ⟨q53.heap.size, 0, none⟩) sb20 _).setCell (p := ⟨q53.heap.size, 1, none⟩) sb20 _).setCell (p := ⟨q53.heap.size, 2, none⟩) sb20 _) ?_
            refine gC_one (i := 25) (by kernel_rfl) rfl ?_
            go_wp2_with fail
            refine mid_intro (((((((((bq54.setCell (p := ⟨q49.heap.size, 0, none⟩) sb19 _).setCell (p := ⟨q49.heap.size, 1, none⟩) sb19 _).setCell (p := ⟨q49.heap.size, 2, none⟩) sb19 _).setCell (p := ⟨q53.heap.size, 0, none⟩) sb20 _).setCell (p := ⟨q53.heap.size, 1, none⟩) sb20 _).setCell (p := ⟨q53.heap.size, 2, none⟩) sb20 _).setCell (p := ⟨q50.heap.size, 0, none⟩) sb21 _).setCell (p := ⟨q50.heap.size, 1, none⟩) sb21 _).setCell (p := ⟨q50.heap.size, 2, none⟩) sb21 _) ?_
            refine gC_end [26] (lB := [_]) (by simp) (by kernel_rfl) (by kernel_rfl) rfl ?_
            go_wp2_with fail
            go_meet
            exact ⟨q49.heap.size, q53.heap.size, q50.heap.size, q0.heap.size, rfl, rfl, rfl, rfl, ((((((((((((Z19q54.set_ 0 _).set_ 1 _).set_ 2 _).far (p := ⟨q53.heap.size, 0, none⟩) n1920 _).far (p := ⟨q53.heap.size, 1, none⟩) n1920 _).far (p := ⟨q53.heap.size, 2, none⟩) n1920 _).far (p := ⟨q50.heap.size, 0, none⟩) n1921 _).far (p := ⟨q50.heap.size, 1, none⟩) n1921 _).far (p := ⟨q50.heap.size, 2, none⟩) n1921 _).far (p := ⟨q0.heap.size, 0, none⟩) n1922 _).far (p := ⟨q0.heap.size, 1, none⟩) n1922 _).far (p := ⟨q0.heap.size, 2, none⟩) n1922 _), ((((((((((((zq54.far (p := ⟨q49.heap.size, 0, none⟩) n2019 _).far (p := ⟨q49.heap.size, 1, none⟩) n2019 _).far (p := ⟨q49.heap.size, 2, none⟩) n2019 _).set_ 0 _).set_ 1 _).set_ 2 _).far (p := ⟨q50.heap.size, 0, none⟩) n2021 _).far (p := ⟨q50.heap.size, 1, none⟩) n2021 _).far (p := ⟨q50.heap.size, 2, none⟩) n2021 _).far (p := ⟨q0.heap.size, 0, none⟩) n2022 _).far (p := ⟨q0.heap.size, 1, none⟩) n2022 _).far (p := ⟨q0.heap.size, 2, none⟩) n2022 _), ((((((((((((Z21q54.far (p := ⟨q49.heap.size, 0, none⟩) n2119 _).far (p := ⟨q49.heap.size, 1, none⟩) n2119 _).far (p := ⟨q49.heap.size, 2, none⟩) n2119 _).far (p := ⟨q53.heap.size, 0, none⟩) n2120 _).far (p := ⟨q53.heap.size, 1, none⟩) n2120 _).far (p := ⟨q53.heap.size, 2, none⟩) n2120 _).set_ 0 _).set_ 1 _).set_ 2 _).far (p := ⟨q0.heap.size, 0, none⟩) n2122 _).far (p := ⟨q0.heap.size, 1, none⟩) n2122 _).far (p := ⟨q0.heap.size, 2, none⟩) n2122 _), ((((((((((((Z22q54.far (p := ⟨q49.heap.size, 0, none⟩) n2219 _).far (p := ⟨q49.heap.size, 1, none⟩) n2219 _).far (p := ⟨q49.heap.size, 2, none⟩) n2219 _).far (p := ⟨q53.heap.size, 0, none⟩) n2220 _).far (p := ⟨q53.heap.size, 1, none⟩) n2220 _).far (p := ⟨q53.heap.size, 2, none⟩) n2220 _).far (p := ⟨q50.heap.size, 0, none⟩) n2221 _).far (p := ⟨q50.heap.size, 1, none⟩) n2221 _).far (p := ⟨q50.heap.size, 2, none⟩) n2221 _).set_ 0 _).set_ 1 _).set_ 2 _), ((((((((((((bq54.setCell (p := ⟨q49.heap.size, 0, none⟩) sb19 _).setCell (p := ⟨q49.heap.size, 1, none⟩) sb19 _).setCell (p := ⟨q49.heap.size, 2, none⟩) sb19 _).setCell (p := ⟨q53.heap.size, 0, none⟩) sb20 _).setCell (p := ⟨q53.heap.size, 1, none⟩) sb20 _).setCell (p := ⟨q53.heap.size, 2, none⟩) sb20 _).setCell (p := ⟨q50.heap.size, 0, none⟩) sb21 _).setCell (p := ⟨q50.heap.size, 1, none⟩) sb21 _).setCell (p := ⟨q50.heap.size, 2, none⟩) sb21 _).setCell (p := ⟨q0.heap.size, 0, none⟩) sb22 _).setCell (p := ⟨q0.heap.size, 1, none⟩) sb22 _).setCell (p := ⟨q0.heap.size, 2, none⟩) sb22 _)⟩
      · go_wp2_with fail
        refine name_midw ?_
        intro q55 hn
        have hbq55 : Below q49.heap.size q49 q55 := by rw [hn]; exact (Below.refl _ _).alloc (Nat.le_refl _) _
        have zq55 : Blk q55 q49.heap.size #[.int .i64 0, .int .i64 0, .slice none 0 0] := by rw [hn]; exact Blk.new_ _ 27 _ rfl
        have seq55 : q49.heap.size < q55.heap.size := by rw [hn]; simp
        clear hn
        have Z22q55 := zq49.keep hbq55
        have bq55 : Below wx.heap.size wx q55 := bq49.trans (hbq55.mono bq49.size)
        have lq55 := hbq55.size
        refine mid_intro bq55 ?_
        refine gC_two (i := 19) (j := 21) (by kernel_rfl) rfl rfl ?_ ?_
        · go_wp2_with fail
          refine name_midw ?_
          intro q56 hn
          have hbq56 : Below q55.heap.size q55 q56 := by rw [hn]; exact (Below.refl _ _).alloc (Nat.le_refl _) _
          have zq56 : Blk q56 q55.heap.size #[.int .i64 0, .int .i64 0, .slice none 0 0] := by rw [hn]; exact Blk.new_ _ 27 _ rfl
          have seq56 : q55.heap.size < q56.heap.size := by rw [hn]; simp
          clear hn
          have Z22q56 := Z22q55.keep hbq56
          have Z20q56 := zq55.keep hbq56
          have bq56 : Below wx.heap.size wx q56 := bq55.trans (hbq56.mono bq55.size)
          have lq56 := hbq56.size
          refine mid_intro bq56 ?_
          refine gC_one (i := 21) (by kernel_rfl) rfl ?_
          · go_wp2_with fail
            refine name_midw ?_
            intro q57 hn
            have hbq57 : Below q56.heap.size q56 q57 := by rw [hn]; exact (Below.refl _ _).alloc (Nat.le_refl _) _
            have zq57 : Blk q57 q56.heap.size #[.int .i64 0, .int .i64 0, .slice none 0 0] := by rw [hn]; exact Blk.new_ _ 27 _ rfl
            have seq57 : q56.heap.size < q57.heap.size := by rw [hn]; simp
            clear hn
            have Z22q57 := Z22q56.keep hbq57
            have Z20q57 := Z20q56.keep hbq57
            have Z19q57 := zq56.keep hbq57
            have bq57 : Below wx.heap.size wx q57 := bq56.trans (hbq57.mono bq56.size)
            have lq57 := hbq57.size
            refine mid_intro bq57 ?_
            obtain ⟨d190, d191, d192⟩ := Z19q57.three
            have e190 := Z19q57.frozen 0
            have e191 := Z19q57.frozen 1
            have e192 := Z19q57.frozen 2
            have sb19 : wx.heap.size ≤ q55.heap.size := by first | exact bq0.size | exact bq55.size
            obtain ⟨d200, d201, d202⟩ := Z20q57.three
            have e200 := Z20q57.frozen 0
            have e201 := Z20q57.frozen 1
            have e202 := Z20q57.frozen 2
            have sb20 : wx.heap.size ≤ q49.heap.size := by first | exact bq0.size | exact bq49.size
            obtain ⟨d210, d211, d212⟩ := zq57.three
            have e210 := zq57.frozen 0
            have e211 := zq57.frozen 1
            have e212 := zq57.frozen 2
            have sb21 : wx.heap.size ≤ q56.heap.size := by first | exact bq0.size | exact bq56.size
            obtain ⟨d220, d221, d222⟩ := Z22q57.three
            have e220 := Z22q57.frozen 0
            have e221 := Z22q57.frozen 1
            have e222 := Z22q57.frozen 2
            have sb22 : wx.heap.size ≤ q0.heap.size := by first | exact bq0.size | exact bq0.size
            have n1920 : q55.heap.size ≠ q49.heap.size := by omega
            have n1921 : q55.heap.size ≠ q56.heap.size := by omega
            have n1922 : q55.heap.size ≠ q0.heap.size := by omega
            have n2019 : q49.heap.size ≠ q55.heap.size := by omega
            have n2021 : q49.heap.size ≠ q56.heap.size := by omega
            have n2022 : q49.heap.size ≠ q0.heap.size := by omega
            have n2119 : q56.heap.size ≠ q55.heap.size := by omega
            have n2120 : q56.heap.size ≠ q49.heap.size := by omega
            have n2122 : q56.heap.size ≠ q0.heap.size := by omega
            have n2219 : q0.heap.size ≠ q55.heap.size := by omega
            have n2220 : q0.heap.size ≠ q49.heap.size := by omega
            have n2221 : q0.heap.size ≠ q56.heap.size := by omega
            refine gC_one (i := 23) (by kernel_rfl) rfl ?_
            go_wp2_with fail
            refine mid_intro (((bq57.setCell (p := ⟨q55.heap.size, 0, none⟩) sb19 _).setCell (p := ⟨q55.heap.size, 1, none⟩) sb19 _).setCell (p := ⟨q55.heap.size, 2, none⟩) sb19 _) ?_
            refine gC_one (i := 24) (by kernel_rfl) rfl ?_
            go_wp2_with fail
            refine mid_intro ((((((bq57.setCell (p := ⟨q55.heap.size, 0, none⟩) sb19 _).setCell (p := ⟨q55.heap.size, 1, none⟩) sb19 _).setCell (p := ⟨q55.heap.size, 2, none⟩) sb19 _).setCell (p := ⟨q49.heap.size, 0, none⟩) sb20 _).setCell (p := ⟨q49.heap.size, 1, none⟩) sb20 _).setCell (p := ⟨q49.heap.size, 2, none⟩) sb20 _) ?_
            refine gC_one (i := 25) (by kernel_rfl) rfl ?_
            go_wp2_with fail
            refine mid_intro (((((((((bq57.setCell (p := ⟨q55.heap.size, 0, none⟩) sb19 _).setCell (p := ⟨q55.heap.size, 1, none⟩) sb19 _).setCell (p := ⟨q55.heap.size, 2, none⟩) sb19 _).setCell (p := ⟨q49.heap.size, 0, none⟩) sb20 _).setCell (p := ⟨q49.heap.size, 1, none⟩) sb20 _).setCell (p := ⟨q49.heap.size, 2, none⟩) sb20 _).setCell (p := ⟨q56.heap.size, 0, none⟩) sb21 _).setCell (p := ⟨q56.heap.size, 1, none⟩) sb21 _).setCell (p := ⟨q56.heap.size, 2, none⟩) sb21 _) ?_
            refine gC_end [26] (lB := [_]) (by simp) (by kernel_rfl) (by kernel_rfl) rfl ?_
            go_wp2_with fail
            go_meet
            exact ⟨q55.heap.size, q49.heap.size, q56.heap.size, q0.heap.size, rfl, rfl, rfl, rfl, ((((((((((((Z19q57.set_ 0 _).set_ 1 _).set_ 2 _).far (p := ⟨q49.heap.size, 0, none⟩) n1920 _).far (p := ⟨q49.heap.size, 1, none⟩) n1920 _).far (p := ⟨q49.heap.size, 2, none⟩) n1920 _).far (p := ⟨q56.heap.size, 0, none⟩) n1921 _).far (p := ⟨q56.heap.size, 1, none⟩) n1921 _).far (p := ⟨q56.heap.size, 2, none⟩) n1921 _).far (p := ⟨q0.heap.size, 0, none⟩) n1922 _).far (p := ⟨q0.heap.size, 1, none⟩) n1922 _).far (p := ⟨q0.heap.size, 2, none⟩) n1922 _), ((((((((((((Z20q57.far (p := ⟨q55.heap.size, 0, none⟩) n2019 _).far (p := ⟨q55.heap.size, 1, none⟩) n2019 _).far (p := ⟨q55.heap.size, 2, none⟩) n2019 _).set_ 0 _).set_ 1 _).set_ 2 _).far (p := ⟨q56.heap.size, 0, none⟩) n2021 _).far (p := ⟨q56.heap.size, 1, none⟩) n2021 _).far (p := ⟨q56.heap.size, 2, none⟩) n2021 _).far (p := ⟨q0.heap.size, 0, none⟩) n2022 _).far (p := ⟨q0.heap.size, 1, none⟩) n2022 _).far (p := ⟨q0.heap.size, 2, none⟩) n2022 _), ((((((((((((zq57.far (p := ⟨q55.heap.size, 0, none⟩) n2119 _).far (p := ⟨q55.heap.size, 1, none⟩) n2119 _).far (p := ⟨q55.heap.size, 2, none⟩) n2119 _).far (p := ⟨q49.heap.size, 0, none⟩) n2120 _).far (p := ⟨q49.heap.size, 1, none⟩) n2120 _).far (p := ⟨q49.heap.size, 2, none⟩) n2120 _).set_ 0 _).set_ 1 _).set_ 2 _).far (p := ⟨q0.heap.size, 0, none⟩) n2122 _).far (p := ⟨q0.heap.size, 1, none⟩) n2122 _).far (p := ⟨q0.heap.size, 2, none⟩) n2122 _), ((((((((((((Z22q57.far (p := ⟨q55.heap.size, 0, none⟩) n2219 _).far (p := ⟨q55.heap.size, 1, none⟩) n2219 _).far (p := ⟨q55.heap.size, 2, none⟩) n2219 _).far (p := ⟨q49.heap.size, 0, none⟩) n2220 _).far (p := ⟨q49.heap.size, 1, none⟩) n2220 _).far (p := ⟨q49.heap.size, 2, none⟩) n2220 _).far (p := ⟨q56.heap.size, 0, none⟩) n2221 _).far (p := ⟨q56.heap.size, 1, none⟩) n2221 _).far (p := ⟨q56.heap.size, 2, none⟩) n2221 _).set_ 0 _).set_ 1 _).set_ 2 _), ((((((((((((bq57.setCell (p := ⟨q55.heap.size, 0, none⟩) sb19 _).setCell (p := ⟨q55.heap.size, 1, none⟩) sb19 _).setCell (p := ⟨q55.heap.size, 2, none⟩) sb19 _).setCell (p := ⟨q49.heap.size, 0, none⟩) sb20 _).setCell (p := ⟨q49.heap.size, 1, none⟩) sb20 _).setCell (p := ⟨q49.heap.size, 2, none⟩) sb20 _).setCell (p := ⟨q56.heap.size, 0, none⟩) sb21 _).setCell (p := ⟨q56.heap.size, 1, none⟩) sb21 _).setCell (p := ⟨q56.heap.size, 2, none⟩) sb21 _).setCell (p := ⟨q0.heap.size, 0, none⟩) sb22 _).setCell (p := ⟨q0.heap.size, 1, none⟩) sb22 _).setCell (p := ⟨q0.heap.size, 2, none⟩) sb22 _)⟩
        · go_wp2_with fail
          refine name_midw ?_
          intro q58 hn
          have hbq58 : Below q55.heap.size q55 q58 := by rw [hn]; exact (Below.refl _ _).alloc (Nat.le_refl _) _
          have zq58 : Blk q58 q55.heap.size #[.int .i64 0, .int .i64 0, .slice none 0 0] := by rw [hn]; exact Blk.new_ _ 27 _ rfl
          have seq58 : q55.heap.size < q58.heap.size := by rw [hn]; simp
          clear hn
          have Z22q58 := Z22q55.keep hbq58
          have Z20q58 := zq55.keep hbq58
          have bq58 : Below wx.heap.size wx q58 := bq55.trans (hbq58.mono bq55.size)
          have lq58 := hbq58.size
          refine mid_intro bq58 ?_
          refine gC_one (i := 19) (by kernel_rfl) rfl ?_
          · go_wp2_with fail
            refine name_midw ?_
            intro q59 hn
            have hbq59 : Below q58.heap.size q58 q59 := by rw [hn]; exact (Below.refl _ _).alloc (Nat.le_refl _) _
            have zq59 : Blk q59 q58.heap.size #[.int .i64 0, .int .i64 0, .slice none 0 0] := by rw [hn]; exact Blk.new_ _ 27 _ rfl
            have seq59 : q58.heap.size < q59.heap.size := by rw [hn]; simp
            clear hn
            have Z22q59 := Z22q58.keep hbq59
            have Z20q59 := Z20q58.keep hbq59
            have Z21q59 := zq58.keep hbq59
            have bq59 : Below wx.heap.size wx q59 := bq58.trans (hbq59.mono bq58.size)
            have lq59 := hbq59.size
            refine mid_intro bq59 ?_
            obtain ⟨d190, d191, d192⟩ := zq59.three
            have e190 := zq59.frozen 0
            have e191 := zq59.frozen 1
            have e192 := zq59.frozen 2
            have sb19 : wx.heap.size ≤ q58.heap.size := by first | exact bq0.size | exact bq58.size
            obtain ⟨d200, d201, d202⟩ := Z20q59.three
            have e200 := Z20q59.frozen 0
            have e201 := Z20q59.frozen 1
            have e202 := Z20q59.frozen 2
            have sb20 : wx.heap.size ≤ q49.heap.size := by first | exact bq0.size | exact bq49.size
            obtain ⟨d210, d211, d212⟩ := Z21q59.three
            have e210 := Z21q59.frozen 0
            have e211 := Z21q59.frozen 1
            have e212 := Z21q59.frozen 2
            have sb21 : wx.heap.size ≤ q55.heap.size := by first | exact bq0.size | exact bq55.size
            obtain ⟨d220, d221, d222⟩ := Z22q59.three
            have e220 := Z22q59.frozen 0
            have e221 := Z22q59.frozen 1
            have e222 := Z22q59.frozen 2
            have sb22 : wx.heap.size ≤ q0.heap.size := by first | exact bq0.size | exact bq0.size
            have n1920 : q58.heap.size ≠ q49.heap.size := by omega
            have n1921 : q58.heap.size ≠ q55.heap.size := by omega
            have n1922 : q58.heap.size ≠ q0.heap.size := by omega
            have n2019 : q49.heap.size ≠ q58.heap.size := by omega
            have n2021 : q49.heap.size ≠ q55.heap.size := by omega
            have n2022 : q49.heap.size ≠ q0.heap.size := by omega
            have n2119 : q55.heap.size ≠ q58.heap.size := by omega
            have n2120 : q55.heap.size ≠ q49.heap.size := by omega
            have n2122 : q55.heap.size ≠ q0.heap.size := by omega
            have n2219 : q0.heap.size ≠ q58.heap.size := by omega
            have n2220 : q0.heap.size ≠ q49.heap.size := by omega
            have n2221 : q0.heap.size ≠ q55.heap.size := by omega
            refine gC_one (i := 23) (by kernel_rfl) rfl ?_
            go_wp2_with fail
            refine mid_intro (((bq59.setCell (p := ⟨q58.heap.size, 0, none⟩) sb19 _).setCell (p := ⟨q58.heap.size, 1, none⟩) sb19 _).setCell (p := ⟨q58.heap.size, 2, none⟩) sb19 _) ?_
            refine gC_one (i := 24) (by kernel_rfl) rfl ?_
            go_wp2_with fail
            refine mid_intro ((((((bq59.setCell (p := ⟨q58.heap.size, 0, none⟩) sb19 _).setCell (p := ⟨q58.heap.size, 1, none⟩) sb19 _).setCell (p := ⟨q58.heap.size, 2, none⟩) sb19 _).setCell (p := ⟨q49.heap.size, 0, none⟩) sb20 _).setCell (p := ⟨q49.heap.size, 1, none⟩) sb20 _).setCell (p := ⟨q49.heap.size, 2, none⟩) sb20 _) ?_
            refine gC_one (i := 25) (by kernel_rfl) rfl ?_
            go_wp2_with fail
            refine mid_intro (((((((((bq59.setCell (p := ⟨q58.heap.size, 0, none⟩) sb19 _).setCell (p := ⟨q58.heap.size, 1, none⟩) sb19 _).setCell (p := ⟨q58.heap.size, 2, none⟩) sb19 _).setCell (p := ⟨q49.heap.size, 0, none⟩) sb20 _).setCell (p := ⟨q49.heap.size, 1, none⟩) sb20 _).setCell (p := ⟨q49.heap.size, 2, none⟩) sb20 _).setCell (p := ⟨q55.heap.size, 0, none⟩) sb21 _).setCell (p := ⟨q55.heap.size, 1, none⟩) sb21 _).setCell (p := ⟨q55.heap.size, 2, none⟩) sb21 _) ?_
            refine gC_end [26] (lB := [_]) (by simp) (by kernel_rfl) (by kernel_rfl) rfl ?_
            go_wp2_with fail
            go_meet
            exact ⟨q58.heap.size, q49.heap.size, q55.heap.size, q0.heap.size, rfl, rfl, rfl, rfl, ((((((((((((zq59.set_ 0 _).set_ 1 _).set_ 2 _).far (p := ⟨q49.heap.size, 0, none⟩) n1920 _).far (p := ⟨q49.heap.size, 1, none⟩) n1920 _).far (p := ⟨q49.heap.size, 2, none⟩) n1920 _).far (p := ⟨q55.heap.size, 0, none⟩) n1921 _).far (p := ⟨q55.heap.size, 1, none⟩) n1921 _).far (p := ⟨q55.heap.size, 2, none⟩) n1921 _).far (p := ⟨q0.heap.size, 0, none⟩) n1922 _).far (p := ⟨q0.heap.size, 1, none⟩) n1922 _).far (p := ⟨q0.heap.size, 2, none⟩) n1922 _), ((((((((((((Z20q59.far (p := ⟨q58.heap.size, 0, none⟩) n2019 _).far (p := ⟨q58.heap.size, 1, none⟩) n2019 _).far (p := ⟨q58.heap.size, 2, none⟩) n2019 _).set_ 0 _).set_ 1 _).set_ 2 _).far (p := ⟨q55.heap.size, 0, none⟩) n2021 _).far (p := ⟨q55.heap.size, 1, none⟩) n2021 _).far (p := ⟨q55.heap.size, 2, none⟩) n2021 _).far (p := ⟨q0.heap.size, 0, none⟩) n2022 _).far (p := ⟨q0.heap.size, 1, none⟩) n2022 _).far (p := ⟨q0.heap.size, 2, none⟩) n2022 _), ((((((((((((Z21q59.far (p := ⟨q58.heap.size, 0, none⟩) n2119 _).far (p := ⟨q58.heap.size, 1, none⟩) n2119 _).far (p := ⟨q58.heap.size, 2, none⟩) n2119 _).far (p := ⟨q49.heap.size, 0, none⟩) n2120 _).far (p := ⟨q49.heap.size, 1, none⟩) n2120 _).far (p := ⟨q49.heap.size, 2, none⟩) n2120 _).set_ 0 _).set_ 1 _).set_ 2 _).far (p := ⟨q0.heap.size, 0, none⟩) n2122 _).far (p := ⟨q0.heap.size, 1, none⟩) n2122 _).far (p := ⟨q0.heap.size, 2, none⟩) n2122 _), ((((((((((((Z22q59.far (p := ⟨q58.heap.size, 0, none⟩) n2219 _).far (p := ⟨q58.heap.size, 1, none⟩) n2219 _).far (p := ⟨q58.heap.size, 2, none⟩) n2219 _).far (p := ⟨q49.heap.size, 0, none⟩) n2220 _).far (p := ⟨q49.heap.size, 1, none⟩) n2220 _).far (p := ⟨q49.heap.size, 2, none⟩) n2220 _).far (p := ⟨q55.heap.size, 0, none⟩) n2221 _).far (p := ⟨q55.heap.size, 1, none⟩) n2221 _).far (p := ⟨q55.heap.size, 2, none⟩) n2221 _).set_ 0 _).set_ 1 _).set_ 2 _), ((((((((((((bq59.setCell (p := ⟨q58.heap.size, 0, none⟩) sb19 _).setCell (p := ⟨q58.heap.size, 1, none⟩) sb19 _).setCell (p := ⟨q58.heap.size, 2, none⟩) sb19 _).setCell (p := ⟨q49.heap.size, 0, none⟩) sb20 _).setCell (p := ⟨q49.heap.size, 1, none⟩) sb20 _).setCell (p := ⟨q49.heap.size, 2, none⟩) sb20 _).setCell (p := ⟨q55.heap.size, 0, none⟩) sb21 _).setCell (p := ⟨q55.heap.size, 1, none⟩) sb21 _).setCell (p := ⟨q55.heap.size, 2, none⟩) sb21 _).setCell (p := ⟨q0.heap.size, 0, none⟩) sb22 _).setCell (p := ⟨q0.heap.size, 1, none⟩) sb22 _).setCell (p := ⟨q0.heap.size, 2, none⟩) sb22 _)⟩
      · go_wp2_with fail
        refine name_midw ?_
        intro q60 hn
        have hbq60 : Below q49.heap.size q49 q60 := by rw [hn]; exact (Below.refl _ _).alloc (Nat.le_refl _) _
        have zq60 : Blk q60 q49.heap.size #[.int .i64 0, .int .i64 0, .slice none 0 0] := by rw [hn]; exact Blk.new_ _ 27 _ rfl
        have seq60 : q49.heap.size < q60.heap.size := by rw [hn]; simp
        clear hn
        have Z22q60 := zq49.keep hbq60
        have bq60 : Below wx.heap.size wx q60 := bq49.trans (hbq60.mono bq49.size)
        have lq60 := hbq60.size
        refine mid_intro bq60 ?_
        refine gC_two (i := 19) (j := 20) (by kernel_rfl) rfl rfl ?_ ?_
        · go_wp2_with fail
          refine name_midw ?_
          intro q61 hn
          have hbq61 : Below q60.heap.size q60 q61 := by rw [hn]; exact (Below.refl _ _).alloc (Nat.le_refl _) _
          have zq61 : Blk q61 q60.heap.size #[.int .i64 0, .int .i64 0, .slice none 0 0] := by rw [hn]; exact Blk.new_ _ 27 _ rfl
          have seq61 : q60.heap.size < q61.heap.size := by rw [hn]; simp
          clear hn
          have Z22q61 := Z22q60.keep hbq61
          have Z21q61 := zq60.keep hbq61
          have bq61 : Below wx.heap.size wx q61 := bq60.trans (hbq61.mono bq60.size)
          have lq61 := hbq61.size
          refine mid_intro bq61 ?_
          refine gC_one (i := 20) (by kernel_rfl) rfl ?_
          · go_wp2_with fail
            refine name_midw ?_
            intro q62 hn
            have hbq62 : Below q61.heap.size q61 q62 := by rw [hn]; exact (Below.refl _ _).alloc (Nat.le_refl _) _
            have zq62 : Blk q62 q61.heap.size #[.int .i64 0, .int .i64 0, .slice none 0 0] := by rw [hn]; exact Blk.new_ _ 27 _ rfl
            have seq62 : q61.heap.size < q62.heap.size := by rw [hn]; simp
            clear hn
            have Z22q62 := Z22q61.keep hbq62
            have Z21q62 := Z21q61.keep hbq62
            have Z19q62 := zq61.keep hbq62
            have bq62 : Below wx.heap.size wx q62 := bq61.trans (hbq62.mono bq61.size)
            have lq62 := hbq62.size
            refine mid_intro bq62 ?_
            obtain ⟨d190, d191, d192⟩ := Z19q62.three
            have e190 := Z19q62.frozen 0
            have e191 := Z19q62.frozen 1
            have e192 := Z19q62.frozen 2
            have sb19 : wx.heap.size ≤ q60.heap.size := by first | exact bq0.size | exact bq60.size
            obtain ⟨d200, d201, d202⟩ := zq62.three
            have e200 := zq62.frozen 0
            have e201 := zq62.frozen 1
            have e202 := zq62.frozen 2
            have sb20 : wx.heap.size ≤ q61.heap.size := by first | exact bq0.size | exact bq61.size
            obtain ⟨d210, d211, d212⟩ := Z21q62.three
            have e210 := Z21q62.frozen 0
            have e211 := Z21q62.frozen 1
            have e212 := Z21q62.frozen 2
            have sb21 : wx.heap.size ≤ q49.heap.size := by first | exact bq0.size | exact bq49.size
            obtain ⟨d220, d221, d222⟩ := Z22q62.three
            have e220 := Z22q62.frozen 0
            have e221 := Z22q62.frozen 1
            have e222 := Z22q62.frozen 2
            have sb22 : wx.heap.size ≤ q0.heap.size := by first | exact bq0.size | exact bq0.size
            have n1920 : q60.heap.size ≠ q61.heap.size := by omega
            have n1921 : q60.heap.size ≠ q49.heap.size := by omega
            have n1922 : q60.heap.size ≠ q0.heap.size := by omega
            have n2019 : q61.heap.size ≠ q60.heap.size := by omega
            have n2021 : q61.heap.size ≠ q49.heap.size := by omega
            have n2022 : q61.heap.size ≠ q0.heap.size := by omega
            have n2119 : q49.heap.size ≠ q60.heap.size := by omega
            have n2120 : q49.heap.size ≠ q61.heap.size := by omega
            have n2122 : q49.heap.size ≠ q0.heap.size := by omega
            have n2219 : q0.heap.size ≠ q60.heap.size := by omega
            have n2220 : q0.heap.size ≠ q61.heap.size := by omega
            have n2221 : q0.heap.size ≠ q49.heap.size := by omega
            refine gC_one (i := 23) (by kernel_rfl) rfl ?_
            go_wp2_with fail
            refine mid_intro (((bq62.setCell (p := ⟨q60.heap.size, 0, none⟩) sb19 _).setCell (p := ⟨q60.heap.size, 1, none⟩) sb19 _).setCell (p := ⟨q60.heap.size, 2, none⟩) sb19 _) ?_
            refine gC_one (i := 24) (by kernel_rfl) rfl ?_
            go_wp2_with fail
            refine mid_intro ((((((bq62.setCell (p := ⟨q60.heap.size, 0, none⟩) sb19 _).setCell (p := ⟨q60.heap.size, 1, none⟩) sb19 _).setCell (p := ⟨q60.heap.size, 2, none⟩) sb19 _).setCell (p := ⟨q61.heap.size, 0, none⟩) sb20 _).setCell (p := ⟨q61.heap.size, 1, none⟩) sb20 _).setCell (p := ⟨q61.heap.size, 2, none⟩) sb20 _) ?_
            refine gC_one (i := 25) (by kernel_rfl) rfl ?_
            go_wp2_with fail
            refine mid_intro (((((((((bq62.setCell (p := ⟨q60.heap.size, 0, none⟩) sb19 _).setCell (p := ⟨q60.heap.size, 1, none⟩) sb19 _).setCell (p := ⟨q60.heap.size, 2, none⟩) sb19 _).setCell (p := ⟨q61.heap.size, 0, none⟩) sb20 _).setCell (p := ⟨q61.heap.size, 1, none⟩) sb20 _).setCell (p := ⟨q61.heap.size, 2, none⟩) sb20 _).setCell (p := ⟨q49.heap.size, 0, none⟩) sb21 _).setCell (p := ⟨q49.heap.size, 1, none⟩) sb21 _).setCell (p := ⟨q49.heap.size, 2, none⟩) sb21 _) ?_
            refine gC_end [26] (lB := [_]) (by simp) (by kernel_rfl) (by kernel_rfl) rfl ?_
            go_wp2_with fail
            go_meet
            exact ⟨q60.heap.size, q61.heap.size, q49.heap.size, q0.heap.size, rfl, rfl, rfl, rfl, ((((((((((((Z19q62.set_ 0 _).set_ 1 _).set_ 2 _).far (p := ⟨q61.heap.size, 0, none⟩) n1920 _).far (p := ⟨q61.heap.size, 1, none⟩) n1920 _).far (p := ⟨q61.heap.size, 2, none⟩) n1920 _).far (p := ⟨q49.heap.size, 0, none⟩) n1921 _).far (p := ⟨q49.heap.size, 1, none⟩) n1921 _).far (p := ⟨q49.heap.size, 2, none⟩) n1921 _).far (p := ⟨q0.heap.size, 0, none⟩) n1922 _).far (p := ⟨q0.heap.size, 1, none⟩) n1922 _).far (p := ⟨q0.heap.size, 2, none⟩) n1922 _), ((((((((((((zq62.far (p := ⟨q60.heap.size, 0, none⟩) n2019 _).far (p := ⟨q60.heap.size, 1, none⟩) n2019 _).far (p := ⟨q60.heap.size, 2, none⟩) n2019 _).set_ 0 _).set_ 1 _).set_ 2 _).far (p := ⟨q49.heap.size, 0, none⟩) n2021 _).far (p := ⟨q49.heap.size, 1, none⟩) n2021 _).far (p := ⟨q49.heap.size, 2, none⟩) n2021 _).far (p := ⟨q0.heap.size, 0, none⟩) n2022 _).far (p := ⟨q0.heap.size, 1, none⟩) n2022 _).far (p := ⟨q0.heap.size, 2, none⟩) n2022 _), ((((((((((((Z21q62.far (p := ⟨q60.heap.size, 0, none⟩) n2119 _).far (p := ⟨q60.heap.size, 1, none⟩) n2119 _).far (p := ⟨q60.heap.size, 2, none⟩) n2119 _).far (p := ⟨q61.heap.size, 0, none⟩) n2120 _).far (p := ⟨q61.heap.size, 1, none⟩) n2120 _).far (p := ⟨q61.heap.size, 2, none⟩) n2120 _).set_ 0 _).set_ 1 _).set_ 2 _).far (p := ⟨q0.heap.size, 0, none⟩) n2122 _).far (p := ⟨q0.heap.size, 1, none⟩) n2122 _).far (p := ⟨q0.heap.size, 2, none⟩) n2122 _), ((((((((((((Z22q62.far (p := ⟨q60.heap.size, 0, none⟩) n2219 _).far (p := ⟨q60.heap.size, 1, none⟩) n2219 _).far (p := ⟨q60.heap.size, 2, none⟩) n2219 _).far (p := ⟨q61.heap.size, 0, none⟩) n2220 _).far (p := ⟨q61.heap.size, 1, none⟩) n2220 _).far (p := ⟨q61.heap.size, 2, none⟩) n2220 _).far (p := ⟨q49.heap.size, 0, none⟩) n2221 _).far (p := ⟨q49.heap.size, 1, none⟩) n2221 _).far (p := ⟨q49.heap.size, 2, none⟩) n2221 _).set_ 0 _).set_ 1 _).set_ 2 _), ((((((((((((bq62.setCell (p := ⟨q60.heap.size, 0, none⟩) sb19 _).setCell (p := ⟨q60.heap.size, 1, none⟩) sb19 _).setCell (p := ⟨q60.heap.size, 2, none⟩) sb19 _).setCell (p := ⟨q61.heap.size, 0, none⟩) sb20 _).setCell (p := ⟨q61.heap.size, 1, none⟩) sb20 _).setCell (p := ⟨q61.heap.size, 2, none⟩) sb20 _).setCell (p := ⟨q49.heap.size, 0, none⟩) sb21 _).setCell (p := ⟨q49.heap.size, 1, none⟩) sb21 _).setCell (p := ⟨q49.heap.size, 2, none⟩) sb21 _).setCell (p := ⟨q0.heap.size, 0, none⟩) sb22 _).setCell (p := ⟨q0.heap.size, 1, none⟩) sb22 _).setCell (p := ⟨q0.heap.size, 2, none⟩) sb22 _)⟩
        · go_wp2_with fail
          refine name_midw ?_
          intro q63 hn
          have hbq63 : Below q60.heap.size q60 q63 := by rw [hn]; exact (Below.refl _ _).alloc (Nat.le_refl _) _
          have zq63 : Blk q63 q60.heap.size #[.int .i64 0, .int .i64 0, .slice none 0 0] := by rw [hn]; exact Blk.new_ _ 27 _ rfl
          have seq63 : q60.heap.size < q63.heap.size := by rw [hn]; simp
          clear hn
          have Z22q63 := Z22q60.keep hbq63
          have Z21q63 := zq60.keep hbq63
          have bq63 : Below wx.heap.size wx q63 := bq60.trans (hbq63.mono bq60.size)
          have lq63 := hbq63.size
          refine mid_intro bq63 ?_
          refine gC_one (i := 19) (by kernel_rfl) rfl ?_
          · go_wp2_with fail
            refine name_midw ?_
            intro q64 hn
            have hbq64 : Below q63.heap.size q63 q64 := by rw [hn]; exact (Below.refl _ _).alloc (Nat.le_refl _) _
            have zq64 : Blk q64 q63.heap.size #[.int .i64 0, .int .i64 0, .slice none 0 0] := by rw [hn]; exact Blk.new_ _ 27 _ rfl
            have seq64 : q63.heap.size < q64.heap.size := by rw [hn]; simp
            clear hn
            have Z22q64 := Z22q63.keep hbq64
            have Z21q64 := Z21q63.keep hbq64
            have Z20q64 := zq63.keep hbq64
            have bq64 : Below wx.heap.size wx q64 := bq63.trans (hbq64.mono bq63.size)
            have lq64 := hbq64.size
            refine mid_intro bq64 ?_
            obtain ⟨d190, d191, d192⟩ := zq64.three
            have e190 := zq64.frozen 0
            have e191 := zq64.frozen 1
            have e192 := zq64.frozen 2
            have sb19 : wx.heap.size ≤ q63.heap.size := by first | exact bq0.size | exact bq63.size
            obtain ⟨d200, d201, d202⟩ := Z20q64.three
            have e200 := Z20q64.frozen 0
            have e201 := Z20q64.frozen 1
            have e202 := Z20q64.frozen 2
            have sb20 : wx.heap.size ≤ q60.heap.size := by first | exact bq0.size | exact bq60.size
            obtain ⟨d210, d211, d212⟩ := Z21q64.three
            have e210 := Z21q64.frozen 0
            have e211 := Z21q64.frozen 1
            have e212 := Z21q64.frozen 2
            have sb21 : wx.heap.size ≤ q49.heap.size := by first | exact bq0.size | exact bq49.size
            obtain ⟨d220, d221, d222⟩ := Z22q64.three
            have e220 := Z22q64.frozen 0
            have e221 := Z22q64.frozen 1
            have e222 := Z22q64.frozen 2
            have sb22 : wx.heap.size ≤ q0.heap.size := by first | exact bq0.size | exact bq0.size
            have n1920 : q63.heap.size ≠ q60.heap.size := by omega
            have n1921 : q63.heap.size ≠ q49.heap.size := by omega
            have n1922 : q63.heap.size ≠ q0.heap.size := by omega
            have n2019 : q60.heap.size ≠ q63.heap.size := by omega
            have n2021 : q60.heap.size ≠ q49.heap.size := by omega
            have n2022 : q60.heap.size ≠ q0.heap.size := by omega
            have n2119 : q49.heap.size ≠ q63.heap.size := by omega
            have n2120 : q49.heap.size ≠ q60.heap.size := by omega
            have n2122 : q49.heap.size ≠ q0.heap.size := by omega
            have n2219 : q0.heap.size ≠ q63.heap.size := by omega
            have n2220 : q0.heap.size ≠ q60.heap.size := by omega
            have n2221 : q0.heap.size ≠ q49.heap.size := by omega
            refine gC_one (i := 23) (by kernel_rfl) rfl ?_
            go_wp2_with fail
            refine mid_intro (((bq64.setCell (p := ⟨q63.heap.size, 0, none⟩) sb19 _).setCell (p := ⟨q63.heap.size, 1, none⟩) sb19 _).setCell (p := ⟨q63.heap.size, 2, none⟩) sb19 _) ?_
            refine gC_one (i := 24) (by kernel_rfl) rfl ?_
            go_wp2_with fail
            refine mid_intro ((((((bq64.setCell (p := ⟨q63.heap.size, 0, none⟩) sb19 _).setCell (p := ⟨q63.heap.size, 1, none⟩) sb19 _).setCell (p := ⟨q63.heap.size, 2, none⟩) sb19 _).setCell (p := ⟨q60.heap.size, 0, none⟩) sb20 _).setCell (p := ⟨q60.heap.size, 1, none⟩) sb20 _).setCell (p := ⟨q60.heap.size, 2, none⟩) sb20 _) ?_
            refine gC_one (i := 25) (by kernel_rfl) rfl ?_
            go_wp2_with fail
            refine mid_intro (((((((((bq64.setCell (p := ⟨q63.heap.size, 0, none⟩) sb19 _).setCell (p := ⟨q63.heap.size, 1, none⟩) sb19 _).setCell (p := ⟨q63.heap.size, 2, none⟩) sb19 _).setCell (p := ⟨q60.heap.size, 0, none⟩) sb20 _).setCell (p := ⟨q60.heap.size, 1, none⟩) sb20 _).setCell (p := ⟨q60.heap.size, 2, none⟩) sb20 _).setCell (p := ⟨q49.heap.size, 0, none⟩) sb21 _).setCell (p := ⟨q49.heap.size, 1, none⟩) sb21 _).setCell (p := ⟨q49.heap.size, 2, none⟩) sb21 _) ?_
            refine gC_end [26] (lB := [_]) (by simp) (by kernel_rfl) (by kernel_rfl) rfl ?_
            go_wp2_with fail
            go_meet
            exact ⟨q63.heap.size, q60.heap.size, q49.heap.size, q0.heap.size, rfl, rfl, rfl, rfl, ((((((((((((zq64.set_ 0 _).set_ 1 _).set_ 2 _).far (p := ⟨q60.heap.size, 0, none⟩) n1920 _).far (p := ⟨q60.heap.size, 1, none⟩) n1920 _).far (p := ⟨q60.heap.size, 2, none⟩) n1920 _).far (p := ⟨q49.heap.size, 0, none⟩) n1921 _).far (p := ⟨q49.heap.size, 1, none⟩) n1921 _).far (p := ⟨q49.heap.size, 2, none⟩) n1921 _).far (p := ⟨q0.heap.size, 0, none⟩) n1922 _).far (p := ⟨q0.heap.size, 1, none⟩) n1922 _).far (p := ⟨q0.heap.size, 2, none⟩) n1922 _), ((((((((((((Z20q64.far (p := ⟨q63.heap.size, 0, none⟩) n2019 _).far (p := ⟨q63.heap.size, 1, none⟩) n2019 _).far (p := ⟨q63.heap.size, 2, none⟩) n2019 _).set_ 0 _).set_ 1 _).set_ 2 _).far (p := ⟨q49.heap.size, 0, none⟩) n2021 _).far (p := ⟨q49.heap.size, 1, none⟩) n2021 _).far (p := ⟨q49.heap.size, 2, none⟩) n2021 _).far (p := ⟨q0.heap.size, 0, none⟩) n2022 _).far (p := ⟨q0.heap.size, 1, none⟩) n2022 _).far (p := ⟨q0.heap.size, 2, none⟩) n2022 _), ((((((((((((Z21q64.far (p := ⟨q63.heap.size, 0, none⟩) n2119 _).far (p := ⟨q63.heap.size, 1, none⟩) n2119 _).far (p := ⟨q63.heap.size, 2, none⟩) n2119 _).far (p := ⟨q60.heap.size, 0, none⟩) n2120 _).far (p := ⟨q60.heap.size, 1, none⟩) n2120 _).far (p := ⟨q60.heap.size, 2, none⟩) n2120 _).set_ 0 _).set_ 1 _).set_ 2 _).far (p := ⟨q0.heap.size, 0, none⟩) n2122 _).far (p := ⟨q0.heap.size, 1, none⟩) n2122 _).far (p := ⟨q0.heap.size, 2, none⟩) n2122 _), ((((((((((((Z22q64.far (p := ⟨q63.heap.size, 0, none⟩) n2219 _).far (p := ⟨q63.heap.size, 1, none⟩) n2219 _).far (p := ⟨q63.heap.size, 2, none⟩) n2219 _).far (p := ⟨q60.heap.size, 0, none⟩) n2220 _).far (p := ⟨q60.heap.size, 1, none⟩) n2220 _).far (p := ⟨q60.heap.size, 2, none⟩) n2220 _).far (p := ⟨q49.heap.size, 0, none⟩) n2221 _).far (p := ⟨q49.heap.size, 1, none⟩) n2221 _).far (p := ⟨q49.heap.size, 2, none⟩) n2221 _).set_ 0 _).set_ 1 _).set_ 2 _), ((((((((((((bq64.setCell (p := ⟨q63.heap.size, 0, none⟩) sb19 _).setCell (p := ⟨q63.heap.size, 1, none⟩) sb19 _).setCell (p := ⟨q63.heap.size, 2, none⟩) sb19 _).setCell (p := ⟨q60.heap.size, 0, none⟩) sb20 _).setCell (p := ⟨q60.heap.size, 1, none⟩) sb20 _).setCell (p := ⟨q60.heap.size, 2, none⟩) sb20 _).setCell (p := ⟨q49.heap.size, 0, none⟩) sb21 _).setCell (p := ⟨q49.heap.size, 1, none⟩) sb21 _).setCell (p := ⟨q49.heap.size, 2, none⟩) sb21 _).setCell (p := ⟨q0.heap.size, 0, none⟩) sb22 _).setCell (p := ⟨q0.heap.size, 1, none⟩) sb22 _).setCell (p := ⟨q0.heap.size, 2, none⟩) sb22 _)⟩
  case rest =>
    obtain ⟨g4, g5, g6, g7, rfl, rfl, rfl, rfl, hT4, hT5, hT6, hT7, hxy⟩ := hcut
    clear ui1 ui2 ui3 uj1 uj2 uj3 um1 um2 um3 uy1 uy2 uy3 uz1 uz2 uz3 g0 g1' g2
    go_upto_region 8 with fail
    refine name_world ?_
    intro wy hwy
    subst hwy
    have gy : Below w.heap.size w wy := gx.trans (hxy.mono gx.size)
    have hZy := hZx.keep hxy
    have rp := rpx.below hxy
    have rz := rzx.below hxy
    have r2 := r2x.below hxy
    have ra := rax.below hxy
    have t40 := rule_of hT4.three.1
    have t41 := rule_of hT4.three.2.1
    have t42 := rule_of hT4.three.2.2
    have t50 := rule_of hT5.three.1
    have t51 := rule_of hT5.three.2.1
    have t52 := rule_of hT5.three.2.2
    have t60 := rule_of hT6.three.1
    have t61 := rule_of hT6.three.2.1
    have t62 := rule_of hT6.three.2.2
    have t70 := rule_of hT7.three.1
    have t71 := rule_of hT7.three.2.1
    have t72 := rule_of hT7.three.2.2
    cases hvr0 : validT (.mk 5 0 [.mk 5 0 [.mk k2 n2 s2, .mk ka na sa], .mk 9 0 [.mk kp np sp, .mk kz nz sz, .mk k2 n2 s2, .mk ka na sa]]) with
    | false =>
      obtain rfl : o = none := by rw [← ho.out, vO, hvr0]; rfl
      have hvr := hide hvr0
      clear hvr0 ho
      obtain ⟨q0, hq0⟩ : ∃ q0, q0 = wy.drew := ⟨_, rfl⟩
      have bq0 : Below wy.heap.size wy q0 := by rw [hq0]; exact (Below.refl _ _).drew
      refine gC_start (fun w' => Below wy.heap.size wy w') [14, 15, 16, 17] 18 (by kernel_rfl) rfl ?_
      refine gC_take [0, 1, 4, 5, 6, 7] (f := 12) (l' := #[true, true, false, false, true, true, true, true, false, false, false, false, false, false, false, false, false, false]) (lT := [_, _, _, _, _, _]) (by rw [← hq0]; exact bq0) rfl (by kernel_rfl) (by kernel_rfl) (by kernel_rfl) rfl (fun _ _ d _ _ h => by cases d <;> exact h) ?_
      repeat (first | ((refine takeY_skip (a' := ?_) ?_ ?_ ?_); (rotate_left); (· (simp [Region.wanted, yielded, Go.undef]; done)); (· (simp only [List.getElem_toArray, List.getElem_cons_zero, List.getElem_cons_succ, Act.put, List.setIfInBounds_toArray, List.set_cons_zero, List.set_cons_succ]; exact rfl))) | ((refine takeY_step (v := ?_) (a' := ?_) ?_ ?_ ?_ ?_); (rotate_left 2); (· (simp [Region.wanted, yielded, Go.undef]; done)); (· (intro w' hS'; go_simp; try (with_reducible rfl))); (· (simp only [List.getElem_toArray, List.getElem_cons_zero, List.getElem_cons_succ, Act.put, List.setIfInBounds_toArray, List.set_cons_zero, List.set_cons_succ]; exact rfl))))
      refine takeY_nil ?_
      rw [← hq0]
      clear hq0
      refine gC_two (i := 2) (j := 8) (by kernel_rfl) rfl rfl ?_ ?_
      · go_wp2_with fail
        refine name_midw ?_
        intro q1 hn
        have hbq1 : Below q0.heap.size q0 q1 := by rw [hn]; exact (Below.refl _ _).alloc (Nat.le_refl _) _
        have zq1 : Blk q1 q0.heap.size #[.int .i64 k2, .int .i64 n2, .slice A2 s2.length c2, .int .i64 ka, .int .i64 na, .slice Aa sa.length ca] := by rw [hn]; exact Blk.new_ _ 27 _ rfl
        have seq1 : q0.heap.size < q1.heap.size := by rw [hn]; simp
        clear hn
        have rq1 : Rd q1 (some ⟨q0.heap.size, 0, none⟩) 0 [.mk k2 n2 s2, .mk ka na sa] := rd_row2 zq1 hl2 hla ((r2.below bq0).below hbq1) ((ra.below bq0).below hbq1)
        have bq1 : Below wy.heap.size wy q1 := bq0.trans (hbq1.mono bq0.size)
        have lq1 := hbq1.size
        refine mid_intro bq1 ?_
        refine gC_two (i := 3) (j := 8) (by kernel_rfl) rfl rfl ?_ ?_
        · go_wp2_with (go_at_call 26; refine (inode_any 5 _ ⟨_, _, _, rfl⟩ _).mono ?_; rintro e q2 ⟨rfl, hbq2⟩)
          have Pq2 := rq1.below hbq2
          have bq2 : Below wy.heap.size wy q2 := bq1.trans (hbq2.mono bq1.size)
          have lq2 := hbq2.size
          refine mid_intro bq2 ?_
          refine gC_one (i := 8) (by kernel_rfl) rfl ?_
          · go_wp2_with fail
            refine name_midw ?_
            intro q3 hn
            have hbq3 : Below q2.heap.size q2 q3 := by rw [hn]; exact (Below.refl _ _).alloc (Nat.le_refl _) _
            have zq3 : Blk q3 q2.heap.size #[.int .i64 kp, .int .i64 np, .slice Ap sp.length cp, .int .i64 kz, .int .i64 nz, .slice Az sz.length cz, .int .i64 k2, .int .i64 n2, .slice A2 s2.length c2, .int .i64 ka, .int .i64 na, .slice Aa sa.length ca] := by rw [hn]; exact Blk.new_ _ 27 _ rfl
            have seq3 : q2.heap.size < q3.heap.size := by rw [hn]; simp
            clear hn
            have rq3 : Rd q3 (some ⟨q2.heap.size, 0, none⟩) 0 [.mk kp np sp, .mk kz nz sz, .mk k2 n2 s2, .mk ka na sa] := rd_row4 zq3 hlp hlz hl2 hla ((rp.below bq2).below hbq3) ((rz.below bq2).below hbq3) ((r2.below bq2).below hbq3) ((ra.below bq2).below hbq3)
            have Pq3 := Pq2.below hbq3
            have bq3 : Below wy.heap.size wy q3 := bq2.trans (hbq3.mono bq2.size)
            have lq3 := hbq3.size
            refine mid_intro bq3 ?_
            refine gC_one (i := 9) (by kernel_rfl) rfl ?_
            · go_wp2_with (go_at_call 26; refine (inode_any 9 _ ⟨_, _, _, rfl⟩ _).mono ?_; rintro e q4 ⟨rfl, hbq4⟩)
              have Pq4 := Pq3.below hbq4
              have Eq4 := rq3.below hbq4
              have bq4 : Below wy.heap.size wy q4 := bq3.trans (hbq4.mono bq3.size)
              have lq4 := hbq4.size
              refine mid_intro bq4 ?_
              refine gC_one (i := 10) (by kernel_rfl) rfl ?_
              · go_wp2_with fail
                refine name_midw ?_
                intro q5 hn
                have hbq5 : Below q4.heap.size q4 q5 := by rw [hn]; exact (Below.refl _ _).alloc (Nat.le_refl _) _
                have zq5 : Blk q5 q4.heap.size #[.int .i64 5, .int .i64 0, .slice (some ⟨q0.heap.size, 0, none⟩) 2 2, .int .i64 9, .int .i64 0, .slice (some ⟨q2.heap.size, 0, none⟩) 4 4] := by rw [hn]; exact Blk.new_ _ 27 _ rfl
                have seq5 : q4.heap.size < q5.heap.size := by rw [hn]; simp
                clear hn
                have rq5 : Rd q5 (some ⟨q4.heap.size, 0, none⟩) 0 [.mk 5 0 [.mk k2 n2 s2, .mk ka na sa], .mk 9 0 [.mk kp np sp, .mk kz nz sz, .mk k2 n2 s2, .mk ka na sa]] := rd_row2 (s0 := [.mk k2 n2 s2, .mk ka na sa]) (s1 := [.mk kp np sp, .mk kz nz sz, .mk k2 n2 s2, .mk ka na sa]) zq5 (by simp) (by simp) (Pq4.below hbq5) (Eq4.below hbq5)
                have Pq5 := Pq4.below hbq5
                have Eq5 := Eq4.below hbq5
                have bq5 : Below wy.heap.size wy q5 := bq4.trans (hbq5.mono bq4.size)
                have lq5 := hbq5.size
                refine mid_intro bq5 ?_
                refine gC_one (i := 11) (by kernel_rfl) rfl ?_
                · go_wp2_with (go_at_call 26; refine (inode_any 5 _ ⟨_, _, _, rfl⟩ _).mono ?_; rintro e q6 ⟨rfl, hbq6⟩)
                  have Pq6 := Pq5.below hbq6
                  have Eq6 := Eq5.below hbq6
                  have Tq6 := rq5.below hbq6
                  have bq6 : Below wy.heap.size wy q6 := bq5.trans (hbq6.mono bq5.size)
                  have lq6 := hbq6.size
                  refine mid_intro bq6 ?_
                  refine gC_one (i := 12) (by kernel_rfl) rfl ?_
                  · go_wp2_with (go_at_call 73; refine (own_any 10000 5 0 [.mk 5 0 [.mk k2 n2 s2, .mk ka na sa], .mk 9 0 [.mk kp np sp, .mk kz nz sz, .mk k2 n2 s2, .mk ka na sa]] _ 2 _ (by simp only [sizes, Tm.size]; omega) (by simp only [sizes, Tm.size]; omega) Tq6).mono ?_; rintro e q7 ⟨A8, c8, rfl, hl8, hfq7, hbq7⟩)
                    have hgq7 := hfq7.mono (B' := wy.heap.size) bq6.size
                    have Pq7 := Pq6.below hbq7
                    have Eq7 := Eq6.below hbq7
                    have Tq7 := Tq6.below hbq7
                    have bq7 : Below wy.heap.size wy q7 := bq6.trans (hbq7.mono bq6.size)
                    have lq7 := hbq7.size
                    refine mid_intro bq7 ?_
                    refine gC_one (i := 13) (by kernel_rfl) rfl ?_
                    · go_wp2_with (go_at_call 25; refine (valid_noE 5 0 _ A8 c8 _ (by simp only [sizes, Tm.size]; omega) hgq7.rd hvr.out).mono ?_; rintro e q8 ⟨rfl, hbq8⟩)
                      have Pq8 := Pq7.below hbq8
                      have Eq8 := Eq7.below hbq8
                      have Tq8 := Tq7.below hbq8
                      have Oq8 := hgq7.below hbq8
                      have bq8 : Below wy.heap.size wy q8 := bq7.trans (hbq8.mono bq7.size)
                      have lq8 := hbq8.size
                      refine mid_intro bq8 ?_
                      refine gC_takeT [14, 15] (f := 2) (l' := #[true, true, true, true, true, true, true, true, true, true, true, true, true, true, true, true, false, false]) (lT := [_, _]) rfl (by kernel_rfl) (by kernel_rfl) (by kernel_rfl) rfl (fun _ _ d _ _ h => by cases d <;> exact h) ?_
                      repeat (first | ((refine takeY_skip (a' := ?_) ?_ ?_ ?_); (rotate_left); (· (simp [Region.wanted, yielded, Go.undef]; done)); (· (simp only [List.getElem_toArray, List.getElem_cons_zero, List.getElem_cons_succ, Act.put, List.setIfInBounds_toArray, List.set_cons_zero, List.set_cons_succ]; exact rfl))) | ((refine takeY_step (v := ?_) (a' := ?_) ?_ ?_ ?_ ?_); (rotate_left 2); (· (simp [Region.wanted, yielded, Go.undef]; done)); (· (intro w' hS'; go_simp; try (with_reducible rfl))); (· (simp only [List.getElem_toArray, List.getElem_cons_zero, List.getElem_cons_succ, Act.put, List.setIfInBounds_toArray, List.set_cons_zero, List.set_cons_succ]; exact rfl))))
                      refine takeY_nil ?_
                      refine gC_end [16, 17] (lB := [_, _]) (by simp) (by kernel_rfl) (by kernel_rfl) rfl ?_
                      have hZ2 := hZy.keep bq8
                      obtain ⟨d0, d1, d2⟩ := hZ2.three
                      have e0 := hZ2.frozen 0
                      have e1 := hZ2.frozen 1
                      have e2 := hZ2.frozen 2
                      have gf := gy.trans (bq8.mono gy.size)
                      have sy := gy.size
                      have lzy := hZy.lt
                      go_wp2_with fail
                      refine bodyPost_ret (v := .tuple #[zeroV, .bool false]) (by simp [results, Tryz.results98, go_sem, d0, d1, d2, zeroV]) rfl ⟨rfl, ?_⟩
                      exact ((gf.setCell (by simp) _).setCell (by simp) _).setCell (by simp) _
        · go_wp2_with fail
          refine name_midw ?_
          intro q9 hn
          have hbq9 : Below q1.heap.size q1 q9 := by rw [hn]; exact (Below.refl _ _).alloc (Nat.le_refl _) _
          have zq9 : Blk q9 q1.heap.size #[.int .i64 kp, .int .i64 np, .slice Ap sp.length cp, .int .i64 kz, .int .i64 nz, .slice Az sz.length cz, .int .i64 k2, .int .i64 n2, .slice A2 s2.length c2, .int .i64 ka, .int .i64 na, .slice Aa sa.length ca] := by rw [hn]; exact Blk.new_ _ 27 _ rfl
          have seq9 : q1.heap.size < q9.heap.size := by rw [hn]; simp
          clear hn
          have rq9 : Rd q9 (some ⟨q1.heap.size, 0, none⟩) 0 [.mk kp np sp, .mk kz nz sz, .mk k2 n2 s2, .mk ka na sa] := rd_row4 zq9 hlp hlz hl2 hla ((rp.below bq1).below hbq9) ((rz.below bq1).below hbq9) ((r2.below bq1).below hbq9) ((ra.below bq1).below hbq9)
          have Pq9 := rq1.below hbq9
          have bq9 : Below wy.heap.size wy q9 := bq1.trans (hbq9.mono bq1.size)
          have lq9 := hbq9.size
          refine mid_intro bq9 ?_
          refine gC_one (i := 3) (by kernel_rfl) rfl ?_
          · go_wp2_with (go_at_call 26; refine (inode_any 5 _ ⟨_, _, _, rfl⟩ _).mono ?_; rintro e q10 ⟨rfl, hbq10⟩)
            have Pq10 := Pq9.below hbq10
            have Eq10 := rq9.below hbq10
            have bq10 : Below wy.heap.size wy q10 := bq9.trans (hbq10.mono bq9.size)
            have lq10 := hbq10.size
            refine mid_intro bq10 ?_
            refine gC_one (i := 9) (by kernel_rfl) rfl ?_
            · go_wp2_with (go_at_call 26; refine (inode_any 9 _ ⟨_, _, _, rfl⟩ _).mono ?_; rintro e q11 ⟨rfl, hbq11⟩)
              have Pq11 := Pq10.below hbq11
              have Eq11 := Eq10.below hbq11
              have bq11 : Below wy.heap.size wy q11 := bq10.trans (hbq11.mono bq10.size)
              have lq11 := hbq11.size
              refine mid_intro bq11 ?_
              refine gC_one (i := 10) (by kernel_rfl) rfl ?_
              · go_wp2_with fail
                refine name_midw ?_
                intro q12 hn
                have hbq12 : Below q11.heap.size q11 q12 := by rw [hn]; exact (Below.refl _ _).alloc (Nat.le_refl _) _
                have zq12 : Blk q12 q11.heap.size #[.int .i64 5, .int .i64 0, .slice (some ⟨q0.heap.size, 0, none⟩) 2 2, .int .i64 9, .int .i64 0, .slice (some ⟨q1.heap.size, 0, none⟩) 4 4] := by rw [hn]; exact Blk.new_ _ 27 _ rfl
                have seq12 : q11.heap.size < q12.heap.size := by rw [hn]; simp
                clear hn
                have rq12 : Rd q12 (some ⟨q11.heap.size, 0, none⟩) 0 [.mk 5 0 [.mk k2 n2 s2, .mk ka na sa], .mk 9 0 [.mk kp np sp, .mk kz nz sz, .mk k2 n2 s2, .mk ka na sa]] := rd_row2 (s0 := [.mk k2 n2 s2, .mk ka na sa]) (s1 := [.mk kp np sp, .mk kz nz sz, .mk k2 n2 s2, .mk ka na sa]) zq12 (by simp) (by simp) (Pq11.below hbq12) (Eq11.below hbq12)
                have Pq12 := Pq11.below hbq12
                have Eq12 := Eq11.below hbq12
                have bq12 : Below wy.heap.size wy q12 := bq11.trans (hbq12.mono bq11.size)
                have lq12 := hbq12.size
                refine mid_intro bq12 ?_
                refine gC_one (i := 11) (by kernel_rfl) rfl ?_
                · go_wp2_with (go_at_call 26; refine (inode_any 5 _ ⟨_, _, _, rfl⟩ _).mono ?_; rintro e q13 ⟨rfl, hbq13⟩)
                  have Pq13 := Pq12.below hbq13
                  have Eq13 := Eq12.below hbq13
                  have Tq13 := rq12.below hbq13
                  have bq13 : Below wy.heap.size wy q13 := bq12.trans (hbq13.mono bq12.size)
                  have lq13 := hbq13.size
                  refine mid_intro bq13 ?_
                  refine gC_one (i := 12) (by kernel_rfl) rfl ?_
                  · go_wp2_with (go_at_call 73; refine (own_any 10000 5 0 [.mk 5 0 [.mk k2 n2 s2, .mk ka na sa], .mk 9 0 [.mk kp np sp, .mk kz nz sz, .mk k2 n2 s2, .mk ka na sa]] _ 2 _ (by simp only [sizes, Tm.size]; omega) (by simp only [sizes, Tm.size]; omega) Tq13).mono ?_; rintro e q14 ⟨A8, c8, rfl, hl8, hfq14, hbq14⟩)
                    have hgq14 := hfq14.mono (B' := wy.heap.size) bq13.size
                    have Pq14 := Pq13.below hbq14
                    have Eq14 := Eq13.below hbq14
                    have Tq14 := Tq13.below hbq14
                    have bq14 : Below wy.heap.size wy q14 := bq13.trans (hbq14.mono bq13.size)
                    have lq14 := hbq14.size
                    refine mid_intro bq14 ?_
                    refine gC_one (i := 13) (by kernel_rfl) rfl ?_
                    · go_wp2_with (go_at_call 25; refine (valid_noE 5 0 _ A8 c8 _ (by simp only [sizes, Tm.size]; omega) hgq14.rd hvr.out).mono ?_; rintro e q15 ⟨rfl, hbq15⟩)
                      have Pq15 := Pq14.below hbq15
                      have Eq15 := Eq14.below hbq15
                      have Tq15 := Tq14.below hbq15
                      have Oq15 := hgq14.below hbq15
                      have bq15 : Below wy.heap.size wy q15 := bq14.trans (hbq15.mono bq14.size)
                      have lq15 := hbq15.size
                      refine mid_intro bq15 ?_
                      refine gC_takeT [14, 15] (f := 2) (l' := #[true, true, true, true, true, true, true, true, true, true, true, true, true, true, true, true, false, false]) (lT := [_, _]) rfl (by kernel_rfl) (by kernel_rfl) (by kernel_rfl) rfl (fun _ _ d _ _ h => by cases d <;> exact h) ?_
                      repeat (first | ((refine takeY_skip (a' := ?_) ?_ ?_ ?_); (rotate_left); (· (simp [Region.wanted, yielded, Go.undef]; done)); (· (simp only [List.getElem_toArray, List.getElem_cons_zero, List.getElem_cons_succ, Act.put, List.setIfInBounds_toArray, List.set_cons_zero, List.set_cons_succ]; exact rfl))) | ((refine takeY_step (v := ?_) (a' := ?_) ?_ ?_ ?_ ?_); (rotate_left 2); (· (simp [Region.wanted, yielded, Go.undef]; done)); (· (intro w' hS'; go_simp; try (with_reducible rfl))); (· (simp only [List.getElem_toArray, List.getElem_cons_zero, List.getElem_cons_succ, Act.put, List.setIfInBounds_toArray, List.set_cons_zero, List.set_cons_succ]; exact rfl))))
                      refine takeY_nil ?_
                      refine gC_end [16, 17] (lB := [_, _]) (by simp) (by kernel_rfl) (by kernel_rfl) rfl ?_
                      have hZ2 := hZy.keep bq15
                      obtain ⟨d0, d1, d2⟩ := hZ2.three
                      have e0 := hZ2.frozen 0
                      have e1 := hZ2.frozen 1
                      have e2 := hZ2.frozen 2
                      have gf := gy.trans (bq15.mono gy.size)
                      have sy := gy.size
                      have lzy := hZy.lt
                      go_wp2_with fail
                      refine bodyPost_ret (v := .tuple #[zeroV, .bool false]) (by simp [results, Tryz.results98, go_sem, d0, d1, d2, zeroV]) rfl ⟨rfl, ?_⟩
                      exact ((gf.setCell (by simp) _).setCell (by simp) _).setCell (by simp) _
      · go_wp2_with fail
        refine name_midw ?_
        intro q16 hn
        have hbq16 : Below q0.heap.size q0 q16 := by rw [hn]; exact (Below.refl _ _).alloc (Nat.le_refl _) _
        have zq16 : Blk q16 q0.heap.size #[.int .i64 kp, .int .i64 np, .slice Ap sp.length cp, .int .i64 kz, .int .i64 nz, .slice Az sz.length cz, .int .i64 k2, .int .i64 n2, .slice A2 s2.length c2, .int .i64 ka, .int .i64 na, .slice Aa sa.length ca] := by rw [hn]; exact Blk.new_ _ 27 _ rfl
        have seq16 : q0.heap.size < q16.heap.size := by rw [hn]; simp
        clear hn
        have rq16 : Rd q16 (some ⟨q0.heap.size, 0, none⟩) 0 [.mk kp np sp, .mk kz nz sz, .mk k2 n2 s2, .mk ka na sa] := rd_row4 zq16 hlp hlz hl2 hla ((rp.below bq0).below hbq16) ((rz.below bq0).below hbq16) ((r2.below bq0).below hbq16) ((ra.below bq0).below hbq16)
        have bq16 : Below wy.heap.size wy q16 := bq0.trans (hbq16.mono bq0.size)
        have lq16 := hbq16.size
        refine mid_intro bq16 ?_
        refine gC_one (i := 2) (by kernel_rfl) rfl ?_
        · go_wp2_with fail
          refine name_midw ?_
          intro q17 hn
          have hbq17 : Below q16.heap.size q16 q17 := by rw [hn]; exact (Below.refl _ _).alloc (Nat.le_refl _) _
          have zq17 : Blk q17 q16.heap.size #[.int .i64 k2, .int .i64 n2, .slice A2 s2.length c2, .int .i64 ka, .int .i64 na, .slice Aa sa.length ca] := by rw [hn]; exact Blk.new_ _ 27 _ rfl
          have seq17 : q16.heap.size < q17.heap.size := by rw [hn]; simp
          clear hn
          have rq17 : Rd q17 (some ⟨q16.heap.size, 0, none⟩) 0 [.mk k2 n2 s2, .mk ka na sa] := rd_row2 zq17 hl2 hla ((r2.below bq16).below hbq17) ((ra.below bq16).below hbq17)
          have Eq17 := rq16.below hbq17
          have bq17 : Below wy.heap.size wy q17 := bq16.trans (hbq17.mono bq16.size)
          have lq17 := hbq17.size
          refine mid_intro bq17 ?_
          refine gC_one (i := 3) (by kernel_rfl) rfl ?_
          · go_wp2_with (go_at_call 26; refine (inode_any 5 _ ⟨_, _, _, rfl⟩ _).mono ?_; rintro e q18 ⟨rfl, hbq18⟩)
            have Eq18 := Eq17.below hbq18
            have Pq18 := rq17.below hbq18
            have bq18 : Below wy.heap.size wy q18 := bq17.trans (hbq18.mono bq17.size)
            have lq18 := hbq18.size
            refine mid_intro bq18 ?_
            refine gC_one (i := 9) (by kernel_rfl) rfl ?_
            · go_wp2_with (go_at_call 26; refine (inode_any 9 _ ⟨_, _, _, rfl⟩ _).mono ?_; rintro e q19 ⟨rfl, hbq19⟩)
              have Eq19 := Eq18.below hbq19
              have Pq19 := Pq18.below hbq19
              have bq19 : Below wy.heap.size wy q19 := bq18.trans (hbq19.mono bq18.size)
              have lq19 := hbq19.size
              refine mid_intro bq19 ?_
              refine gC_one (i := 10) (by kernel_rfl) rfl ?_
              · go_wp2_with fail
                refine name_midw ?_
                intro q20 hn
                have hbq20 : Below q19.heap.size q19 q20 := by rw [hn]; exact (Below.refl _ _).alloc (Nat.le_refl _) _
                have zq20 : Blk q20 q19.heap.size #[.int .i64 5, .int .i64 0, .slice (some ⟨q16.heap.size, 0, none⟩) 2 2, .int .i64 9, .int .i64 0, .slice (some ⟨q0.heap.size, 0, none⟩) 4 4] := by rw [hn]; exact Blk.new_ _ 27 _ rfl
                have seq20 : q19.heap.size < q20.heap.size := by rw [hn]; simp
                clear hn
                have rq20 : Rd q20 (some ⟨q19.heap.size, 0, none⟩) 0 [.mk 5 0 [.mk k2 n2 s2, .mk ka na sa], .mk 9 0 [.mk kp np sp, .mk kz nz sz, .mk k2 n2 s2, .mk ka na sa]] := rd_row2 (s0 := [.mk k2 n2 s2, .mk ka na sa]) (s1 := [.mk kp np sp, .mk kz nz sz, .mk k2 n2 s2, .mk ka na sa]) zq20 (by simp) (by simp) (Pq19.below hbq20) (Eq19.below hbq20)
                have Eq20 := Eq19.below hbq20
                have Pq20 := Pq19.below hbq20
                have bq20 : Below wy.heap.size wy q20 := bq19.trans (hbq20.mono bq19.size)
                have lq20 := hbq20.size
                refine mid_intro bq20 ?_
                refine gC_one (i := 11) (by kernel_rfl) rfl ?_
                · go_wp2_with (go_at_call 26; refine (inode_any 5 _ ⟨_, _, _, rfl⟩ _).mono ?_; rintro e q21 ⟨rfl, hbq21⟩)
                  have Eq21 := Eq20.below hbq21
                  have Pq21 := Pq20.below hbq21
                  have Tq21 := rq20.below hbq21
                  have bq21 : Below wy.heap.size wy q21 := bq20.trans (hbq21.mono bq20.size)
                  have lq21 := hbq21.size
                  refine mid_intro bq21 ?_
                  refine gC_one (i := 12) (by kernel_rfl) rfl ?_
                  · go_wp2_with (go_at_call 73; refine (own_any 10000 5 0 [.mk 5 0 [.mk k2 n2 s2, .mk ka na sa], .mk 9 0 [.mk kp np sp, .mk kz nz sz, .mk k2 n2 s2, .mk ka na sa]] _ 2 _ (by simp only [sizes, Tm.size]; omega) (by simp only [sizes, Tm.size]; omega) Tq21).mono ?_; rintro e q22 ⟨A8, c8, rfl, hl8, hfq22, hbq22⟩)
                    have hgq22 := hfq22.mono (B' := wy.heap.size) bq21.size
                    have Eq22 := Eq21.below hbq22
                    have Pq22 := Pq21.below hbq22
                    have Tq22 := Tq21.below hbq22
                    have bq22 : Below wy.heap.size wy q22 := bq21.trans (hbq22.mono bq21.size)
                    have lq22 := hbq22.size
                    refine mid_intro bq22 ?_
                    refine gC_one (i := 13) (by kernel_rfl) rfl ?_
                    · go_wp2_with (go_at_call 25; refine (valid_noE 5 0 _ A8 c8 _ (by simp only [sizes, Tm.size]; omega) hgq22.rd hvr.out).mono ?_; rintro e q23 ⟨rfl, hbq23⟩)
                      have Eq23 := Eq22.below hbq23
                      have Pq23 := Pq22.below hbq23
                      have Tq23 := Tq22.below hbq23
                      have Oq23 := hgq22.below hbq23
                      have bq23 : Below wy.heap.size wy q23 := bq22.trans (hbq23.mono bq22.size)
                      have lq23 := hbq23.size
                      refine mid_intro bq23 ?_
                      refine gC_takeT [14, 15] (f := 2) (l' := #[true, true, true, true, true, true, true, true, true, true, true, true, true, true, true, true, false, false]) (lT := [_, _]) rfl (by kernel_rfl) (by kernel_rfl) (by kernel_rfl) rfl (fun _ _ d _ _ h => by cases d <;> exact h) ?_
                      repeat (first | ((refine takeY_skip (a' := ?_) ?_ ?_ ?_); (rotate_left); (· (simp [Region.wanted, yielded, Go.undef]; done)); (· (simp only [List.getElem_toArray, List.getElem_cons_zero, List.getElem_cons_succ, Act.put, List.setIfInBounds_toArray, List.set_cons_zero, List.set_cons_succ]; exact rfl))) | ((refine takeY_step (v := ?_) (a' := ?_) ?_ ?_ ?_ ?_); (rotate_left 2); (· (simp [Region.wanted, yielded, Go.undef]; done)); (· (intro w' hS'; go_simp; try (with_reducible rfl))); (· (simp only [List.getElem_toArray, List.getElem_cons_zero, List.getElem_cons_succ, Act.put, List.setIfInBounds_toArray, List.set_cons_zero, List.set_cons_succ]; exact rfl))))
                      refine takeY_nil ?_
                      refine gC_end [16, 17] (lB := [_, _]) (by simp) (by kernel_rfl) (by kernel_rfl) rfl ?_
                      have hZ2 := hZy.keep bq23
                      obtain ⟨d0, d1, d2⟩ := hZ2.three
                      have e0 := hZ2.frozen 0
                      have e1 := hZ2.frozen 1
                      have e2 := hZ2.frozen 2
                      have gf := gy.trans (bq23.mono gy.size)
                      have sy := gy.size
                      have lzy := hZy.lt
                      go_wp2_with fail
                      refine bodyPost_ret (v := .tuple #[zeroV, .bool false]) (by simp [results, Tryz.results98, go_sem, d0, d1, d2, zeroV]) rfl ⟨rfl, ?_⟩
                      exact ((gf.setCell (by simp) _).setCell (by simp) _).setCell (by simp) _
    | true =>
      obtain rfl : o = some (.mk 5 0 [.mk 5 0 [.mk k2 n2 s2, .mk ka na sa], .mk 9 0 [.mk kp np sp, .mk kz nz sz, .mk k2 n2 s2, .mk ka na sa]]) := by rw [← ho.out, vO, hvr0]; rfl
      have hvr := hide hvr0
      clear hvr0 ho
      obtain ⟨q0, hq0⟩ : ∃ q0, q0 = wy.drew := ⟨_, rfl⟩
      have bq0 : Below wy.heap.size wy q0 := by rw [hq0]; exact (Below.refl _ _).drew
      refine gC_start (fun w' => Below wy.heap.size wy w') [14, 15, 16, 17] 18 (by kernel_rfl) rfl ?_
      refine gC_take [0, 1, 4, 5, 6, 7] (f := 12) (l' := #[true, true, false, false, true, true, true, true, false, false, false, false, false, false, false, false, false, false]) (lT := [_, _, _, _, _, _]) (by rw [← hq0]; exact bq0) rfl (by kernel_rfl) (by kernel_rfl) (by kernel_rfl) rfl (fun _ _ d _ _ h => by cases d <;> exact h) ?_
      repeat (first | ((refine takeY_skip (a' := ?_) ?_ ?_ ?_); (rotate_left); (· (simp [Region.wanted, yielded, Go.undef]; done)); (· (simp only [List.getElem_toArray, List.getElem_cons_zero, List.getElem_cons_succ, Act.put, List.setIfInBounds_toArray, List.set_cons_zero, List.set_cons_succ]; exact rfl))) | ((refine takeY_step (v := ?_) (a' := ?_) ?_ ?_ ?_ ?_); (rotate_left 2); (· (simp [Region.wanted, yielded, Go.undef]; done)); (· (intro w' hS'; go_simp; try (with_reducible rfl))); (· (simp only [List.getElem_toArray, List.getElem_cons_zero, List.getElem_cons_succ, Act.put, List.setIfInBounds_toArray, List.set_cons_zero, List.set_cons_succ]; exact rfl))))
      refine takeY_nil ?_
      rw [← hq0]
      clear hq0
      refine gC_two (i := 2) (j := 8) (by kernel_rfl) rfl rfl ?_ ?_
      · go_wp2_with fail
        refine name_midw ?_
        intro q1 hn
        have hbq1 : Below q0.heap.size q0 q1 := by rw [hn]; exact (Below.refl _ _).alloc (Nat.le_refl _) _
        have zq1 : Blk q1 q0.heap.size #[.int .i64 k2, .int .i64 n2, .slice A2 s2.length c2, .int .i64 ka, .int .i64 na, .slice Aa sa.length ca] := by rw [hn]; exact Blk.new_ _ 27 _ rfl
        have seq1 : q0.heap.size < q1.heap.size := by rw [hn]; simp
        clear hn
        have rq1 : Rd q1 (some ⟨q0.heap.size, 0, none⟩) 0 [.mk k2 n2 s2, .mk ka na sa] := rd_row2 zq1 hl2 hla ((r2.below bq0).below hbq1) ((ra.below bq0).below hbq1)
        have bq1 : Below wy.heap.size wy q1 := bq0.trans (hbq1.mono bq0.size)
        have lq1 := hbq1.size
        refine mid_intro bq1 ?_
        refine gC_two (i := 3) (j := 8) (by kernel_rfl) rfl rfl ?_ ?_
        · go_wp2_with (go_at_call 26; refine (inode_any 5 _ ⟨_, _, _, rfl⟩ _).mono ?_; rintro e q2 ⟨rfl, hbq2⟩)
          have Pq2 := rq1.below hbq2
          have bq2 : Below wy.heap.size wy q2 := bq1.trans (hbq2.mono bq1.size)
          have lq2 := hbq2.size
          refine mid_intro bq2 ?_
          refine gC_one (i := 8) (by kernel_rfl) rfl ?_
          · go_wp2_with fail
            refine name_midw ?_
            intro q3 hn
            have hbq3 : Below q2.heap.size q2 q3 := by rw [hn]; exact (Below.refl _ _).alloc (Nat.le_refl _) _
            have zq3 : Blk q3 q2.heap.size #[.int .i64 kp, .int .i64 np, .slice Ap sp.length cp, .int .i64 kz, .int .i64 nz, .slice Az sz.length cz, .int .i64 k2, .int .i64 n2, .slice A2 s2.length c2, .int .i64 ka, .int .i64 na, .slice Aa sa.length ca] := by rw [hn]; exact Blk.new_ _ 27 _ rfl
            have seq3 : q2.heap.size < q3.heap.size := by rw [hn]; simp
            clear hn
            have rq3 : Rd q3 (some ⟨q2.heap.size, 0, none⟩) 0 [.mk kp np sp, .mk kz nz sz, .mk k2 n2 s2, .mk ka na sa] := rd_row4 zq3 hlp hlz hl2 hla ((rp.below bq2).below hbq3) ((rz.below bq2).below hbq3) ((r2.below bq2).below hbq3) ((ra.below bq2).below hbq3)
            have Pq3 := Pq2.below hbq3
            have bq3 : Below wy.heap.size wy q3 := bq2.trans (hbq3.mono bq2.size)
            have lq3 := hbq3.size
            refine mid_intro bq3 ?_
            refine gC_one (i := 9) (by kernel_rfl) rfl ?_
            · go_wp2_with (go_at_call 26; refine (inode_any 9 _ ⟨_, _, _, rfl⟩ _).mono ?_; rintro e q4 ⟨rfl, hbq4⟩)
              have Pq4 := Pq3.below hbq4
              have Eq4 := rq3.below hbq4
              have bq4 : Below wy.heap.size wy q4 := bq3.trans (hbq4.mono bq3.size)
              have lq4 := hbq4.size
              refine mid_intro bq4 ?_
              refine gC_one (i := 10) (by kernel_rfl) rfl ?_
              · go_wp2_with fail
                refine name_midw ?_
                intro q5 hn
                have hbq5 : Below q4.heap.size q4 q5 := by rw [hn]; exact (Below.refl _ _).alloc (Nat.le_refl _) _
                have zq5 : Blk q5 q4.heap.size #[.int .i64 5, .int .i64 0, .slice (some ⟨q0.heap.size, 0, none⟩) 2 2, .int .i64 9, .int .i64 0, .slice (some ⟨q2.heap.size, 0, none⟩) 4 4] := by rw [hn]; exact Blk.new_ _ 27 _ rfl
                have seq5 : q4.heap.size < q5.heap.size := by rw [hn]; simp
                clear hn
                have rq5 : Rd q5 (some ⟨q4.heap.size, 0, none⟩) 0 [.mk 5 0 [.mk k2 n2 s2, .mk ka na sa], .mk 9 0 [.mk kp np sp, .mk kz nz sz, .mk k2 n2 s2, .mk ka na sa]] := rd_row2 (s0 := [.mk k2 n2 s2, .mk ka na sa]) (s1 := [.mk kp np sp, .mk kz nz sz, .mk k2 n2 s2, .mk ka na sa]) zq5 (by simp) (by simp) (Pq4.below hbq5) (Eq4.below hbq5)
                have Pq5 := Pq4.below hbq5
                have Eq5 := Eq4.below hbq5
                have bq5 : Below wy.heap.size wy q5 := bq4.trans (hbq5.mono bq4.size)
                have lq5 := hbq5.size
                refine mid_intro bq5 ?_
                refine gC_one (i := 11) (by kernel_rfl) rfl ?_
                · go_wp2_with (go_at_call 26; refine (inode_any 5 _ ⟨_, _, _, rfl⟩ _).mono ?_; rintro e q6 ⟨rfl, hbq6⟩)
                  have Pq6 := Pq5.below hbq6
                  have Eq6 := Eq5.below hbq6
                  have Tq6 := rq5.below hbq6
                  have bq6 : Below wy.heap.size wy q6 := bq5.trans (hbq6.mono bq5.size)
                  have lq6 := hbq6.size
                  refine mid_intro bq6 ?_
                  refine gC_one (i := 12) (by kernel_rfl) rfl ?_
                  · go_wp2_with (go_at_call 73; refine (own_any 10000 5 0 [.mk 5 0 [.mk k2 n2 s2, .mk ka na sa], .mk 9 0 [.mk kp np sp, .mk kz nz sz, .mk k2 n2 s2, .mk ka na sa]] _ 2 _ (by simp only [sizes, Tm.size]; omega) (by simp only [sizes, Tm.size]; omega) Tq6).mono ?_; rintro e q7 ⟨A8, c8, rfl, hl8, hfq7, hbq7⟩)
                    have hgq7 := hfq7.mono (B' := wy.heap.size) bq6.size
                    have Pq7 := Pq6.below hbq7
                    have Eq7 := Eq6.below hbq7
                    have Tq7 := Tq6.below hbq7
                    have bq7 : Below wy.heap.size wy q7 := bq6.trans (hbq7.mono bq6.size)
                    have lq7 := hbq7.size
                    refine mid_intro bq7 ?_
                    refine gC_one (i := 13) (by kernel_rfl) rfl ?_
                    · go_wp2_with (go_at_call 25; refine (valid_yes 5 0 _ A8 c8 _ (by simp only [sizes, Tm.size]; omega) hgq7.rd hvr.out).mono ?_; rintro e q8 ⟨rfl, hbq8⟩)
                      have Pq8 := Pq7.below hbq8
                      have Eq8 := Eq7.below hbq8
                      have Tq8 := Tq7.below hbq8
                      have Oq8 := hgq7.below hbq8
                      have bq8 : Below wy.heap.size wy q8 := bq7.trans (hbq8.mono bq7.size)
                      have lq8 := hbq8.size
                      refine mid_intro bq8 ?_
                      refine gC_takeT [14, 15] (f := 2) (l' := #[true, true, true, true, true, true, true, true, true, true, true, true, true, true, true, true, false, false]) (lT := [_, _]) rfl (by kernel_rfl) (by kernel_rfl) (by kernel_rfl) rfl (fun _ _ d _ _ h => by cases d <;> exact h) ?_
                      repeat (first | ((refine takeY_skip (a' := ?_) ?_ ?_ ?_); (rotate_left); (· (simp [Region.wanted, yielded, Go.undef]; done)); (· (simp only [List.getElem_toArray, List.getElem_cons_zero, List.getElem_cons_succ, Act.put, List.setIfInBounds_toArray, List.set_cons_zero, List.set_cons_succ]; exact rfl))) | ((refine takeY_step (v := ?_) (a' := ?_) ?_ ?_ ?_ ?_); (rotate_left 2); (· (simp [Region.wanted, yielded, Go.undef]; done)); (· (intro w' hS'; go_simp; try (with_reducible rfl))); (· (simp only [List.getElem_toArray, List.getElem_cons_zero, List.getElem_cons_succ, Act.put, List.setIfInBounds_toArray, List.set_cons_zero, List.set_cons_succ]; exact rfl))))
                      refine takeY_nil ?_
                      refine gC_end [16, 17] (lB := [_, _]) (by simp) (by kernel_rfl) (by kernel_rfl) rfl ?_
                      have hZ2 := hZy.keep bq8
                      obtain ⟨d0, d1, d2⟩ := hZ2.three
                      have e0 := hZ2.frozen 0
                      have e1 := hZ2.frozen 1
                      have e2 := hZ2.frozen 2
                      have gf := gy.trans (bq8.mono gy.size)
                      have sy := gy.size
                      have lzy := hZy.lt
                      go_wp2_with fail
                      refine bodyPost_ret (v := .tuple #[.agg #[.int .i64 5, .int .i64 0, .slice A8 2 c8], .bool true]) (by simp [results, Tryz.results98, go_sem, d0, d1, d2, zeroV]) rfl ⟨A8, c8, rfl, by simp [Tm.ks], ?_, ?_⟩
                      · exact (((Oq8.setCell (by simp; omega) _).setCell (by simp; omega) _).setCell (by simp; omega) _).mono (by omega)
                      · exact ((gf.setCell (by simp) _).setCell (by simp) _).setCell (by simp) _
        · go_wp2_with fail
          refine name_midw ?_
          intro q9 hn
          have hbq9 : Below q1.heap.size q1 q9 := by rw [hn]; exact (Below.refl _ _).alloc (Nat.le_refl _) _
          have zq9 : Blk q9 q1.heap.size #[.int .i64 kp, .int .i64 np, .slice Ap sp.length cp, .int .i64 kz, .int .i64 nz, .slice Az sz.length cz, .int .i64 k2, .int .i64 n2, .slice A2 s2.length c2, .int .i64 ka, .int .i64 na, .slice Aa sa.length ca] := by rw [hn]; exact Blk.new_ _ 27 _ rfl
          have seq9 : q1.heap.size < q9.heap.size := by rw [hn]; simp
          clear hn
          have rq9 : Rd q9 (some ⟨q1.heap.size, 0, none⟩) 0 [.mk kp np sp, .mk kz nz sz, .mk k2 n2 s2, .mk ka na sa] := rd_row4 zq9 hlp hlz hl2 hla ((rp.below bq1).below hbq9) ((rz.below bq1).below hbq9) ((r2.below bq1).below hbq9) ((ra.below bq1).below hbq9)
          have Pq9 := rq1.below hbq9
          have bq9 : Below wy.heap.size wy q9 := bq1.trans (hbq9.mono bq1.size)
          have lq9 := hbq9.size
          refine mid_intro bq9 ?_
          refine gC_one (i := 3) (by kernel_rfl) rfl ?_
          · go_wp2_with (go_at_call 26; refine (inode_any 5 _ ⟨_, _, _, rfl⟩ _).mono ?_; rintro e q10 ⟨rfl, hbq10⟩)
            have Pq10 := Pq9.below hbq10
            have Eq10 := rq9.below hbq10
            have bq10 : Below wy.heap.size wy q10 := bq9.trans (hbq10.mono bq9.size)
            have lq10 := hbq10.size
            refine mid_intro bq10 ?_
            refine gC_one (i := 9) (by kernel_rfl) rfl ?_
            · go_wp2_with (go_at_call 26; refine (inode_any 9 _ ⟨_, _, _, rfl⟩ _).mono ?_; rintro e q11 ⟨rfl, hbq11⟩)
              have Pq11 := Pq10.below hbq11
              have Eq11 := Eq10.below hbq11
              have bq11 : Below wy.heap.size wy q11 := bq10.trans (hbq11.mono bq10.size)
              have lq11 := hbq11.size
              refine mid_intro bq11 ?_
              refine gC_one (i := 10) (by kernel_rfl) rfl ?_
              · go_wp2_with fail
                refine name_midw ?_
                intro q12 hn
                have hbq12 : Below q11.heap.size q11 q12 := by rw [hn]; exact (Below.refl _ _).alloc (Nat.le_refl _) _
                have zq12 : Blk q12 q11.heap.size #[.int .i64 5, .int .i64 0, .slice (some ⟨q0.heap.size, 0, none⟩) 2 2, .int .i64 9, .int .i64 0, .slice (some ⟨q1.heap.size, 0, none⟩) 4 4] := by rw [hn]; exact Blk.new_ _ 27 _ rfl
                have seq12 : q11.heap.size < q12.heap.size := by rw [hn]; simp
                clear hn
                have rq12 : Rd q12 (some ⟨q11.heap.size, 0, none⟩) 0 [.mk 5 0 [.mk k2 n2 s2, .mk ka na sa], .mk 9 0 [.mk kp np sp, .mk kz nz sz, .mk k2 n2 s2, .mk ka na sa]] := rd_row2 (s0 := [.mk k2 n2 s2, .mk ka na sa]) (s1 := [.mk kp np sp, .mk kz nz sz, .mk k2 n2 s2, .mk ka na sa]) zq12 (by simp) (by simp) (Pq11.below hbq12) (Eq11.below hbq12)
                have Pq12 := Pq11.below hbq12
                have Eq12 := Eq11.below hbq12
                have bq12 : Below wy.heap.size wy q12 := bq11.trans (hbq12.mono bq11.size)
                have lq12 := hbq12.size
                refine mid_intro bq12 ?_
                refine gC_one (i := 11) (by kernel_rfl) rfl ?_
                · go_wp2_with (go_at_call 26; refine (inode_any 5 _ ⟨_, _, _, rfl⟩ _).mono ?_; rintro e q13 ⟨rfl, hbq13⟩)
                  have Pq13 := Pq12.below hbq13
                  have Eq13 := Eq12.below hbq13
                  have Tq13 := rq12.below hbq13
                  have bq13 : Below wy.heap.size wy q13 := bq12.trans (hbq13.mono bq12.size)
                  have lq13 := hbq13.size
                  refine mid_intro bq13 ?_
                  refine gC_one (i := 12) (by kernel_rfl) rfl ?_
                  · go_wp2_with (go_at_call 73; refine (own_any 10000 5 0 [.mk 5 0 [.mk k2 n2 s2, .mk ka na sa], .mk 9 0 [.mk kp np sp, .mk kz nz sz, .mk k2 n2 s2, .mk ka na sa]] _ 2 _ (by simp only [sizes, Tm.size]; omega) (by simp only [sizes, Tm.size]; omega) Tq13).mono ?_; rintro e q14 ⟨A8, c8, rfl, hl8, hfq14, hbq14⟩)
                    have hgq14 := hfq14.mono (B' := wy.heap.size) bq13.size
                    have Pq14 := Pq13.below hbq14
                    have Eq14 := Eq13.below hbq14
                    have Tq14 := Tq13.below hbq14
                    have bq14 : Below wy.heap.size wy q14 := bq13.trans (hbq14.mono bq13.size)
                    have lq14 := hbq14.size
                    refine mid_intro bq14 ?_
                    refine gC_one (i := 13) (by kernel_rfl) rfl ?_
                    · go_wp2_with (go_at_call 25; refine (valid_yes 5 0 _ A8 c8 _ (by simp only [sizes, Tm.size]; omega) hgq14.rd hvr.out).mono ?_; rintro e q15 ⟨rfl, hbq15⟩)
                      have Pq15 := Pq14.below hbq15
                      have Eq15 := Eq14.below hbq15
                      have Tq15 := Tq14.below hbq15
                      have Oq15 := hgq14.below hbq15
                      have bq15 : Below wy.heap.size wy q15 := bq14.trans (hbq15.mono bq14.size)
                      have lq15 := hbq15.size
                      refine mid_intro bq15 ?_
                      refine gC_takeT [14, 15] (f := 2) (l' := #[true, true, true, true, true, true, true, true, true, true, true, true, true, true, true, true, false, false]) (lT := [_, _]) rfl (by kernel_rfl) (by kernel_rfl) (by kernel_rfl) rfl (fun _ _ d _ _ h => by cases d <;> exact h) ?_
                      repeat (first | ((refine takeY_skip (a' := ?_) ?_ ?_ ?_); (rotate_left); (· (simp [Region.wanted, yielded, Go.undef]; done)); (· (simp only [List.getElem_toArray, List.getElem_cons_zero, List.getElem_cons_succ, Act.put, List.setIfInBounds_toArray, List.set_cons_zero, List.set_cons_succ]; exact rfl))) | ((refine takeY_step (v := ?_) (a' := ?_) ?_ ?_ ?_ ?_); (rotate_left 2); (· (simp [Region.wanted, yielded, Go.undef]; done)); (· (intro w' hS'; go_simp; try (with_reducible rfl))); (· (simp only [List.getElem_toArray, List.getElem_cons_zero, List.getElem_cons_succ, Act.put, List.setIfInBounds_toArray, List.set_cons_zero, List.set_cons_succ]; exact rfl))))
                      refine takeY_nil ?_
                      refine gC_end [16, 17] (lB := [_, _]) (by simp) (by kernel_rfl) (by kernel_rfl) rfl ?_
                      have hZ2 := hZy.keep bq15
                      obtain ⟨d0, d1, d2⟩ := hZ2.three
                      have e0 := hZ2.frozen 0
                      have e1 := hZ2.frozen 1
                      have e2 := hZ2.frozen 2
                      have gf := gy.trans (bq15.mono gy.size)
                      have sy := gy.size
                      have lzy := hZy.lt
                      go_wp2_with fail
                      refine bodyPost_ret (v := .tuple #[.agg #[.int .i64 5, .int .i64 0, .slice A8 2 c8], .bool true]) (by simp [results, Tryz.results98, go_sem, d0, d1, d2, zeroV]) rfl ⟨A8, c8, rfl, by simp [Tm.ks], ?_, ?_⟩
                      · exact (((Oq15.setCell (by simp; omega) _).setCell (by simp; omega) _).setCell (by simp; omega) _).mono (by omega)
                      · exact ((gf.setCell (by simp) _).setCell (by simp) _).setCell (by simp) _
      · go_wp2_with fail
        refine name_midw ?_
        intro q16 hn
        have hbq16 : Below q0.heap.size q0 q16 := by rw [hn]; exact (Below.refl _ _).alloc (Nat.le_refl _) _
        have zq16 : Blk q16 q0.heap.size #[.int .i64 kp, .int .i64 np, .slice Ap sp.length cp, .int .i64 kz, .int .i64 nz, .slice Az sz.length cz, .int .i64 k2, .int .i64 n2, .slice A2 s2.length c2, .int .i64 ka, .int .i64 na, .slice Aa sa.length ca] := by rw [hn]; exact Blk.new_ _ 27 _ rfl
        have seq16 : q0.heap.size < q16.heap.size := by rw [hn]; simp
        clear hn
        have rq16 : Rd q16 (some ⟨q0.heap.size, 0, none⟩) 0 [.mk kp np sp, .mk kz nz sz, .mk k2 n2 s2, .mk ka na sa] := rd_row4 zq16 hlp hlz hl2 hla ((rp.below bq0).below hbq16) ((rz.below bq0).below hbq16) ((r2.below bq0).below hbq16) ((ra.below bq0).below hbq16)
        have bq16 : Below wy.heap.size wy q16 := bq0.trans (hbq16.mono bq0.size)
        have lq16 := hbq16.size
        refine mid_intro bq16 ?_
        refine gC_one (i := 2) (by kernel_rfl) rfl ?_
        · go_wp2_with fail
          refine name_midw ?_
          intro q17 hn
          have hbq17 : Below q16.heap.size q16 q17 := by rw [hn]; exact (Below.refl _ _).alloc (Nat.le_refl _) _
          have zq17 : Blk q17 q16.heap.size #[.int .i64 k2, .int .i64 n2, .slice A2 s2.length c2, .int .i64 ka, .int .i64 na, .slice Aa sa.length ca] := by rw [hn]; exact Blk.new_ _ 27 _ rfl
          have seq17 : q16.heap.size < q17.heap.size := by rw [hn]; simp
          clear hn
          have rq17 : Rd q17 (some ⟨q16.heap.size, 0, none⟩) 0 [.mk k2 n2 s2, .mk ka na sa] := rd_row2 zq17 hl2 hla ((r2.below bq16).below hbq17) ((ra.below bq16).below hbq17)
          have Eq17 := rq16.below hbq17
          have bq17 : Below wy.heap.size wy q17 := bq16.trans (hbq17.mono bq16.size)
          have lq17 := hbq17.size
          refine mid_intro bq17 ?_
          refine gC_one (i := 3) (by kernel_rfl) rfl ?_
          · go_wp2_with (go_at_call 26; refine (inode_any 5 _ ⟨_, _, _, rfl⟩ _).mono ?_; rintro e q18 ⟨rfl, hbq18⟩)
            have Eq18 := Eq17.below hbq18
            have Pq18 := rq17.below hbq18
            have bq18 : Below wy.heap.size wy q18 := bq17.trans (hbq18.mono bq17.size)
            have lq18 := hbq18.size
            refine mid_intro bq18 ?_
            refine gC_one (i := 9) (by kernel_rfl) rfl ?_
            · go_wp2_with (go_at_call 26; refine (inode_any 9 _ ⟨_, _, _, rfl⟩ _).mono ?_; rintro e q19 ⟨rfl, hbq19⟩)
              have Eq19 := Eq18.below hbq19
              have Pq19 := Pq18.below hbq19
              have bq19 : Below wy.heap.size wy q19 := bq18.trans (hbq19.mono bq18.size)
              have lq19 := hbq19.size
              refine mid_intro bq19 ?_
              refine gC_one (i := 10) (by kernel_rfl) rfl ?_
              · go_wp2_with fail
                refine name_midw ?_
                intro q20 hn
                have hbq20 : Below q19.heap.size q19 q20 := by rw [hn]; exact (Below.refl _ _).alloc (Nat.le_refl _) _
                have zq20 : Blk q20 q19.heap.size #[.int .i64 5, .int .i64 0, .slice (some ⟨q16.heap.size, 0, none⟩) 2 2, .int .i64 9, .int .i64 0, .slice (some ⟨q0.heap.size, 0, none⟩) 4 4] := by rw [hn]; exact Blk.new_ _ 27 _ rfl
                have seq20 : q19.heap.size < q20.heap.size := by rw [hn]; simp
                clear hn
                have rq20 : Rd q20 (some ⟨q19.heap.size, 0, none⟩) 0 [.mk 5 0 [.mk k2 n2 s2, .mk ka na sa], .mk 9 0 [.mk kp np sp, .mk kz nz sz, .mk k2 n2 s2, .mk ka na sa]] := rd_row2 (s0 := [.mk k2 n2 s2, .mk ka na sa]) (s1 := [.mk kp np sp, .mk kz nz sz, .mk k2 n2 s2, .mk ka na sa]) zq20 (by simp) (by simp) (Pq19.below hbq20) (Eq19.below hbq20)
                have Eq20 := Eq19.below hbq20
                have Pq20 := Pq19.below hbq20
                have bq20 : Below wy.heap.size wy q20 := bq19.trans (hbq20.mono bq19.size)
                have lq20 := hbq20.size
                refine mid_intro bq20 ?_
                refine gC_one (i := 11) (by kernel_rfl) rfl ?_
                · go_wp2_with (go_at_call 26; refine (inode_any 5 _ ⟨_, _, _, rfl⟩ _).mono ?_; rintro e q21 ⟨rfl, hbq21⟩)
                  have Eq21 := Eq20.below hbq21
                  have Pq21 := Pq20.below hbq21
                  have Tq21 := rq20.below hbq21
                  have bq21 : Below wy.heap.size wy q21 := bq20.trans (hbq21.mono bq20.size)
                  have lq21 := hbq21.size
                  refine mid_intro bq21 ?_
                  refine gC_one (i := 12) (by kernel_rfl) rfl ?_
                  · go_wp2_with (go_at_call 73; refine (own_any 10000 5 0 [.mk 5 0 [.mk k2 n2 s2, .mk ka na sa], .mk 9 0 [.mk kp np sp, .mk kz nz sz, .mk k2 n2 s2, .mk ka na sa]] _ 2 _ (by simp only [sizes, Tm.size]; omega) (by simp only [sizes, Tm.size]; omega) Tq21).mono ?_; rintro e q22 ⟨A8, c8, rfl, hl8, hfq22, hbq22⟩)
                    have hgq22 := hfq22.mono (B' := wy.heap.size) bq21.size
                    have Eq22 := Eq21.below hbq22
                    have Pq22 := Pq21.below hbq22
                    have Tq22 := Tq21.below hbq22
                    have bq22 : Below wy.heap.size wy q22 := bq21.trans (hbq22.mono bq21.size)
                    have lq22 := hbq22.size
                    refine mid_intro bq22 ?_
                    refine gC_one (i := 13) (by kernel_rfl) rfl ?_
                    · go_wp2_with (go_at_call 25; refine (valid_yes 5 0 _ A8 c8 _ (by simp only [sizes, Tm.size]; omega) hgq22.rd hvr.out).mono ?_; rintro e q23 ⟨rfl, hbq23⟩)
                      have Eq23 := Eq22.below hbq23
                      have Pq23 := Pq22.below hbq23
                      have Tq23 := Tq22.below hbq23
                      have Oq23 := hgq22.below hbq23
                      have bq23 : Below wy.heap.size wy q23 := bq22.trans (hbq23.mono bq22.size)
                      have lq23 := hbq23.size
                      refine mid_intro bq23 ?_
                      refine gC_takeT [14, 15] (f := 2) (l' := #[true, true, true, true, true, true, true, true, true, true, true, true, true, true, true, true, false, false]) (lT := [_, _]) rfl (by kernel_rfl) (by kernel_rfl) (by kernel_rfl) rfl (fun _ _ d _ _ h => by cases d <;> exact h) ?_
                      repeat (first | ((refine takeY_skip (a' := ?_) ?_ ?_ ?_); (rotate_left); (· (simp [Region.wanted, yielded, Go.undef]; done)); (· (simp only [List.getElem_toArray, List.getElem_cons_zero, List.getElem_cons_succ, Act.put, List.setIfInBounds_toArray, List.set_cons_zero, List.set_cons_succ]; exact rfl))) | ((refine takeY_step (v := ?_) (a' := ?_) ?_ ?_ ?_ ?_); (rotate_left 2); (· (simp [Region.wanted, yielded, Go.undef]; done)); (· (intro w' hS'; go_simp; try (with_reducible rfl))); (· (simp only [List.getElem_toArray, List.getElem_cons_zero, List.getElem_cons_succ, Act.put, List.setIfInBounds_toArray, List.set_cons_zero, List.set_cons_succ]; exact rfl))))
                      refine takeY_nil ?_
                      refine gC_end [16, 17] (lB := [_, _]) (by simp) (by kernel_rfl) (by kernel_rfl) rfl ?_
                      have hZ2 := hZy.keep bq23
                      obtain ⟨d0, d1, d2⟩ := hZ2.three
                      have e0 := hZ2.frozen 0
                      have e1 := hZ2.frozen 1
                      have e2 := hZ2.frozen 2
                      have gf := gy.trans (bq23.mono gy.size)
                      have sy := gy.size
                      have lzy := hZy.lt
                      go_wp2_with fail
                      refine bodyPost_ret (v := .tuple #[.agg #[.int .i64 5, .int .i64 0, .slice A8 2 c8], .bool true]) (by simp [results, Tryz.results98, go_sem, d0, d1, d2, zeroV]) rfl ⟨A8, c8, rfl, by simp [Tm.ks], ?_, ?_⟩
                      · exact (((Oq23.setCell (by simp; omega) _).setCell (by simp; omega) _).setCell (by simp; omega) _).mono (by omega)
                      · exact ((gf.setCell (by simp) _).setCell (by simp) _).setCell (by simp) _
theorem iContract_any (k n : Int) (ks : List Tm) (A : Option Addr) (c : Nat) (w : World) (hv : validT (.mk k n ks) = true) (hx : rdx k ks ≠ 0) (hr : Rd w A 0 ks) :
    Calls Tryz.prog 98 #[.agg #[.int .i64 k, .int .i64 n, .slice A ks.length c]] w (GotO w (ctrI (.mk k n ks))) := by
  have har := (validT_arity hv).1
  rcases rdx_inv hx with ⟨h, rfl, h2⟩ | ⟨h, rfl, h2⟩ | ⟨h, rfl, h2⟩ | ⟨h, rfl, h2⟩ | ⟨h, rfl, h2⟩ | ⟨h, rfl, h2⟩
  · obtain ⟨a, b, rfl⟩ := len2 (l := ks) (by have : arity 5 = 2 := rfl; omega)
    obtain ⟨k0, n0, s0⟩ := a
    obtain ⟨k1, n1, s1⟩ := b
    obtain rfl : k0 = 4 := h2
    have ha0 := (validT_arity (validT_kid hv (t := .mk 4 n0 s0) (by simp))).1
    obtain ⟨x, y, rfl⟩ := len2 (l := s0) (by have : arity 4 = 2 := rfl; omega)
    obtain ⟨ka, na, kas⟩ := x
    obtain ⟨kb, nb, kbs⟩ := y
    exact ctr_1 n n0 ka na kas kb nb kbs k1 n1 s1 A c w hv hr
  · obtain ⟨a, b, x, d, rfl⟩ := len4 (l := ks) (by have : arity 9 = 4 := rfl; omega)
    obtain ⟨k1, n1, s1⟩ := b
    obtain ⟨k3, n3, s3⟩ := d
    obtain rfl : k3 = 7 := h2
    have hz : ctrI (.mk 9 n [a, .mk k1 n1 s1, x, .mk 7 n3 s3]) = some (.mk k1 n1 s1) := by
      show vO (.mk k1 n1 s1) = _
      rw [vO, if_pos (validT_kid hv (by simp))]
    rw [hz]
    exact ctr_2 n a k1 n1 s1 x n3 s3 A c w hv hr
  · obtain ⟨a, b, x, d, rfl⟩ := len4 (l := ks) (by have : arity 9 = 4 := rfl; omega)
    obtain ⟨kp, np, sp⟩ := a
    obtain ⟨kz, nz, sz⟩ := b
    obtain ⟨k2, n2, s2⟩ := x
    obtain ⟨k3, n8, s3⟩ := d
    obtain rfl : k3 = 8 := h2
    have ha0 := (validT_arity (validT_kid hv (t := .mk 8 n8 s3) (by simp))).1
    obtain ⟨x, rfl⟩ := len1 (l := s3) (by have : arity 8 = 1 := rfl; omega)
    obtain ⟨ka, na, sa⟩ := x
    have hz : ctrI (.mk 9 n [.mk kp np sp, .mk kz nz sz, .mk k2 n2 s2, .mk 8 n8 [.mk ka na sa]]) = vO (.mk 5 0 [.mk 5 0 [.mk k2 n2 s2, .mk ka na sa], .mk 9 0 [.mk kp np sp, .mk kz nz sz, .mk k2 n2 s2, .mk ka na sa]]) := rfl
    rw [hz]
    exact ctr_3 n kp np sp kz nz sz k2 n2 s2 n8 ka na sa A c w hv hr _ rfl
  · obtain ⟨a, b, x, rfl⟩ := len3 (l := ks) (by have : arity 12 = 3 := rfl; omega)
    obtain ⟨k1, n1, s1⟩ := x
    obtain ⟨k3, n3, s3⟩ := b
    obtain rfl : k3 = 11 := h2
    have hz : ctrI (.mk 12 n [a, .mk 11 n3 s3, .mk k1 n1 s1]) = some (.mk k1 n1 s1) := by
      show vO (.mk k1 n1 s1) = _
      rw [vO, if_pos (validT_kid hv (by simp))]
    rw [hz]
    exact ctr_4 n a n3 s3 k1 n1 s1 A c w hv hr
  · obtain ⟨a, rfl⟩ := len1 (l := ks) (by have : arity 15 = 1 := rfl; omega)
    obtain ⟨k3, n3, s3⟩ := a
    obtain rfl : k3 = 14 := h2
    have hv0 := validT_kid hv (t := .mk 14 n3 s3) (by simp)
    have ha0 := (validT_arity hv0).1
    obtain ⟨a, b, x, rfl⟩ := len3 (l := s3) (by have : arity 14 = 3 := rfl; omega)
    obtain ⟨k1, n1, s1⟩ := b
    have hz : ctrI (.mk 15 n [.mk 14 n3 [a, .mk k1 n1 s1, x]]) = some (.mk k1 n1 s1) := by
      show vO (.mk k1 n1 s1) = _
      rw [vO, if_pos (validT_kid hv0 (by simp))]
    rw [hz]
    exact ctr_5 n n3 a k1 n1 s1 x A c w hv hr
  · obtain ⟨a, rfl⟩ := len1 (l := ks) (by have : arity 16 = 1 := rfl; omega)
    obtain ⟨k3, n3, s3⟩ := a
    obtain rfl : k3 = 14 := h2
    have hv0 := validT_kid hv (t := .mk 14 n3 s3) (by simp)
    have ha0 := (validT_arity hv0).1
    obtain ⟨a, b, x, rfl⟩ := len3 (l := s3) (by have : arity 14 = 3 := rfl; omega)
    obtain ⟨k1, n1, s1⟩ := x
    have hz : ctrI (.mk 16 n [.mk 14 n3 [a, b, .mk k1 n1 s1]]) = some (.mk k1 n1 s1) := by
      show vO (.mk k1 n1 s1) = _
      rw [vO, if_pos (validT_kid hv0 (by simp))]
    rw [hz]
    exact ctr_6 n n3 a b k1 n1 s1 A c w hv hr
end Go.Proofs.YthgmofdfecioaaaGreatDoor
