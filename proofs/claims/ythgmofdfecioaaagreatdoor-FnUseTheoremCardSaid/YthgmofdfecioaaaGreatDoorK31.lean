/-
  Contracts of the functions that the law reaches, and plain lemmas. No condition.
-/
import Derived.Test.YthgmofdfecioaaaGreatDoorK30
namespace Go.Proofs.YthgmofdfecioaaaGreatDoor
set_option linter.unusedSimpArgs false
set_option linter.unusedVariables false
open Go.RowKit
theorem ApF.drew {w : World} {B : Nat} {zs : List Nat} {A : Option Addr} {ks : List Tm} (h : ApF w B zs A ks) : ApF w.drew B zs A ks := by
  obtain ⟨fp, h, hn, hf⟩ := h; exact ⟨fp, h.frame fun b hm => rfl, hn, hf⟩
set_option maxHeartbeats 8000000 in
set_option maxRecDepth 100000 in
theorem iUse_yes {thm : Int} {sR pR sB pB : List UInt8} {s p : Tm} (h : ThmAt thm sR pR sB pB (some s) (some p)) {m : Nat} {pk pn : Int} {pks : List Tm} {kb nb : Int} {kbs : List Tm} {rk rn : Int} {rks : List Tm} (hu : UseOk s p m pk pn pks kb nb kbs rk rn rks) (w : World) (hm : GM w) :
    Calls Tryz.prog 7 #[.int .i64 thm, .int .i64 m] w (GotU w (some (.mk 5 0 [.mk pk pn pks, numT m], .mk rk rn rks))) := by
  obtain ⟨nk, nks, hnum⟩ := numT_eta m
  have hm20 := hu.hm
  have hT := hide (fun w (hm : GM w) => by have := iType_any h w hm; rw [hu.hs] at this; exact this)
  have hP := hide (fun w (hm : GM w) => by have := iProof_any h w hm; rw [hu.hp] at this; exact this)
  have hN := hide (fun w => by have := inumeral_any m (by omega) w; rw [hnum] at this; exact this)
  have hnv := hu.hnv
  rw [hnum] at hnv
  have hnz := validT_size' hnv
  have hbz := validT_size' hu.hbv
  have hI := hide (fun A c U cu (w : World) (h1 : Rd w A 0 kbs) (h2 : Rd w U 0 nks) => by
    have := subst_any kb nb kbs A c 0 nk 0 nks U cu w ⟨by omega, by omega⟩ (by simp only [validT, Bool.and_eq_true] at hnv; exact hnv.1) (by omega) h2 (by omega) (by have := hu.hbv; simp only [validT, Bool.and_eq_true] at this; exact this.1) h1
    rw [← hnum, hu.hj] at this; exact this)
  have hav := hu.hav
  rw [hnum] at hav
  have hszp := validT_size' hu.hpv
  have hsza := validT_size' hav
  have hav' := hide hav
  have hnum' := hide hnum
  have hm' := hide hm
  have hq : (decide ((0 : Int) ≤ (m : Int)) && decide ((m : Int) ≤ 20)) = true := by simp; omega
  clear h hu hav hnum hm hnv
  go_enter Tryz.func7, Tryz.ntmps7
  go_wp2_with (first
    | (go_at_call 12; refine (hP.out _ ((hm'.out.keep g1).alloc _)).mono ?_; rintro e w2 hgo; obtain ⟨A2, c2, rfl, hl2, hf2, hb2⟩ := gotP_at hgo rfl rfl; clear hgo; have hT7 := (Blk.new_ w1 27 #[.int .i64 3, .int .i64 0, .slice (some ⟨b0, off0, none⟩) 2 c1] rfl).keep hb2; replace hZ4 := (hZ4.alloc (.cells #[.int .i64 3, .int .i64 0, .slice (some ⟨b0, off0, none⟩) 2 c1] 27)).keep hb2; replace hZ5 := (hZ5.alloc (.cells #[.int .i64 3, .int .i64 0, .slice (some ⟨b0, off0, none⟩) 2 c1] 27)).keep hb2; replace hRs := (hRs.alloc (.cells #[.int .i64 3, .int .i64 0, .slice (some ⟨b0, off0, none⟩) 2 c1] 27)).below hb2; have s2 : w1.heap.size + 1 ≤ w2.heap.size := (by have := hb2.size; simpa using this); have g2 : Below w.heap.size w w2 := (g1.alloc g1.size _).trans (hb2.mono (by have := g1.size; simp; omega)); clear i1 i2 i3)
    | (go_at_call 24; refine (isNumber_any _ _).mono ?_; rw [hq]; rintro e w9 ⟨rfl, rfl⟩)
    | (go_at_call 14; refine (hT.out _ ((hm'.out.alloc _).alloc _)).mono ?_; rintro e w1 hgo; obtain ⟨A1, c1, rfl, hl1, hf1, hb1⟩ := gotP_at hgo rfl rfl; clear hgo; have hZ4 := ((Blk.new_ w 27 #[.int .i64 0, .int .i64 0, .slice none 0 0] rfl).alloc (.cells #[.int .i64 0, .int .i64 0, .slice none 0 0] 27)).keep hb1; have hZ5 : Blk w1 (w.heap.size + 1) #[.int .i64 0, .int .i64 0, .slice none 0 0] := (Blk.new_ _ 27 _ (by simp)).keep hb1; have s1 : w.heap.size + 1 + 1 ≤ w1.heap.size := (by have := hb1.size; simpa using this); have g1 : Below w.heap.size w w1 := (((Below.refl _ _).alloc (Nat.le_refl _) _).alloc (by simp) _).trans (hb1.mono (by simp; omega)); have hRs := hf1.rd; obtain ⟨b0, off0, k0', n0', ks0', A0', c0', hA0, hk0, i1, i2, i3, hl0', hr0'⟩ := hRs.at_ (j := 0) (by simp); injection hk0 with h1 h2 h3; subst h1 h2 h3 hA0; simp only [Nat.zero_mul, Nat.add_zero] at i1 i2 i3; have lb0 := World.block_lt_of_cell? _ _ i1))
  refine name_world ?_
  intro wy hwy
  have sy0 := congrArg (fun w : World => w.heap.size) hwy
  simp at sy0
  have ky : Below w2.heap.size w2 wy := by rw [hwy]; exact (Below.refl _ _).alloc (Nat.le_refl _) _
  have hT9 : Blk wy w2.heap.size #[.int .i64 pk, .int .i64 pn, .slice A2 pks.length c2] := by rw [hwy]; exact Blk.new_ _ 27 _ rfl
  have sy : w2.heap.size < wy.heap.size := by omega
  clear hwy sy0
  have gy : Below w.heap.size w wy := g2.trans (ky.mono g2.size)
  replace hZ4 := hZ4.keep ky
  replace hZ5 := hZ5.keep ky
  replace hT7 := hT7.keep ky
  replace hRs := hRs.below ky
  obtain ⟨fpP, hPo, hPn, hPl⟩ := hf2
  replace hPo : Ow wy A2 pks fpP := hPo.frame fun b hb => ky.block b (hPo.lt b hb)
  have hPl2 : ∀ b, b ∈ fpP → w1.heap.size ≤ b ∧ b < wy.heap.size := fun b hb => ⟨by have := hPl b hb; simp at this; omega, hPo.lt b hb⟩
  clear hPl
  have v0 := rule_of hT9.three.1
  have v1 := rule_of hT9.three.2.1
  have v2 := rule_of hT9.three.2.2
  go_cut [11, 12] (fun s11 s12 wx => ∃ (g11 row ca : Nat), s11 = .pointer (some ⟨g11, 0, none⟩) ∧ s12 = .bool true ∧ Blk wx g11 #[.int .i64 5, .int .i64 0, .slice (some ⟨row, 0, none⟩) 2 ca] ∧ ApF wx w1.heap.size [g11] (some ⟨row, 0, none⟩) [.mk pk pn pks, .mk nk 0 nks] ∧ Below wy.heap.size wy wx ∧ wy.heap.size ≤ g11 ∧ g11 < wx.heap.size)
  case first =>
    obtain ⟨q0, hq0⟩ : ∃ q0, q0 = wy.drew := ⟨_, rfl⟩
    have bq0 : Below wy.heap.size wy q0 := by rw [hq0]; exact (Below.refl _ _).drew
    refine gC_start (fun w' => Below wy.heap.size wy w') [6, 7, 8, 10, 11] 12 (by kernel_rfl) rfl ?_
    refine gC_take [0, 1] (f := 10) (l' := #[true, true, false, false, false, false, false, false, false, false, false, false]) (lT := [_, _]) (by rw [← hq0]; exact bq0) rfl (by kernel_rfl) (by kernel_rfl) (by kernel_rfl) rfl (fun _ _ d _ _ h => by cases d <;> exact h) ?_
    repeat (first | ((refine takeY_skip (a' := ?_) ?_ ?_ ?_); (rotate_left); (· (simp [Region.wanted, yielded]; done)); (· (simp only [List.getElem_toArray, List.getElem_cons_zero, List.getElem_cons_succ, Act.put, List.setIfInBounds_toArray, List.set_cons_zero, List.set_cons_succ]; exact rfl))) | ((refine takeY_step (v := ?_) (a' := ?_) ?_ ?_ ?_ ?_); (rotate_left 2); (· (simp [Region.wanted, yielded]; done)); (· (intro w' hS'; go_simp; try (with_reducible rfl))); (· (simp only [List.getElem_toArray, List.getElem_cons_zero, List.getElem_cons_succ, Act.put, List.setIfInBounds_toArray, List.set_cons_zero, List.set_cons_succ]; exact rfl))))
    refine takeY_nil ?_
    rw [← hq0]
    clear hq0
    refine gC_two (i := 2) (j := 9) (by kernel_rfl) rfl rfl ?_ ?_
    · have swq1 := bq0.size
      go_wp2_with (go_at_call 27; refine (hN.out _).mono ?_; rintro e q1 ⟨A3, c3, rfl, hl3, hfq1, hbq1⟩)
      have Fq1 : ApF q1 wy.heap.size [] A3 nks := hfq1.apf swq1 (fun z hz => by simp at hz <;> omega)
      have bq1 : Below wy.heap.size wy q1 := bq0.trans (hbq1.mono bq0.size)
      have lq1 := hbq1.size
      refine mid_intro bq1 ?_
      refine gC_two (i := 3) (j := 9) (by kernel_rfl) rfl rfl ?_ ?_
      · have swq2 := bq1.size
        go_wp2_with fail
        refine name_midw ?_
        intro q2 hn
        have hbq2 : Below q1.heap.size q1 q2 := by rw [hn]; exact (Below.refl _ _).alloc (Nat.le_refl _) _
        have hgq2 : Blk q2 q1.heap.size #[.int .i64 pk, .int .i64 pn, .slice A2 pks.length c2, .int .i64 nk, .int .i64 0, .slice A3 nks.length c3] := by rw [hn]; exact Blk.new_ _ 27 _ rfl
        clear hn
        have Pq2 : Ow q1 A2 pks fpP := hPo.frame fun b hb => bq1.block b (hPl2 b hb).2
        have Hq2 : ApF q2 w1.heap.size [] (some ⟨q1.heap.size, 0, none⟩) [.mk pk pn pks, .mk nk 0 nks] := apf_row Pq2 hPn hPl2 Fq1 hl2 hl3 hgq2 hbq2 (fun z hz => by simp at hz <;> omega) (by omega) (by omega)
        have bq2 : Below wy.heap.size wy q2 := bq1.trans (hbq2.mono bq1.size)
        have lq2 := hbq2.size
        refine mid_intro bq2 ?_
        refine gC_two (i := 4) (j := 9) (by kernel_rfl) rfl rfl ?_ ?_
        · go_wp2_with (go_at_call 26; refine (inode_any 5 _ ⟨_, _, _, rfl⟩ _).mono ?_; rintro e q3 ⟨rfl, hbq3⟩)
          have Hq3 := Hq2.below hbq3
          have bq3 : Below wy.heap.size wy q3 := bq2.trans (hbq3.mono bq2.size)
          have lq3 := hbq3.size
          refine mid_intro bq3 ?_
          refine gC_two (i := 5) (j := 9) (by kernel_rfl) rfl rfl ?_ ?_
          · go_wp2_with (go_at_call 25; refine (valid_yes 5 0 [.mk pk pn pks, .mk nk 0 nks] _ 2 _ (by omega) Hq3.rd hav'.out).mono ?_; rintro e q4 ⟨rfl, hbq4⟩)
            have Hq4 := Hq3.below hbq4
            have bq4 : Below wy.heap.size wy q4 := bq3.trans (hbq4.mono bq3.size)
            have lq4 := hbq4.size
            refine mid_intro bq4 ?_
            refine gC_takeT [6, 7, 8] (f := 3) (l' := #[true, true, true, true, true, true, true, true, true, false, false, false]) (lT := [_, _, _]) rfl (by kernel_rfl) (by kernel_rfl) (by kernel_rfl) rfl (fun _ _ d _ _ h => by cases d <;> exact h) ?_
            repeat (first | ((refine takeY_skip (a' := ?_) ?_ ?_ ?_); (rotate_left); (· (simp [Region.wanted, yielded]; done)); (· (simp only [List.getElem_toArray, List.getElem_cons_zero, List.getElem_cons_succ, Act.put, List.setIfInBounds_toArray, List.set_cons_zero, List.set_cons_succ]; exact rfl))) | ((refine takeY_step (v := ?_) (a' := ?_) ?_ ?_ ?_ ?_); (rotate_left 2); (· (simp [Region.wanted, yielded]; done)); (· (intro w' hS'; go_simp; try (with_reducible rfl))); (· (simp only [List.getElem_toArray, List.getElem_cons_zero, List.getElem_cons_succ, Act.put, List.setIfInBounds_toArray, List.set_cons_zero, List.set_cons_succ]; exact rfl))))
            refine takeY_nil ?_
            refine gC_one (i := 9) (by kernel_rfl) rfl ?_
            · have szq5 := bq4.size
              go_wp2_with fail
              refine name_midw ?_
              intro q5 hn
              have bq5 : Below wy.heap.size wy q5 := by rw [hn]; exact bq4.alloc szq5 _
              have zq5 : Blk q5 q4.heap.size #[.int .i64 0, .int .i64 0, .slice none 0 0] := by rw [hn]; exact Blk.new_ _ 27 _ rfl
              have eq5 : q5.heap.size = q4.heap.size + 1 := by rw [hn]; simp
              have kq5 : Below q4.heap.size q4 q5 := by rw [hn]; exact (Below.refl _ _).alloc (Nat.le_refl _) _
              have seq5 : q4.heap.size < q5.heap.size := by omega
              clear hn eq5
              have Hq5 := Hq4.add kq5
              refine mid_intro bq5 ?_
              refine gC_end [10, 11] (lB := [_, _]) (by simp) (by kernel_rfl) (by kernel_rfl) rfl ?_
              obtain ⟨d0, d1, d2⟩ := zq5.three
              have e0 := zq5.frozen 0
              have e1 := zq5.frozen 1
              have e2 := zq5.frozen 2
              have szl := zq5.lt
              have szb : wy.heap.size ≤ q4.heap.size := by first | exact bq0.size | exact bq4.size
              go_wp2_with fail
              go_meet
              exact ⟨q4.heap.size, q1.heap.size, 2, rfl, rfl, ((zq5.set_ 0 _).set_ 1 _).set_ 2 _, ((Hq5.setZ (a := ⟨q4.heap.size, 0, none⟩) (.inr (by simp)) _).setZ (a := ⟨q4.heap.size, 1, none⟩) (.inr (by simp)) _).setZ (a := ⟨q4.heap.size, 2, none⟩) (.inr (by simp)) _, ((bq5.setCell (by simp <;> omega) _).setCell (by simp <;> omega) _).setCell (by simp <;> omega) _, szb, by simpa using szl⟩
          · have szq6 := bq3.size
            go_wp2_with fail
            refine name_midw ?_
            intro q6 hn
            have bq6 : Below wy.heap.size wy q6 := by rw [hn]; exact bq3.alloc szq6 _
            have zq6 : Blk q6 q3.heap.size #[.int .i64 0, .int .i64 0, .slice none 0 0] := by rw [hn]; exact Blk.new_ _ 27 _ rfl
            have eq6 : q6.heap.size = q3.heap.size + 1 := by rw [hn]; simp
            have kq6 : Below q3.heap.size q3 q6 := by rw [hn]; exact (Below.refl _ _).alloc (Nat.le_refl _) _
            have seq6 : q3.heap.size < q6.heap.size := by omega
            clear hn eq6
            have Hq6 := Hq3.add kq6
            refine mid_intro bq6 ?_
            refine gC_one (i := 5) (by kernel_rfl) rfl ?_
            · go_wp2_with (go_at_call 25; refine (valid_yes 5 0 [.mk pk pn pks, .mk nk 0 nks] _ 2 _ (by omega) Hq6.rd hav'.out).mono ?_; rintro e q7 ⟨rfl, hbq7⟩)
              have zq7 := zq6.keep hbq7
              have Hq7 := Hq6.below hbq7
              have bq7 : Below wy.heap.size wy q7 := bq6.trans (hbq7.mono bq6.size)
              have lq7 := hbq7.size
              refine mid_intro bq7 ?_
              refine gC_takeT [6, 7, 8] (f := 2) (l' := #[true, true, true, true, true, true, true, true, true, true, false, false]) (lT := [_, _, _]) rfl (by kernel_rfl) (by kernel_rfl) (by kernel_rfl) rfl (fun _ _ d _ _ h => by cases d <;> exact h) ?_
              repeat (first | ((refine takeY_skip (a' := ?_) ?_ ?_ ?_); (rotate_left); (· (simp [Region.wanted, yielded]; done)); (· (simp only [List.getElem_toArray, List.getElem_cons_zero, List.getElem_cons_succ, Act.put, List.setIfInBounds_toArray, List.set_cons_zero, List.set_cons_succ]; exact rfl))) | ((refine takeY_step (v := ?_) (a' := ?_) ?_ ?_ ?_ ?_); (rotate_left 2); (· (simp [Region.wanted, yielded]; done)); (· (intro w' hS'; go_simp; try (with_reducible rfl))); (· (simp only [List.getElem_toArray, List.getElem_cons_zero, List.getElem_cons_succ, Act.put, List.setIfInBounds_toArray, List.set_cons_zero, List.set_cons_succ]; exact rfl))))
              refine takeY_nil ?_
              refine gC_end [10, 11] (lB := [_, _]) (by simp) (by kernel_rfl) (by kernel_rfl) rfl ?_
              obtain ⟨d0, d1, d2⟩ := zq7.three
              have e0 := zq7.frozen 0
              have e1 := zq7.frozen 1
              have e2 := zq7.frozen 2
              have szl := zq7.lt
              have szb : wy.heap.size ≤ q3.heap.size := by first | exact bq0.size | exact bq3.size
              go_wp2_with fail
              go_meet
              exact ⟨q3.heap.size, q1.heap.size, 2, rfl, rfl, ((zq7.set_ 0 _).set_ 1 _).set_ 2 _, ((Hq7.setZ (a := ⟨q3.heap.size, 0, none⟩) (.inr (by simp)) _).setZ (a := ⟨q3.heap.size, 1, none⟩) (.inr (by simp)) _).setZ (a := ⟨q3.heap.size, 2, none⟩) (.inr (by simp)) _, ((bq7.setCell (by simp <;> omega) _).setCell (by simp <;> omega) _).setCell (by simp <;> omega) _, szb, by simpa using szl⟩
        · have szq8 := bq2.size
          go_wp2_with fail
          refine name_midw ?_
          intro q8 hn
          have bq8 : Below wy.heap.size wy q8 := by rw [hn]; exact bq2.alloc szq8 _
          have zq8 : Blk q8 q2.heap.size #[.int .i64 0, .int .i64 0, .slice none 0 0] := by rw [hn]; exact Blk.new_ _ 27 _ rfl
          have eq8 : q8.heap.size = q2.heap.size + 1 := by rw [hn]; simp
          have kq8 : Below q2.heap.size q2 q8 := by rw [hn]; exact (Below.refl _ _).alloc (Nat.le_refl _) _
          have seq8 : q2.heap.size < q8.heap.size := by omega
          clear hn eq8
          have Hq8 := Hq2.add kq8
          refine mid_intro bq8 ?_
          refine gC_one (i := 4) (by kernel_rfl) rfl ?_
          · go_wp2_with (go_at_call 26; refine (inode_any 5 _ ⟨_, _, _, rfl⟩ _).mono ?_; rintro e q9 ⟨rfl, hbq9⟩)
            have zq9 := zq8.keep hbq9
            have Hq9 := Hq8.below hbq9
            have bq9 : Below wy.heap.size wy q9 := bq8.trans (hbq9.mono bq8.size)
            have lq9 := hbq9.size
            refine mid_intro bq9 ?_
            refine gC_one (i := 5) (by kernel_rfl) rfl ?_
            · go_wp2_with (go_at_call 25; refine (valid_yes 5 0 [.mk pk pn pks, .mk nk 0 nks] _ 2 _ (by omega) Hq9.rd hav'.out).mono ?_; rintro e q10 ⟨rfl, hbq10⟩)
              have zq10 := zq9.keep hbq10
              have Hq10 := Hq9.below hbq10
              have bq10 : Below wy.heap.size wy q10 := bq9.trans (hbq10.mono bq9.size)
              have lq10 := hbq10.size
              refine mid_intro bq10 ?_
              refine gC_takeT [6, 7, 8] (f := 2) (l' := #[true, true, true, true, true, true, true, true, true, true, false, false]) (lT := [_, _, _]) rfl (by kernel_rfl) (by kernel_rfl) (by kernel_rfl) rfl (fun _ _ d _ _ h => by cases d <;> exact h) ?_
              repeat (first | ((refine takeY_skip (a' := ?_) ?_ ?_ ?_); (rotate_left); (· (simp [Region.wanted, yielded]; done)); (· (simp only [List.getElem_toArray, List.getElem_cons_zero, List.getElem_cons_succ, Act.put, List.setIfInBounds_toArray, List.set_cons_zero, List.set_cons_succ]; exact rfl))) | ((refine takeY_step (v := ?_) (a' := ?_) ?_ ?_ ?_ ?_); (rotate_left 2); (· (simp [Region.wanted, yielded]; done)); (· (intro w' hS'; go_simp; try (with_reducible rfl))); (· (simp only [List.getElem_toArray, List.getElem_cons_zero, List.getElem_cons_succ, Act.put, List.setIfInBounds_toArray, List.set_cons_zero, List.set_cons_succ]; exact rfl))))
              refine takeY_nil ?_
              refine gC_end [10, 11] (lB := [_, _]) (by simp) (by kernel_rfl) (by kernel_rfl) rfl ?_
              obtain ⟨d0, d1, d2⟩ := zq10.three
              have e0 := zq10.frozen 0
              have e1 := zq10.frozen 1
              have e2 := zq10.frozen 2
              have szl := zq10.lt
              have szb : wy.heap.size ≤ q2.heap.size := by first | exact bq0.size | exact bq2.size
              go_wp2_with fail
              go_meet
              exact ⟨q2.heap.size, q1.heap.size, 2, rfl, rfl, ((zq10.set_ 0 _).set_ 1 _).set_ 2 _, ((Hq10.setZ (a := ⟨q2.heap.size, 0, none⟩) (.inr (by simp)) _).setZ (a := ⟨q2.heap.size, 1, none⟩) (.inr (by simp)) _).setZ (a := ⟨q2.heap.size, 2, none⟩) (.inr (by simp)) _, ((bq10.setCell (by simp <;> omega) _).setCell (by simp <;> omega) _).setCell (by simp <;> omega) _, szb, by simpa using szl⟩
      · have szq11 := bq1.size
        go_wp2_with fail
        refine name_midw ?_
        intro q11 hn
        have bq11 : Below wy.heap.size wy q11 := by rw [hn]; exact bq1.alloc szq11 _
        have zq11 : Blk q11 q1.heap.size #[.int .i64 0, .int .i64 0, .slice none 0 0] := by rw [hn]; exact Blk.new_ _ 27 _ rfl
        have eq11 : q11.heap.size = q1.heap.size + 1 := by rw [hn]; simp
        have kq11 : Below q1.heap.size q1 q11 := by rw [hn]; exact (Below.refl _ _).alloc (Nat.le_refl _) _
        have seq11 : q1.heap.size < q11.heap.size := by omega
        clear hn eq11
        have Fq11 := Fq1.add kq11
        refine mid_intro bq11 ?_
        refine gC_one (i := 3) (by kernel_rfl) rfl ?_
        · have swq12 := bq11.size
          have szzq12 := zq11.lt
          go_wp2_with fail
          refine name_midw ?_
          intro q12 hn
          have hbq12 : Below q11.heap.size q11 q12 := by rw [hn]; exact (Below.refl _ _).alloc (Nat.le_refl _) _
          have hgq12 : Blk q12 q11.heap.size #[.int .i64 pk, .int .i64 pn, .slice A2 pks.length c2, .int .i64 nk, .int .i64 0, .slice A3 nks.length c3] := by rw [hn]; exact Blk.new_ _ 27 _ rfl
          clear hn
          have Pq12 : Ow q11 A2 pks fpP := hPo.frame fun b hb => bq11.block b (hPl2 b hb).2
          have Hq12 : ApF q12 w1.heap.size [q1.heap.size] (some ⟨q11.heap.size, 0, none⟩) [.mk pk pn pks, .mk nk 0 nks] := apf_row Pq12 hPn hPl2 Fq11 hl2 hl3 hgq12 hbq12 (fun z hz => by simp at hz <;> omega) (by omega) (by omega)
          have zq12 := zq11.keep hbq12
          have bq12 : Below wy.heap.size wy q12 := bq11.trans (hbq12.mono bq11.size)
          have lq12 := hbq12.size
          refine mid_intro bq12 ?_
          refine gC_one (i := 4) (by kernel_rfl) rfl ?_
          · go_wp2_with (go_at_call 26; refine (inode_any 5 _ ⟨_, _, _, rfl⟩ _).mono ?_; rintro e q13 ⟨rfl, hbq13⟩)
            have zq13 := zq12.keep hbq13
            have Hq13 := Hq12.below hbq13
            have bq13 : Below wy.heap.size wy q13 := bq12.trans (hbq13.mono bq12.size)
            have lq13 := hbq13.size
            refine mid_intro bq13 ?_
            refine gC_one (i := 5) (by kernel_rfl) rfl ?_
            · go_wp2_with (go_at_call 25; refine (valid_yes 5 0 [.mk pk pn pks, .mk nk 0 nks] _ 2 _ (by omega) Hq13.rd hav'.out).mono ?_; rintro e q14 ⟨rfl, hbq14⟩)
              have zq14 := zq13.keep hbq14
              have Hq14 := Hq13.below hbq14
              have bq14 : Below wy.heap.size wy q14 := bq13.trans (hbq14.mono bq13.size)
              have lq14 := hbq14.size
              refine mid_intro bq14 ?_
              refine gC_takeT [6, 7, 8] (f := 2) (l' := #[true, true, true, true, true, true, true, true, true, true, false, false]) (lT := [_, _, _]) rfl (by kernel_rfl) (by kernel_rfl) (by kernel_rfl) rfl (fun _ _ d _ _ h => by cases d <;> exact h) ?_
              repeat (first | ((refine takeY_skip (a' := ?_) ?_ ?_ ?_); (rotate_left); (· (simp [Region.wanted, yielded]; done)); (· (simp only [List.getElem_toArray, List.getElem_cons_zero, List.getElem_cons_succ, Act.put, List.setIfInBounds_toArray, List.set_cons_zero, List.set_cons_succ]; exact rfl))) | ((refine takeY_step (v := ?_) (a' := ?_) ?_ ?_ ?_ ?_); (rotate_left 2); (· (simp [Region.wanted, yielded]; done)); (· (intro w' hS'; go_simp; try (with_reducible rfl))); (· (simp only [List.getElem_toArray, List.getElem_cons_zero, List.getElem_cons_succ, Act.put, List.setIfInBounds_toArray, List.set_cons_zero, List.set_cons_succ]; exact rfl))))
              refine takeY_nil ?_
              refine gC_end [10, 11] (lB := [_, _]) (by simp) (by kernel_rfl) (by kernel_rfl) rfl ?_
              obtain ⟨d0, d1, d2⟩ := zq14.three
              have e0 := zq14.frozen 0
              have e1 := zq14.frozen 1
              have e2 := zq14.frozen 2
              have szl := zq14.lt
              have szb : wy.heap.size ≤ q1.heap.size := by first | exact bq0.size | exact bq1.size
              go_wp2_with fail
              go_meet
              exact ⟨q1.heap.size, q11.heap.size, 2, rfl, rfl, ((zq14.set_ 0 _).set_ 1 _).set_ 2 _, ((Hq14.setZ (a := ⟨q1.heap.size, 0, none⟩) (.inr (by simp)) _).setZ (a := ⟨q1.heap.size, 1, none⟩) (.inr (by simp)) _).setZ (a := ⟨q1.heap.size, 2, none⟩) (.inr (by simp)) _, ((bq14.setCell (by simp <;> omega) _).setCell (by simp <;> omega) _).setCell (by simp <;> omega) _, szb, by simpa using szl⟩
    · have szq15 := bq0.size
      go_wp2_with fail
      refine name_midw ?_
      intro q15 hn
      have bq15 : Below wy.heap.size wy q15 := by rw [hn]; exact bq0.alloc szq15 _
      have zq15 : Blk q15 q0.heap.size #[.int .i64 0, .int .i64 0, .slice none 0 0] := by rw [hn]; exact Blk.new_ _ 27 _ rfl
      have eq15 : q15.heap.size = q0.heap.size + 1 := by rw [hn]; simp
      have kq15 : Below q0.heap.size q0 q15 := by rw [hn]; exact (Below.refl _ _).alloc (Nat.le_refl _) _
      have seq15 : q0.heap.size < q15.heap.size := by omega
      clear hn eq15
      refine mid_intro bq15 ?_
      refine gC_one (i := 2) (by kernel_rfl) rfl ?_
      · have swq16 := bq15.size
        have szzq16 := zq15.lt
        go_wp2_with (go_at_call 27; refine (hN.out _).mono ?_; rintro e q16 ⟨A3, c3, rfl, hl3, hfq16, hbq16⟩)
        have zq16 := zq15.keep hbq16
        have Fq16 : ApF q16 wy.heap.size [q0.heap.size] A3 nks := hfq16.apf swq16 (fun z hz => by simp at hz <;> omega)
        have bq16 : Below wy.heap.size wy q16 := bq15.trans (hbq16.mono bq15.size)
        have lq16 := hbq16.size
        refine mid_intro bq16 ?_
        refine gC_one (i := 3) (by kernel_rfl) rfl ?_
        · have swq17 := bq16.size
          have szzq17 := zq16.lt
          go_wp2_with fail
          refine name_midw ?_
          intro q17 hn
          have hbq17 : Below q16.heap.size q16 q17 := by rw [hn]; exact (Below.refl _ _).alloc (Nat.le_refl _) _
          have hgq17 : Blk q17 q16.heap.size #[.int .i64 pk, .int .i64 pn, .slice A2 pks.length c2, .int .i64 nk, .int .i64 0, .slice A3 nks.length c3] := by rw [hn]; exact Blk.new_ _ 27 _ rfl
          clear hn
          have Pq17 : Ow q16 A2 pks fpP := hPo.frame fun b hb => bq16.block b (hPl2 b hb).2
          have Hq17 : ApF q17 w1.heap.size [q0.heap.size] (some ⟨q16.heap.size, 0, none⟩) [.mk pk pn pks, .mk nk 0 nks] := apf_row Pq17 hPn hPl2 Fq16 hl2 hl3 hgq17 hbq17 (fun z hz => by simp at hz <;> omega) (by omega) (by omega)
          have zq17 := zq16.keep hbq17
          have bq17 : Below wy.heap.size wy q17 := bq16.trans (hbq17.mono bq16.size)
          have lq17 := hbq17.size
          refine mid_intro bq17 ?_
          refine gC_one (i := 4) (by kernel_rfl) rfl ?_
          · go_wp2_with (go_at_call 26; refine (inode_any 5 _ ⟨_, _, _, rfl⟩ _).mono ?_; rintro e q18 ⟨rfl, hbq18⟩)
            have zq18 := zq17.keep hbq18
            have Hq18 := Hq17.below hbq18
            have bq18 : Below wy.heap.size wy q18 := bq17.trans (hbq18.mono bq17.size)
            have lq18 := hbq18.size
            refine mid_intro bq18 ?_
            refine gC_one (i := 5) (by kernel_rfl) rfl ?_
            · go_wp2_with (go_at_call 25; refine (valid_yes 5 0 [.mk pk pn pks, .mk nk 0 nks] _ 2 _ (by omega) Hq18.rd hav'.out).mono ?_; rintro e q19 ⟨rfl, hbq19⟩)
              have zq19 := zq18.keep hbq19
              have Hq19 := Hq18.below hbq19
              have bq19 : Below wy.heap.size wy q19 := bq18.trans (hbq19.mono bq18.size)
              have lq19 := hbq19.size
              refine mid_intro bq19 ?_
              refine gC_takeT [6, 7, 8] (f := 2) (l' := #[true, true, true, true, true, true, true, true, true, true, false, false]) (lT := [_, _, _]) rfl (by kernel_rfl) (by kernel_rfl) (by kernel_rfl) rfl (fun _ _ d _ _ h => by cases d <;> exact h) ?_
              repeat (first | ((refine takeY_skip (a' := ?_) ?_ ?_ ?_); (rotate_left); (· (simp [Region.wanted, yielded]; done)); (· (simp only [List.getElem_toArray, List.getElem_cons_zero, List.getElem_cons_succ, Act.put, List.setIfInBounds_toArray, List.set_cons_zero, List.set_cons_succ]; exact rfl))) | ((refine takeY_step (v := ?_) (a' := ?_) ?_ ?_ ?_ ?_); (rotate_left 2); (· (simp [Region.wanted, yielded]; done)); (· (intro w' hS'; go_simp; try (with_reducible rfl))); (· (simp only [List.getElem_toArray, List.getElem_cons_zero, List.getElem_cons_succ, Act.put, List.setIfInBounds_toArray, List.set_cons_zero, List.set_cons_succ]; exact rfl))))
              refine takeY_nil ?_
              refine gC_end [10, 11] (lB := [_, _]) (by simp) (by kernel_rfl) (by kernel_rfl) rfl ?_
              obtain ⟨d0, d1, d2⟩ := zq19.three
              have e0 := zq19.frozen 0
              have e1 := zq19.frozen 1
              have e2 := zq19.frozen 2
              have szl := zq19.lt
              have szb : wy.heap.size ≤ q0.heap.size := by first | exact bq0.size | exact bq0.size
              go_wp2_with fail
              go_meet
              exact ⟨q0.heap.size, q16.heap.size, 2, rfl, rfl, ((zq19.set_ 0 _).set_ 1 _).set_ 2 _, ((Hq19.setZ (a := ⟨q0.heap.size, 0, none⟩) (.inr (by simp)) _).setZ (a := ⟨q0.heap.size, 1, none⟩) (.inr (by simp)) _).setZ (a := ⟨q0.heap.size, 2, none⟩) (.inr (by simp)) _, ((bq19.setCell (by simp <;> omega) _).setCell (by simp <;> omega) _).setCell (by simp <;> omega) _, szb, by simpa using szl⟩
  case rest =>
    obtain ⟨g11, row, ca, rfl, rfl, hT11, hAp, hx, hg11, hg11l⟩ := hcut
    clear v0 v1 v2
    go_upto_region 6 with fail
    refine name_world ?_
    intro wz hwz
    subst hwz
    replace hZ4 := hZ4.keep hx
    replace hZ5 := hZ5.keep hx
    replace hT7 := hT7.keep hx
    replace hRs := hRs.below hx
    have gz : Below w.heap.size w wz := gy.trans (hx.mono gy.size)
    have sz := hx.size
    obtain ⟨b, off, k', n', ks', A', c', hA1, hkj, hc1, hc2, hc3, hl', hr'⟩ := hRs.at_ (j := 1) (by simp)
    injection hkj with h1 h2 h3
    subst h1 h2 h3
    injection hA1 with hA1
    injection hA1 with hA2 hA3
    subst hA2 hA3
    have y2 := rule_of hT7.three.2.2
    have r0 := rule_of hc1
    have r1 := rule_of hc2
    have r2 := rule_of hc3
    clear hc1 hc2 hc3
    go_cut [13, 14] (fun s13 s14 wx => ∃ (g13 : Nat) (A7 : Option Addr) (c7 : Nat), s13 = .pointer (some ⟨g13, 0, none⟩) ∧ s14 = .bool true ∧ Blk wx g13 #[.int .i64 rk, .int .i64 rn, .slice A7 rks.length c7] ∧ rks.length ≤ 9223372036854775807 ∧ ApF wx wz.heap.size [g13] A7 rks ∧ Below wz.heap.size wz wx ∧ wz.heap.size ≤ g13)
    case first =>
      obtain ⟨q0, hq0⟩ : ∃ q0, q0 = wz.drew := ⟨_, rfl⟩
      have bq0 : Below wz.heap.size wz q0 := by rw [hq0]; exact (Below.refl _ _).drew
      refine gC_start (fun w' => Below wz.heap.size wz w') [7, 8, 9, 11, 12] 13 (by kernel_rfl) rfl ?_
      refine gC_take [0, 1, 2, 3, 4] (f := 8) (l' := #[true, true, true, true, true, false, false, false, false, false, false, false, false]) (lT := [_, _, _, _, _]) (by rw [← hq0]; exact bq0) rfl (by kernel_rfl) (by kernel_rfl) (by kernel_rfl) rfl (fun _ _ d _ _ h => by cases d <;> exact h) ?_
      repeat (first | ((refine takeY_skip (a' := ?_) ?_ ?_ ?_); (rotate_left); (· (simp [Region.wanted, yielded]; done)); (· (simp only [List.getElem_toArray, List.getElem_cons_zero, List.getElem_cons_succ, Act.put, List.setIfInBounds_toArray, List.set_cons_zero, List.set_cons_succ]; exact rfl))) | ((refine takeY_step (v := ?_) (a' := ?_) ?_ ?_ ?_ ?_); (rotate_left 2); (· (simp [Region.wanted, yielded]; done)); (· (intro w' hS'; go_simp; try (with_reducible rfl))); (· (simp only [List.getElem_toArray, List.getElem_cons_zero, List.getElem_cons_succ, Act.put, List.setIfInBounds_toArray, List.set_cons_zero, List.set_cons_succ]; exact rfl))))
      refine takeY_nil ?_
      rw [← hq0]
      clear hq0
      refine gC_two (i := 5) (j := 10) (by kernel_rfl) rfl rfl ?_ ?_
      · have swq1 := bq0.size
        go_wp2_with (go_at_call 27; refine (hN.out _).mono ?_; rintro e q1 ⟨A3, c3, rfl, hl3, hfq1, hbq1⟩)
        have Fq1 : ApF q1 wz.heap.size [] A3 nks := hfq1.apf swq1 (fun z hz => by simp at hz <;> omega)
        have bq1 : Below wz.heap.size wz q1 := bq0.trans (hbq1.mono bq0.size)
        have lq1 := hbq1.size
        refine mid_intro bq1 ?_
        refine gC_two (i := 6) (j := 10) (by kernel_rfl) rfl rfl ?_ ?_
        · have swq2 := bq1.size
          go_wp2_with (go_at_call 28; refine (hI.out A' c' A3 c3 _ (hr'.below bq1) Fq1.rd).mono ?_; rintro e q2 hgo; obtain ⟨A7, c7, rfl, hl7, hfq2, hbq2⟩ := gotO_some hgo; clear hgo)
          have Hq2 : ApF q2 wz.heap.size [] A7 rks := hfq2.apf swq2 (fun z hz => by simp at hz <;> omega)
          have bq2 : Below wz.heap.size wz q2 := bq1.trans (hbq2.mono bq1.size)
          have lq2 := hbq2.size
          refine mid_intro bq2 ?_
          refine gC_takeT [7, 8, 9] (f := 3) (l' := #[true, true, true, true, true, true, true, true, true, true, false, false, false]) (lT := [_, _, _]) rfl (by kernel_rfl) (by kernel_rfl) (by kernel_rfl) rfl (fun _ _ d _ _ h => by cases d <;> exact h) ?_
          repeat (first | ((refine takeY_skip (a' := ?_) ?_ ?_ ?_); (rotate_left); (· (simp [Region.wanted, yielded]; done)); (· (simp only [List.getElem_toArray, List.getElem_cons_zero, List.getElem_cons_succ, Act.put, List.setIfInBounds_toArray, List.set_cons_zero, List.set_cons_succ]; exact rfl))) | ((refine takeY_step (v := ?_) (a' := ?_) ?_ ?_ ?_ ?_); (rotate_left 2); (· (simp [Region.wanted, yielded]; done)); (· (intro w' hS'; go_simp; try (with_reducible rfl))); (· (simp only [List.getElem_toArray, List.getElem_cons_zero, List.getElem_cons_succ, Act.put, List.setIfInBounds_toArray, List.set_cons_zero, List.set_cons_succ]; exact rfl))))
          refine takeY_nil ?_
          refine gC_one (i := 10) (by kernel_rfl) rfl ?_
          · have szq3 := bq2.size
            go_wp2_with fail
            refine name_midw ?_
            intro q3 hn
            have bq3 : Below wz.heap.size wz q3 := by rw [hn]; exact bq2.alloc szq3 _
            have zq3 : Blk q3 q2.heap.size #[.int .i64 0, .int .i64 0, .slice none 0 0] := by rw [hn]; exact Blk.new_ _ 27 _ rfl
            have eq3 : q3.heap.size = q2.heap.size + 1 := by rw [hn]; simp
            have kq3 : Below q2.heap.size q2 q3 := by rw [hn]; exact (Below.refl _ _).alloc (Nat.le_refl _) _
            have seq3 : q2.heap.size < q3.heap.size := by omega
            clear hn eq3
            have Hq3 := Hq2.add kq3
            refine mid_intro bq3 ?_
            refine gC_end [11, 12] (lB := [_, _]) (by simp) (by kernel_rfl) (by kernel_rfl) rfl ?_
            obtain ⟨d0, d1, d2⟩ := zq3.three
            have e0 := zq3.frozen 0
            have e1 := zq3.frozen 1
            have e2 := zq3.frozen 2
            have szl := zq3.lt
            have szb : wz.heap.size ≤ q2.heap.size := by first | exact bq0.size | exact bq2.size
            go_wp2_with fail
            go_meet
            exact ⟨q2.heap.size, A7, c7, rfl, rfl, ((zq3.set_ 0 _).set_ 1 _).set_ 2 _, hl7, ((Hq3.setZ (a := ⟨q2.heap.size, 0, none⟩) (.inr (by simp)) _).setZ (a := ⟨q2.heap.size, 1, none⟩) (.inr (by simp)) _).setZ (a := ⟨q2.heap.size, 2, none⟩) (.inr (by simp)) _, ((bq3.setCell (by simp <;> omega) _).setCell (by simp <;> omega) _).setCell (by simp <;> omega) _, szb⟩
        · have szq4 := bq1.size
          go_wp2_with fail
          refine name_midw ?_
          intro q4 hn
          have bq4 : Below wz.heap.size wz q4 := by rw [hn]; exact bq1.alloc szq4 _
          have zq4 : Blk q4 q1.heap.size #[.int .i64 0, .int .i64 0, .slice none 0 0] := by rw [hn]; exact Blk.new_ _ 27 _ rfl
          have eq4 : q4.heap.size = q1.heap.size + 1 := by rw [hn]; simp
          have kq4 : Below q1.heap.size q1 q4 := by rw [hn]; exact (Below.refl _ _).alloc (Nat.le_refl _) _
          have seq4 : q1.heap.size < q4.heap.size := by omega
          clear hn eq4
          have Fq4 := Fq1.add kq4
          refine mid_intro bq4 ?_
          refine gC_one (i := 6) (by kernel_rfl) rfl ?_
          · have swq5 := bq4.size
            have szzq5 := zq4.lt
            go_wp2_with (go_at_call 28; refine (hI.out A' c' A3 c3 _ (hr'.below bq4) Fq4.rd).mono ?_; rintro e q5 hgo; obtain ⟨A7, c7, rfl, hl7, hfq5, hbq5⟩ := gotO_some hgo; clear hgo)
            have zq5 := zq4.keep hbq5
            have Hq5 : ApF q5 wz.heap.size [q1.heap.size] A7 rks := hfq5.apf swq5 (fun z hz => by simp at hz <;> omega)
            have bq5 : Below wz.heap.size wz q5 := bq4.trans (hbq5.mono bq4.size)
            have lq5 := hbq5.size
            refine mid_intro bq5 ?_
            refine gC_takeT [7, 8, 9] (f := 2) (l' := #[true, true, true, true, true, true, true, true, true, true, true, false, false]) (lT := [_, _, _]) rfl (by kernel_rfl) (by kernel_rfl) (by kernel_rfl) rfl (fun _ _ d _ _ h => by cases d <;> exact h) ?_
            repeat (first | ((refine takeY_skip (a' := ?_) ?_ ?_ ?_); (rotate_left); (· (simp [Region.wanted, yielded]; done)); (· (simp only [List.getElem_toArray, List.getElem_cons_zero, List.getElem_cons_succ, Act.put, List.setIfInBounds_toArray, List.set_cons_zero, List.set_cons_succ]; exact rfl))) | ((refine takeY_step (v := ?_) (a' := ?_) ?_ ?_ ?_ ?_); (rotate_left 2); (· (simp [Region.wanted, yielded]; done)); (· (intro w' hS'; go_simp; try (with_reducible rfl))); (· (simp only [List.getElem_toArray, List.getElem_cons_zero, List.getElem_cons_succ, Act.put, List.setIfInBounds_toArray, List.set_cons_zero, List.set_cons_succ]; exact rfl))))
            refine takeY_nil ?_
            refine gC_end [11, 12] (lB := [_, _]) (by simp) (by kernel_rfl) (by kernel_rfl) rfl ?_
            obtain ⟨d0, d1, d2⟩ := zq5.three
            have e0 := zq5.frozen 0
            have e1 := zq5.frozen 1
            have e2 := zq5.frozen 2
            have szl := zq5.lt
            have szb : wz.heap.size ≤ q1.heap.size := by first | exact bq0.size | exact bq1.size
            go_wp2_with fail
            go_meet
            exact ⟨q1.heap.size, A7, c7, rfl, rfl, ((zq5.set_ 0 _).set_ 1 _).set_ 2 _, hl7, ((Hq5.setZ (a := ⟨q1.heap.size, 0, none⟩) (.inr (by simp)) _).setZ (a := ⟨q1.heap.size, 1, none⟩) (.inr (by simp)) _).setZ (a := ⟨q1.heap.size, 2, none⟩) (.inr (by simp)) _, ((bq5.setCell (by simp <;> omega) _).setCell (by simp <;> omega) _).setCell (by simp <;> omega) _, szb⟩
      · have szq6 := bq0.size
        go_wp2_with fail
        refine name_midw ?_
        intro q6 hn
        have bq6 : Below wz.heap.size wz q6 := by rw [hn]; exact bq0.alloc szq6 _
        have zq6 : Blk q6 q0.heap.size #[.int .i64 0, .int .i64 0, .slice none 0 0] := by rw [hn]; exact Blk.new_ _ 27 _ rfl
        have eq6 : q6.heap.size = q0.heap.size + 1 := by rw [hn]; simp
        have kq6 : Below q0.heap.size q0 q6 := by rw [hn]; exact (Below.refl _ _).alloc (Nat.le_refl _) _
        have seq6 : q0.heap.size < q6.heap.size := by omega
        clear hn eq6
        refine mid_intro bq6 ?_
        refine gC_one (i := 5) (by kernel_rfl) rfl ?_
        · have swq7 := bq6.size
          have szzq7 := zq6.lt
          go_wp2_with (go_at_call 27; refine (hN.out _).mono ?_; rintro e q7 ⟨A3, c3, rfl, hl3, hfq7, hbq7⟩)
          have zq7 := zq6.keep hbq7
          have Fq7 : ApF q7 wz.heap.size [q0.heap.size] A3 nks := hfq7.apf swq7 (fun z hz => by simp at hz <;> omega)
          have bq7 : Below wz.heap.size wz q7 := bq6.trans (hbq7.mono bq6.size)
          have lq7 := hbq7.size
          refine mid_intro bq7 ?_
          refine gC_one (i := 6) (by kernel_rfl) rfl ?_
          · have swq8 := bq7.size
            have szzq8 := zq7.lt
            go_wp2_with (go_at_call 28; refine (hI.out A' c' A3 c3 _ (hr'.below bq7) Fq7.rd).mono ?_; rintro e q8 hgo; obtain ⟨A7, c7, rfl, hl7, hfq8, hbq8⟩ := gotO_some hgo; clear hgo)
            have zq8 := zq7.keep hbq8
            have Hq8 : ApF q8 wz.heap.size [q0.heap.size] A7 rks := hfq8.apf swq8 (fun z hz => by simp at hz <;> omega)
            have bq8 : Below wz.heap.size wz q8 := bq7.trans (hbq8.mono bq7.size)
            have lq8 := hbq8.size
            refine mid_intro bq8 ?_
            refine gC_takeT [7, 8, 9] (f := 2) (l' := #[true, true, true, true, true, true, true, true, true, true, true, false, false]) (lT := [_, _, _]) rfl (by kernel_rfl) (by kernel_rfl) (by kernel_rfl) rfl (fun _ _ d _ _ h => by cases d <;> exact h) ?_
            repeat (first | ((refine takeY_skip (a' := ?_) ?_ ?_ ?_); (rotate_left); (· (simp [Region.wanted, yielded]; done)); (· (simp only [List.getElem_toArray, List.getElem_cons_zero, List.getElem_cons_succ, Act.put, List.setIfInBounds_toArray, List.set_cons_zero, List.set_cons_succ]; exact rfl))) | ((refine takeY_step (v := ?_) (a' := ?_) ?_ ?_ ?_ ?_); (rotate_left 2); (· (simp [Region.wanted, yielded]; done)); (· (intro w' hS'; go_simp; try (with_reducible rfl))); (· (simp only [List.getElem_toArray, List.getElem_cons_zero, List.getElem_cons_succ, Act.put, List.setIfInBounds_toArray, List.set_cons_zero, List.set_cons_succ]; exact rfl))))
            refine takeY_nil ?_
            refine gC_end [11, 12] (lB := [_, _]) (by simp) (by kernel_rfl) (by kernel_rfl) rfl ?_
            obtain ⟨d0, d1, d2⟩ := zq8.three
            have e0 := zq8.frozen 0
            have e1 := zq8.frozen 1
            have e2 := zq8.frozen 2
            have szl := zq8.lt
            have szb : wz.heap.size ≤ q0.heap.size := by first | exact bq0.size | exact bq0.size
            go_wp2_with fail
            go_meet
            exact ⟨q0.heap.size, A7, c7, rfl, rfl, ((zq8.set_ 0 _).set_ 1 _).set_ 2 _, hl7, ((Hq8.setZ (a := ⟨q0.heap.size, 0, none⟩) (.inr (by simp)) _).setZ (a := ⟨q0.heap.size, 1, none⟩) (.inr (by simp)) _).setZ (a := ⟨q0.heap.size, 2, none⟩) (.inr (by simp)) _, ((bq8.setCell (by simp <;> omega) _).setCell (by simp <;> omega) _).setCell (by simp <;> omega) _, szb⟩
    case rest =>
      obtain ⟨g13, A7, c7, rfl, rfl, hT13, hl7, hR7, hx2, hg13⟩ := hcut
      clear y2 r0 r1 r2
      go_upto_region 9 with fail
      refine name_world ?_
      intro wu hwu
      subst hwu
      replace hZ4 := hZ4.keep hx2
      replace hZ5 := hZ5.keep hx2
      replace hT11 := hT11.keep hx2
      obtain ⟨f1, hO1⟩ := hAp.owf (B' := w.heap.size + 1 + 1) (by omega)
      replace hO1 := hO1.keep hx2
      obtain ⟨f2, hO2⟩ := hR7.owf (B' := wz.heap.size) (Nat.le_refl _)
      have gu : Below w.heap.size w wu := gz.trans (hx2.mono gz.size)
      have su := hx2.size
      obtain ⟨x0, x1, x2⟩ := hT11.three
      obtain ⟨y0, y1, y2⟩ := hT13.three
      obtain ⟨d0, d1, d2⟩ := hZ4.three
      have e0 := hZ4.frozen 0
      have e1 := hZ4.frozen 1
      have e2 := hZ4.frozen 2
      obtain ⟨f0, f1', f2'⟩ := hZ5.three
      have i0 := hZ5.frozen 0
      have i1 := hZ5.frozen 1
      have i2 := hZ5.frozen 2
      have hne : w.heap.size ≠ w.heap.size + 1 := by omega
      have n1 : g13 ≠ w.heap.size := by omega
      have n2 : g13 ≠ w.heap.size + 1 := by omega
      have n3 : g11 ≠ w.heap.size := by omega
      have n4 : g11 ≠ w.heap.size + 1 := by omega
      refine gC_start (fun _ => True) [3, 4] 5 (by kernel_rfl) rfl ?_
      refine gC_two (i := 0) (j := 1) (by kernel_rfl) rfl rfl ?_ ?_
      · go_wp2_with fail
        refine mid_intro trivial ?_
        refine gC_two (i := 1) (j := 2) (by kernel_rfl) rfl rfl ?_ ?_
        · go_wp2_with fail
          refine mid_intro trivial ?_
          refine gC_one (i := 2) (by kernel_rfl) rfl ?_
          · go_wp2_with fail
            refine mid_intro trivial ?_
            refine gC_end [3, 4] (lB := [_, _]) (by simp) (by kernel_rfl) (by kernel_rfl) rfl ?_
            go_wp2_with fail
            have hs : ∀ (W : World) (a : Addr) (u : Value), (a.block = w.heap.size ∨ a.block = w.heap.size + 1) → OwF W (some ⟨row, 0, none⟩) [.mk pk pn pks, .mk nk 0 nks] f1 (w.heap.size + 1 + 1) wz.heap.size → OwF (W.setCell a u) (some ⟨row, 0, none⟩) [.mk pk pn pks, .mk nk 0 nks] f1 (w.heap.size + 1 + 1) wz.heap.size := fun W a u ha h => ⟨h.ow.frame fun b hb => Below.heap_setCell W a u b (fun e => by have := h.lo b hb; omega), h.nodup, h.lo, h.hi⟩
            have hs2 : ∀ (W : World) (a : Addr) (u : Value), (a.block = w.heap.size ∨ a.block = w.heap.size + 1) → OwF W A7 rks f2 wz.heap.size wu.heap.size → OwF (W.setCell a u) A7 rks f2 wz.heap.size wu.heap.size := fun W a u ha h => ⟨h.ow.frame fun b hb => Below.heap_setCell W a u b (fun e => by have := h.lo b hb; omega), h.nodup, h.lo, h.hi⟩
            have q1 := (hs _ ⟨w.heap.size + 1, 2, none⟩ (.slice A7 rks.length c7) (.inr rfl) (hs _ ⟨w.heap.size + 1, 1, none⟩ (.int .i64 rn) (.inr rfl) (hs _ ⟨w.heap.size + 1, 0, none⟩ (.int .i64 rk) (.inr rfl) (hs _ ⟨w.heap.size, 2, none⟩ (.slice (some ⟨row, 0, none⟩) 2 ca) (.inl rfl) (hs _ ⟨w.heap.size, 1, none⟩ (.int .i64 0) (.inl rfl) (hs _ ⟨w.heap.size, 0, none⟩ (.int .i64 5) (.inl rfl) hO1)))))).drew
            have q2 := (hs2 _ ⟨w.heap.size + 1, 2, none⟩ (.slice A7 rks.length c7) (.inr rfl) (hs2 _ ⟨w.heap.size + 1, 1, none⟩ (.int .i64 rn) (.inr rfl) (hs2 _ ⟨w.heap.size + 1, 0, none⟩ (.int .i64 rk) (.inr rfl) (hs2 _ ⟨w.heap.size, 2, none⟩ (.slice (some ⟨row, 0, none⟩) 2 ca) (.inl rfl) (hs2 _ ⟨w.heap.size, 1, none⟩ (.int .i64 0) (.inl rfl) (hs2 _ ⟨w.heap.size, 0, none⟩ (.int .i64 5) (.inl rfl) hO2)))))).drew
            refine bodyPost_ret (v := .tuple #[.agg #[.int .i64 5, .int .i64 0, .slice (some ⟨row, 0, none⟩) 2 ca], .agg #[.int .i64 rk, .int .i64 rn, .slice A7 rks.length c7], .bool true]) (by simp [results, Tryz.results7, go_sem, d0, d1, d2, f0, f1', f2']) rfl ⟨5, 0, [.mk pk pn pks, .mk nk 0 nks], some ⟨row, 0, none⟩, ca, rk, rn, rks, A7, c7, f1, f2, wz.heap.size, by rw [hnum'.out]; rfl, rfl, rfl, by simp, hl7, ⟨q1.ow, q1.nodup, fun b hb => by have := q1.lo b hb; omega, q1.hi⟩, ⟨q2.ow, q2.nodup, q2.lo, fun b hb => by have := q2.hi b hb; simpa using this⟩, by have := gz.size; omega, by simpa using su, ?_⟩
            exact ((((((gu.setCell (by simp) _).setCell (by simp) _).setCell (by simp) _).setCell (by simp) _).setCell (by simp) _).setCell (by simp) _).drew
        · go_wp2_with fail
          refine mid_intro trivial ?_
          refine gC_one (i := 1) (by kernel_rfl) rfl ?_
          · go_wp2_with fail
            refine mid_intro trivial ?_
            refine gC_end [3, 4] (lB := [_, _]) (by simp) (by kernel_rfl) (by kernel_rfl) rfl ?_
            go_wp2_with fail
            have hs : ∀ (W : World) (a : Addr) (u : Value), (a.block = w.heap.size ∨ a.block = w.heap.size + 1) → OwF W (some ⟨row, 0, none⟩) [.mk pk pn pks, .mk nk 0 nks] f1 (w.heap.size + 1 + 1) wz.heap.size → OwF (W.setCell a u) (some ⟨row, 0, none⟩) [.mk pk pn pks, .mk nk 0 nks] f1 (w.heap.size + 1 + 1) wz.heap.size := fun W a u ha h => ⟨h.ow.frame fun b hb => Below.heap_setCell W a u b (fun e => by have := h.lo b hb; omega), h.nodup, h.lo, h.hi⟩
            have hs2 : ∀ (W : World) (a : Addr) (u : Value), (a.block = w.heap.size ∨ a.block = w.heap.size + 1) → OwF W A7 rks f2 wz.heap.size wu.heap.size → OwF (W.setCell a u) A7 rks f2 wz.heap.size wu.heap.size := fun W a u ha h => ⟨h.ow.frame fun b hb => Below.heap_setCell W a u b (fun e => by have := h.lo b hb; omega), h.nodup, h.lo, h.hi⟩
            have q1 := (hs _ ⟨w.heap.size + 1, 2, none⟩ (.slice A7 rks.length c7) (.inr rfl) (hs _ ⟨w.heap.size + 1, 1, none⟩ (.int .i64 rn) (.inr rfl) (hs _ ⟨w.heap.size + 1, 0, none⟩ (.int .i64 rk) (.inr rfl) (hs _ ⟨w.heap.size, 2, none⟩ (.slice (some ⟨row, 0, none⟩) 2 ca) (.inl rfl) (hs _ ⟨w.heap.size, 1, none⟩ (.int .i64 0) (.inl rfl) (hs _ ⟨w.heap.size, 0, none⟩ (.int .i64 5) (.inl rfl) hO1)))))).drew
            have q2 := (hs2 _ ⟨w.heap.size + 1, 2, none⟩ (.slice A7 rks.length c7) (.inr rfl) (hs2 _ ⟨w.heap.size + 1, 1, none⟩ (.int .i64 rn) (.inr rfl) (hs2 _ ⟨w.heap.size + 1, 0, none⟩ (.int .i64 rk) (.inr rfl) (hs2 _ ⟨w.heap.size, 2, none⟩ (.slice (some ⟨row, 0, none⟩) 2 ca) (.inl rfl) (hs2 _ ⟨w.heap.size, 1, none⟩ (.int .i64 0) (.inl rfl) (hs2 _ ⟨w.heap.size, 0, none⟩ (.int .i64 5) (.inl rfl) hO2)))))).drew
            refine bodyPost_ret (v := .tuple #[.agg #[.int .i64 5, .int .i64 0, .slice (some ⟨row, 0, none⟩) 2 ca], .agg #[.int .i64 rk, .int .i64 rn, .slice A7 rks.length c7], .bool true]) (by simp [results, Tryz.results7, go_sem, d0, d1, d2, f0, f1', f2']) rfl ⟨5, 0, [.mk pk pn pks, .mk nk 0 nks], some ⟨row, 0, none⟩, ca, rk, rn, rks, A7, c7, f1, f2, wz.heap.size, by rw [hnum'.out]; rfl, rfl, rfl, by simp, hl7, ⟨q1.ow, q1.nodup, fun b hb => by have := q1.lo b hb; omega, q1.hi⟩, ⟨q2.ow, q2.nodup, q2.lo, fun b hb => by have := q2.hi b hb; simpa using this⟩, by have := gz.size; omega, by simpa using su, ?_⟩
            exact ((((((gu.setCell (by simp) _).setCell (by simp) _).setCell (by simp) _).setCell (by simp) _).setCell (by simp) _).setCell (by simp) _).drew
      · go_wp2_with fail
        refine mid_intro trivial ?_
        refine gC_one (i := 0) (by kernel_rfl) rfl ?_
        · go_wp2_with fail
          refine mid_intro trivial ?_
          refine gC_one (i := 2) (by kernel_rfl) rfl ?_
          · go_wp2_with fail
            refine mid_intro trivial ?_
            refine gC_end [3, 4] (lB := [_, _]) (by simp) (by kernel_rfl) (by kernel_rfl) rfl ?_
            go_wp2_with fail
            have hs : ∀ (W : World) (a : Addr) (u : Value), (a.block = w.heap.size ∨ a.block = w.heap.size + 1) → OwF W (some ⟨row, 0, none⟩) [.mk pk pn pks, .mk nk 0 nks] f1 (w.heap.size + 1 + 1) wz.heap.size → OwF (W.setCell a u) (some ⟨row, 0, none⟩) [.mk pk pn pks, .mk nk 0 nks] f1 (w.heap.size + 1 + 1) wz.heap.size := fun W a u ha h => ⟨h.ow.frame fun b hb => Below.heap_setCell W a u b (fun e => by have := h.lo b hb; omega), h.nodup, h.lo, h.hi⟩
            have hs2 : ∀ (W : World) (a : Addr) (u : Value), (a.block = w.heap.size ∨ a.block = w.heap.size + 1) → OwF W A7 rks f2 wz.heap.size wu.heap.size → OwF (W.setCell a u) A7 rks f2 wz.heap.size wu.heap.size := fun W a u ha h => ⟨h.ow.frame fun b hb => Below.heap_setCell W a u b (fun e => by have := h.lo b hb; omega), h.nodup, h.lo, h.hi⟩
            have q1 := (hs _ ⟨w.heap.size + 1, 2, none⟩ (.slice A7 rks.length c7) (.inr rfl) (hs _ ⟨w.heap.size + 1, 1, none⟩ (.int .i64 rn) (.inr rfl) (hs _ ⟨w.heap.size + 1, 0, none⟩ (.int .i64 rk) (.inr rfl) (hs _ ⟨w.heap.size, 2, none⟩ (.slice (some ⟨row, 0, none⟩) 2 ca) (.inl rfl) (hs _ ⟨w.heap.size, 1, none⟩ (.int .i64 0) (.inl rfl) (hs _ ⟨w.heap.size, 0, none⟩ (.int .i64 5) (.inl rfl) hO1)))))).drew
            have q2 := (hs2 _ ⟨w.heap.size + 1, 2, none⟩ (.slice A7 rks.length c7) (.inr rfl) (hs2 _ ⟨w.heap.size + 1, 1, none⟩ (.int .i64 rn) (.inr rfl) (hs2 _ ⟨w.heap.size + 1, 0, none⟩ (.int .i64 rk) (.inr rfl) (hs2 _ ⟨w.heap.size, 2, none⟩ (.slice (some ⟨row, 0, none⟩) 2 ca) (.inl rfl) (hs2 _ ⟨w.heap.size, 1, none⟩ (.int .i64 0) (.inl rfl) (hs2 _ ⟨w.heap.size, 0, none⟩ (.int .i64 5) (.inl rfl) hO2)))))).drew
            refine bodyPost_ret (v := .tuple #[.agg #[.int .i64 5, .int .i64 0, .slice (some ⟨row, 0, none⟩) 2 ca], .agg #[.int .i64 rk, .int .i64 rn, .slice A7 rks.length c7], .bool true]) (by simp [results, Tryz.results7, go_sem, d0, d1, d2, f0, f1', f2']) rfl ⟨5, 0, [.mk pk pn pks, .mk nk 0 nks], some ⟨row, 0, none⟩, ca, rk, rn, rks, A7, c7, f1, f2, wz.heap.size, by rw [hnum'.out]; rfl, rfl, rfl, by simp, hl7, ⟨q1.ow, q1.nodup, fun b hb => by have := q1.lo b hb; omega, q1.hi⟩, ⟨q2.ow, q2.nodup, q2.lo, fun b hb => by have := q2.hi b hb; simpa using this⟩, by have := gz.size; omega, by simpa using su, ?_⟩
            exact ((((((gu.setCell (by simp) _).setCell (by simp) _).setCell (by simp) _).setCell (by simp) _).setCell (by simp) _).setCell (by simp) _).drew
end Go.Proofs.YthgmofdfecioaaaGreatDoor
