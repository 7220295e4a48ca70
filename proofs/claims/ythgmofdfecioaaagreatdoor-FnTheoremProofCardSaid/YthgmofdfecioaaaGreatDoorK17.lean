/-
  Contracts of the functions that the law reaches, and plain lemmas. No condition.
-/
import Derived.Test.YthgmofdfecioaaaGreatDoorK15
import Derived.Test.YthgmofdfecioaaaGreatDoorK16
import Derived.Deep.DeepCutAuto
namespace Go.Proofs.YthgmofdfecioaaaGreatDoor
set_option linter.unusedSimpArgs false
set_option linter.unusedVariables false
open Go.RowKit
theorem name_midw {S : World → Prop} {K : Act → World → Prop} {Q : Exit → Act → World → Prop} {a : Act} {w : World} (h : ∀ wx, wx = w → Mid S K Q .normal a wx) : Mid S K Q .normal a w := h w rfl
/-- two terms and whether they are, handed back where they can be read -/
def GotS (w : World) (r : Option (Tm × Tm)) (e : Ending) (w' : World) : Prop :=
  ∃ (k1 n1 : Int) (ks1 : List Tm) (A1 : Option Addr) (c1 : Nat) (k2 n2 : Int) (ks2 : List Tm) (A2 : Option Addr) (c2 : Nat), (r.map Prod.fst).getD (.mk 0 0 []) = .mk k1 n1 ks1 ∧ (r.map Prod.snd).getD (.mk 0 0 []) = .mk k2 n2 ks2 ∧
    e = .returned (.tuple #[.agg #[.int .i64 k1, .int .i64 n1, .slice A1 ks1.length c1], .agg #[.int .i64 k2, .int .i64 n2, .slice A2 ks2.length c2], .bool r.isSome]) ∧ ks1.length ≤ 9223372036854775807 ∧ ks2.length ≤ 9223372036854775807 ∧ Rd w' A1 0 ks1 ∧ Rd w' A2 0 ks2 ∧ Below w.heap.size w w'
theorem numT_eta (m : Nat) : ∃ nk nks, numT m = .mk nk 0 nks := by cases m <;> exact ⟨_, _, rfl⟩
set_option maxHeartbeats 8000000 in
set_option maxRecDepth 100000 in
theorem sUse_yes {thm : Int} {sR pR sB pB : List UInt8} {s p : Tm} (h : ThmAt thm sR pR sB pB (some s) (some p)) {m : Nat} {pk pn : Int} {pks : List Tm} {kb nb : Int} {kbs : List Tm} {rk rn : Int} {rks : List Tm} (hu : UseOk s p m pk pn pks kb nb kbs rk rn rks) (w : World) (hm : GM w) :
    Calls Tryz.prog 8 #[.int .i64 thm, .int .i64 m] w (GotS w (some (.mk 5 0 [.mk pk pn pks, numT m], .mk rk rn rks))) := by
  obtain ⟨nk, nks, hnum⟩ := numT_eta m
  have hT := hide (fun w (hm : GM w) => by have := sType_any h w hm; rw [hu.hs] at this; exact this)
  have hP := hide (fun w (hm : GM w) => by have := sProof_any h w hm; rw [hu.hp] at this; exact this)
  have hN := hide (fun w => by have := sNumeral_any m w; rw [numO, if_pos ⟨by omega, by have := hu.hm; omega⟩, Int.toNat_natCast, hnum] at this; exact this)
  have hI := hide (fun A c U cu (w : World) (h1 : Rd w A 0 kbs) (h2 : Rd w U 0 nks) => by have := sInst_any kb nb kbs A c nk 0 nks U cu w hu.hbv (by rw [← hnum]; exact hu.hnv) h1 h2; rw [← hnum, hu.hi] at this; exact this)
  have hav := hu.hav
  rw [hnum] at hav
  have hszp := validT_size' hu.hpv
  have hsza := validT_size' hav
  have hav' := hide hav
  have hnum' := hide hnum
  have hm' := hide hm
  clear h hu hav hnum hm
  go_enter Tryz.func8, Tryz.ntmps8
  go_wp2_with (first
    | (go_at_call 31; refine (made_yes 5 0 [.mk pk pn pks, .mk nk 0 nks] A4 c4 _ (by omega) hf4.rd hav'.out).mono ?_; rintro e w5 ⟨rfl, hb5⟩; replace hT7 := hT7.keep hb5; replace hT11 := hT11.keep hb5; replace hZ4 := hZ4.keep hb5; replace hZ5 := hZ5.keep hb5; have s5 := hb5.size; have g5 : Below w.heap.size w w5 := g4.trans (hb5.mono g4.size); obtain ⟨x0, x1, x2⟩ := hT7.three)
    | (go_at_call 32; refine (l1Node_any (B := w1.heap.size) (us := [.mk pk pn pks, .mk nk 0 nks]) 5 (by simp; omega) ((hO.alloc _).alloc _) hnd hge (by simp) _ 2 (Blk.new_ _ 27 _ (by simp))).mono ?_; rintro e w4 ⟨A4, c4, rfl, hf4, hb4⟩; have hT11 := ((Blk.new_ w3 27 #[.int .i64 nk, .int .i64 0, .slice A3 nks.length c3] rfl).alloc (.cells #[.int .i64 pk, .int .i64 pn, .slice A2 pks.length c2, .int .i64 nk, .int .i64 0, .slice A3 nks.length c3] 27)).keep hb4; replace hT7 := ((hT7.alloc (.cells #[.int .i64 nk, .int .i64 0, .slice A3 nks.length c3] 27)).alloc (.cells #[.int .i64 pk, .int .i64 pn, .slice A2 pks.length c2, .int .i64 nk, .int .i64 0, .slice A3 nks.length c3] 27)).keep hb4; replace hZ4 := ((hZ4.alloc (.cells #[.int .i64 nk, .int .i64 0, .slice A3 nks.length c3] 27)).alloc (.cells #[.int .i64 pk, .int .i64 pn, .slice A2 pks.length c2, .int .i64 nk, .int .i64 0, .slice A3 nks.length c3] 27)).keep hb4; replace hZ5 := ((hZ5.alloc (.cells #[.int .i64 nk, .int .i64 0, .slice A3 nks.length c3] 27)).alloc (.cells #[.int .i64 pk, .int .i64 pn, .slice A2 pks.length c2, .int .i64 nk, .int .i64 0, .slice A3 nks.length c3] 27)).keep hb4; replace hRs := ((hRs.alloc (.cells #[.int .i64 nk, .int .i64 0, .slice A3 nks.length c3] 27)).alloc (.cells #[.int .i64 pk, .int .i64 pn, .slice A2 pks.length c2, .int .i64 nk, .int .i64 0, .slice A3 nks.length c3] 27)).below hb4; replace hRn := ((hRn.alloc (.cells #[.int .i64 nk, .int .i64 0, .slice A3 nks.length c3] 27)).alloc (.cells #[.int .i64 pk, .int .i64 pn, .slice A2 pks.length c2, .int .i64 nk, .int .i64 0, .slice A3 nks.length c3] 27)).below hb4; have s4 : w3.heap.size + 1 + 1 ≤ w4.heap.size := (by have := hb4.size; simpa using this); have g4 : Below w.heap.size w w4 := ((g3.alloc g3.size _).alloc (by have := g3.size; simp; omega) _).trans (hb4.mono (by have := g3.size; simp; omega)); clear t0 t1 t2 x0 x1 x2 i1 i2 i3)
    | (go_at_call 30; refine (hN.out _).mono ?_; rintro e w3 hgo; obtain ⟨A3, c3, rfl, hl3, hf3, hb3⟩ := gotP_at hgo rfl rfl; clear hgo; have hT9 := (Blk.new_ w2 27 #[.int .i64 pk, .int .i64 pn, .slice A2 pks.length c2] rfl).keep hb3; replace hT7 := (hT7.alloc (.cells #[.int .i64 pk, .int .i64 pn, .slice A2 pks.length c2] 27)).keep hb3; replace hZ4 := (hZ4.alloc (.cells #[.int .i64 pk, .int .i64 pn, .slice A2 pks.length c2] 27)).keep hb3; replace hZ5 := (hZ5.alloc (.cells #[.int .i64 pk, .int .i64 pn, .slice A2 pks.length c2] 27)).keep hb3; replace hRs := (hRs.alloc (.cells #[.int .i64 pk, .int .i64 pn, .slice A2 pks.length c2] 27)).below hb3; have s3 : w2.heap.size + 1 ≤ w3.heap.size := (by have := hb3.size; simpa using this); have g3 : Below w.heap.size w w3 := (g2.alloc g2.size _).trans (hb3.mono (by have := g2.size; simp; omega)); have hb23 : Below w2.heap.size w2 w3 := ((Below.refl _ _).alloc (Nat.le_refl _) _).trans (hb3.mono (by simp)); obtain ⟨fp, hO, hnd, hge⟩ := Fresh.node2 (hf2.mono (B' := w1.heap.size) (by simp)) hb23 (hf3.mono (B' := w2.heap.size) (by simp)) (by omega) hl2 hl3 pk pn nk 0 c2 c3; have hRn := hf3.rd; obtain ⟨t0, t1, t2⟩ := hT7.three; obtain ⟨x0, x1, x2⟩ := hT9.three; obtain ⟨b0, off0, k0', n0', ks0', A0', c0', hA0, hk0, i1, i2, i3, hl0', hr0'⟩ := hRs.at_ (j := 0) (by simp); injection hk0 with h1 h2 h3; subst h1 h2 h3 hA0; simp only [Nat.zero_mul, Nat.add_zero] at i1 i2 i3; have lb0 := World.block_lt_of_cell? _ _ i1; have l7 := hT7.lt; have l9 := hT9.lt)
    | (go_at_call 13; refine (hP.out _ ((hm'.out.keep g1).alloc _)).mono ?_; rintro e w2 hgo; obtain ⟨A2, c2, rfl, hl2, hf2, hb2⟩ := gotP_at hgo rfl rfl; clear hgo; have hT7 := (Blk.new_ w1 27 #[.int .i64 3, .int .i64 0, .slice A1 2 c1] rfl).keep hb2; replace hZ4 := (hZ4.alloc (.cells #[.int .i64 3, .int .i64 0, .slice A1 2 c1] 27)).keep hb2; replace hZ5 := (hZ5.alloc (.cells #[.int .i64 3, .int .i64 0, .slice A1 2 c1] 27)).keep hb2; replace hRs := (hRs.alloc (.cells #[.int .i64 3, .int .i64 0, .slice A1 2 c1] 27)).below hb2; have s2 : w1.heap.size + 1 ≤ w2.heap.size := (by have := hb2.size; simpa using this); have g2 : Below w.heap.size w w2 := (g1.alloc g1.size _).trans (hb2.mono (by have := g1.size; simp; omega)))
    | (go_at_call 29; refine (hT.out _ ((hm'.out.alloc _).alloc _)).mono ?_; rintro e w1 hgo; obtain ⟨A1, c1, rfl, hl1, hf1, hb1⟩ := gotP_at hgo rfl rfl; clear hgo; have hZ4 := ((Blk.new_ w 27 #[.int .i64 0, .int .i64 0, .slice none 0 0] rfl).alloc (.cells #[.int .i64 0, .int .i64 0, .slice none 0 0] 27)).keep hb1; have hZ5 : Blk w1 (w.heap.size + 1) #[.int .i64 0, .int .i64 0, .slice none 0 0] := (Blk.new_ _ 27 _ (by simp)).keep hb1; have s1 : w.heap.size + 1 + 1 ≤ w1.heap.size := (by have := hb1.size; simpa using this); have g1 : Below w.heap.size w w1 := (((Below.refl _ _).alloc (Nat.le_refl _) _).alloc (by simp) _).trans (hb1.mono (by simp; omega)); have hRs := hf1.rd))
  refine name_world ?_
  intro wy hwy
  have sy0 := congrArg (fun w : World => w.heap.size) hwy
  simp at sy0
  have ky : Below w5.heap.size w5 wy := by rw [hwy]; exact (Below.refl _ _).alloc (Nat.le_refl _) _
  have hT13 : Blk wy w5.heap.size #[.int .i64 5, .int .i64 0, .slice A4 2 c4] := by rw [hwy]; exact Blk.new_ _ 27 _ rfl
  have sy : w5.heap.size < wy.heap.size := by omega
  clear hwy sy0
  have gy : Below w.heap.size w wy := g5.trans (ky.mono g5.size)
  replace hZ4 := hZ4.keep ky
  replace hZ5 := hZ5.keep ky
  replace hT7 := hT7.keep ky
  replace hT11 := hT11.keep ky
  have hRs := (hRs.below hb5).below ky
  have hRn := (hRn.below hb5).below ky
  have hRa := hf4.rd.below (hb5.trans (ky.mono hb5.size))
  have hFa := (hf4.below hb5).below ky
  clear x0 x1 x2
  obtain ⟨b, off, k', n', ks', A', c', hA1, hkj, hc1, hc2, hc3, hl', hr'⟩ := hRs.at_ (j := 1) (by simp)
  injection hkj with h1 h2 h3
  subst h1 h2 h3
  injection hA1 with hA1
  injection hA1 with hA2 hA3
  subst hA2 hA3
  have y2 := rule_of hT7.three.2.2
  have r0 := rule_of hc1
  have r1 := rule_of hc2
  have r2 := rule_of hc3
  have v0 := rule_of hT11.three.1
  have v1 := rule_of hT11.three.2.1
  have v2 := rule_of hT11.three.2.2
  clear hc1 hc2 hc3
  go_cut [15, 16] (fun s15 s16 wx => ∃ (g15 : Nat) (A7 : Option Addr) (c7 : Nat), s15 = .pointer (some ⟨g15, 0, none⟩) ∧ s16 = .bool true ∧ Blk wx g15 #[.int .i64 rk, .int .i64 rn, .slice A7 rks.length c7] ∧ rks.length ≤ 9223372036854775807 ∧ RdP (fun b => b ≠ w.heap.size ∧ b ≠ w.heap.size + 1) wx A7 0 rks ∧ Below wy.heap.size wy wx ∧ wy.heap.size ≤ g15)
  case first =>
    obtain ⟨q0, hq0⟩ : ∃ q0, q0 = wy.drew := ⟨_, rfl⟩
    have bq0 : Below wy.heap.size wy q0 := by rw [hq0]; exact (Below.refl _ _).drew
    refine gC_start (fun w' => Below wy.heap.size wy w') [6, 7, 8, 10, 11] 12 (by kernel_rfl) rfl ?_
    refine gC_take [0, 1, 2, 3, 4] (f := 7) (l' := #[true, true, true, true, true, false, false, false, false, false, false, false]) (lT := [_, _, _, _, _]) (by rw [← hq0]; exact bq0) rfl (by kernel_rfl) (by kernel_rfl) (by kernel_rfl) rfl (fun _ _ d _ _ h => by cases d <;> exact h) ?_
    repeat (first | ((refine takeY_skip (a' := ?_) ?_ ?_ ?_); (rotate_left); (· (simp [Region.wanted, yielded]; done)); (· (simp only [List.getElem_toArray, List.getElem_cons_zero, List.getElem_cons_succ, Act.put, List.setIfInBounds_toArray, List.set_cons_zero, List.set_cons_succ]; exact rfl))) | ((refine takeY_step (v := ?_) (a' := ?_) ?_ ?_ ?_ ?_); (rotate_left 2); (· (simp [Region.wanted, yielded]; done)); (· (intro w' hS'; go_simp; try (with_reducible rfl))); (· (simp only [List.getElem_toArray, List.getElem_cons_zero, List.getElem_cons_succ, Act.put, List.setIfInBounds_toArray, List.set_cons_zero, List.set_cons_succ]; exact rfl))))
    refine takeY_nil ?_
    rw [← hq0]
    clear hq0
    refine gC_two (i := 5) (j := 9) (by kernel_rfl) rfl rfl ?_ ?_
    · go_wp2_with (go_at_call 33; refine (hI.out A' c' A3 c3 _ (hr'.below bq0) (hRn.below bq0)).mono ?_; rintro e q1 hgo; obtain ⟨A7, c7, rfl, hl7, hfq1, hbq1⟩ := gotP_at hgo rfl rfl; clear hgo)
      have hRq1 := hfq1.rdp
      have swq1 := bq0.size
      have bq1 : Below wy.heap.size wy q1 := bq0.trans (hbq1.mono bq0.size)
      have lq1 := hbq1.size
      refine mid_intro bq1 ?_
      refine gC_takeT [6, 7, 8] (f := 3) (l' := #[true, true, true, true, true, true, true, true, true, false, false, false]) (lT := [_, _, _]) rfl (by kernel_rfl) (by kernel_rfl) (by kernel_rfl) rfl (fun _ _ d _ _ h => by cases d <;> exact h) ?_
      repeat (first | ((refine takeY_skip (a' := ?_) ?_ ?_ ?_); (rotate_left); (· (simp [Region.wanted, yielded]; done)); (· (simp only [List.getElem_toArray, List.getElem_cons_zero, List.getElem_cons_succ, Act.put, List.setIfInBounds_toArray, List.set_cons_zero, List.set_cons_succ]; exact rfl))) | ((refine takeY_step (v := ?_) (a' := ?_) ?_ ?_ ?_ ?_); (rotate_left 2); (· (simp [Region.wanted, yielded]; done)); (· (intro w' hS'; go_simp; try (with_reducible rfl))); (· (simp only [List.getElem_toArray, List.getElem_cons_zero, List.getElem_cons_succ, Act.put, List.setIfInBounds_toArray, List.set_cons_zero, List.set_cons_succ]; exact rfl))))
      refine takeY_nil ?_
      refine gC_one (i := 9) (by kernel_rfl) rfl ?_
      · have szq2 := bq1.size
        go_wp2_with fail
        refine name_midw ?_
        intro q2 hn
        have bq2 : Below wy.heap.size wy q2 := by rw [hn]; exact bq1.alloc szq2 _
        have zq2 : Blk q2 q1.heap.size #[.int .i64 0, .int .i64 0, .slice none 0 0] := by rw [hn]; exact Blk.new_ _ 27 _ rfl
        have eq2 : q2.heap.size = q1.heap.size + 1 := by rw [hn]; simp
        have kq2 : Below q1.heap.size q1 q2 := by rw [hn]; exact (Below.refl _ _).alloc (Nat.le_refl _) _
        have seq2 : q1.heap.size < q2.heap.size := by omega
        clear hn eq2
        have Rq2 := hRq1.below kq2
        refine mid_intro bq2 ?_
        refine gC_end [10, 11] (lB := [_, _]) (by simp) (by kernel_rfl) (by kernel_rfl) rfl ?_
        obtain ⟨d0, d1, d2⟩ := zq2.three
        have e0 := zq2.frozen 0
        have e1 := zq2.frozen 1
        have e2 := zq2.frozen 2
        have slo := bq0.size
        have szl := zq2.lt
        have sbw := bq2.size
        have szb : wy.heap.size ≤ q1.heap.size := by first | exact bq0.size | exact bq1.size
        go_wp2_with fail
        go_meet
        exact ⟨q1.heap.size, A7, c7, rfl, rfl, ((zq2.set_ 0 _).set_ 1 _).set_ 2 _, hl7, (((Rq2.setCell (a := ⟨q1.heap.size, 0, none⟩) (by simp <;> omega) _).setCell (a := ⟨q1.heap.size, 1, none⟩) (by simp <;> omega) _).setCell (a := ⟨q1.heap.size, 2, none⟩) (by simp <;> omega) _).mono (fun b hb => by have := hb.1; omega), ((bq2.setCell (by simp <;> omega) _).setCell (by simp <;> omega) _).setCell (by simp <;> omega) _, szb⟩
    · have szq3 := bq0.size
      go_wp2_with fail
      refine name_midw ?_
      intro q3 hn
      have bq3 : Below wy.heap.size wy q3 := by rw [hn]; exact bq0.alloc szq3 _
      have zq3 : Blk q3 q0.heap.size #[.int .i64 0, .int .i64 0, .slice none 0 0] := by rw [hn]; exact Blk.new_ _ 27 _ rfl
      have eq3 : q3.heap.size = q0.heap.size + 1 := by rw [hn]; simp
      have kq3 : Below q0.heap.size q0 q3 := by rw [hn]; exact (Below.refl _ _).alloc (Nat.le_refl _) _
      have seq3 : q0.heap.size < q3.heap.size := by omega
      clear hn eq3
      refine mid_intro bq3 ?_
      refine gC_one (i := 5) (by kernel_rfl) rfl ?_
      · go_wp2_with (go_at_call 33; refine (hI.out A' c' A3 c3 _ (hr'.below bq3) (hRn.below bq3)).mono ?_; rintro e q4 hgo; obtain ⟨A7, c7, rfl, hl7, hfq4, hbq4⟩ := gotP_at hgo rfl rfl; clear hgo)
        have zq4 := zq3.keep hbq4
        have hRq4 := hfq4.rdp
        have swq4 := bq3.size
        have bq4 : Below wy.heap.size wy q4 := bq3.trans (hbq4.mono bq3.size)
        have lq4 := hbq4.size
        refine mid_intro bq4 ?_
        refine gC_takeT [6, 7, 8] (f := 2) (l' := #[true, true, true, true, true, true, true, true, true, true, false, false]) (lT := [_, _, _]) rfl (by kernel_rfl) (by kernel_rfl) (by kernel_rfl) rfl (fun _ _ d _ _ h => by cases d <;> exact h) ?_
        repeat (first | ((refine takeY_skip (a' := ?_) ?_ ?_ ?_); (rotate_left); (· (simp [Region.wanted, yielded]; done)); (· (simp only [List.getElem_toArray, List.getElem_cons_zero, List.getElem_cons_succ, Act.put, List.setIfInBounds_toArray, List.set_cons_zero, List.set_cons_succ]; exact rfl))) | ((refine takeY_step (v := ?_) (a' := ?_) ?_ ?_ ?_ ?_); (rotate_left 2); (· (simp [Region.wanted, yielded]; done)); (· (intro w' hS'; go_simp; try (with_reducible rfl))); (· (simp only [List.getElem_toArray, List.getElem_cons_zero, List.getElem_cons_succ, Act.put, List.setIfInBounds_toArray, List.set_cons_zero, List.set_cons_succ]; exact rfl))))
        refine takeY_nil ?_
        refine gC_end [10, 11] (lB := [_, _]) (by simp) (by kernel_rfl) (by kernel_rfl) rfl ?_
        obtain ⟨d0, d1, d2⟩ := zq4.three
        have e0 := zq4.frozen 0
        have e1 := zq4.frozen 1
        have e2 := zq4.frozen 2
        have slo := bq3.size
        have szl := zq4.lt
        have sbw := bq4.size
        have szb : wy.heap.size ≤ q0.heap.size := by first | exact bq0.size | exact bq4.size
        go_wp2_with fail
        go_meet
        exact ⟨q0.heap.size, A7, c7, rfl, rfl, ((zq4.set_ 0 _).set_ 1 _).set_ 2 _, hl7, (((hRq4.setCell (a := ⟨q0.heap.size, 0, none⟩) (by simp <;> omega) _).setCell (a := ⟨q0.heap.size, 1, none⟩) (by simp <;> omega) _).setCell (a := ⟨q0.heap.size, 2, none⟩) (by simp <;> omega) _).mono (fun b hb => by have := hb.1; omega), ((bq4.setCell (by simp <;> omega) _).setCell (by simp <;> omega) _).setCell (by simp <;> omega) _, szb⟩
  case rest =>
    obtain ⟨g15, A7, c7, rfl, rfl, hT15, hl7, hR7, hx, hg15⟩ := hcut
    clear y2 r0 r1 r2 v0 v1 v2
    go_upto_region 10 with fail
    refine name_world ?_
    intro wz hwz
    subst hwz
    replace hZ4 := hZ4.keep hx
    replace hZ5 := hZ5.keep hx
    replace hT13 := hT13.keep hx
    have hFz := hFa.below hx
    have gz : Below w.heap.size w wz := gy.trans (hx.mono gy.size)
    obtain ⟨x0, x1, x2⟩ := hT13.three
    obtain ⟨y0, y1, y2⟩ := hT15.three
    obtain ⟨d0, d1, d2⟩ := hZ4.three
    have e0 := hZ4.frozen 0
    have e1 := hZ4.frozen 1
    have e2 := hZ4.frozen 2
    obtain ⟨f0, f1, f2⟩ := hZ5.three
    have i0 := hZ5.frozen 0
    have i1 := hZ5.frozen 1
    have i2 := hZ5.frozen 2
    have hne : w.heap.size ≠ w.heap.size + 1 := by omega
    have n1 : g15 ≠ w.heap.size := by omega
    have n2 : g15 ≠ w.heap.size + 1 := by omega
    have n3 : w5.heap.size ≠ w.heap.size := by omega
    have n4 : w5.heap.size ≠ w.heap.size + 1 := by omega
    refine gC_start (fun _ => True) [3, 4] 5 (by kernel_rfl) rfl ?_
    refine gC_two (i := 0) (j := 1) (by kernel_rfl) rfl rfl ?_ ?_
    · go_wp2_with fail
      refine mid_intro trivial ?_
      refine gC_two (i := 1) (j := 2) (by kernel_rfl) rfl rfl ?_ ?_
      · go_wp2_with fail
        refine mid_intro trivial ?_
        refine gC_one (i := 2) (by kernel_rfl) rfl ?_
        · go_wp2_with fail
          refine mid_intro trivial ?_
          refine gC_end [3, 4] (lB := [_, _]) (by simp) (by kernel_rfl) (by kernel_rfl) rfl ?_
          go_wp2_with fail
          refine bodyPost_ret (v := .tuple #[.agg #[.int .i64 5, .int .i64 0, .slice A4 2 c4], .agg #[.int .i64 rk, .int .i64 rn, .slice A7 rks.length c7], .bool true]) (by simp [results, Tryz.results8, go_sem, d0, d1, d2, f0, f1, f2]) rfl ⟨5, 0, [.mk pk pn pks, .mk nk 0 nks], A4, c4, rk, rn, rks, A7, c7, by rw [hnum'.out]; rfl, rfl, rfl, by simp, hl7, ?_, ?_, ?_⟩
          · exact ((((((hFz.setCell (a := ⟨w.heap.size, 0, none⟩) (by simp; omega) _).setCell (a := ⟨w.heap.size, 1, none⟩) (by simp; omega) _).setCell (a := ⟨w.heap.size, 2, none⟩) (by simp; omega) _).setCell (a := ⟨w.heap.size + 1, 0, none⟩) (by simp; omega) _).setCell (a := ⟨w.heap.size + 1, 1, none⟩) (by simp; omega) _).setCell (a := ⟨w.heap.size + 1, 2, none⟩) (by simp; omega) _).rd.drew
          · exact ((((((hR7.setCell (a := ⟨w.heap.size, 0, none⟩) (by simp) _).setCell (a := ⟨w.heap.size, 1, none⟩) (by simp) _).setCell (a := ⟨w.heap.size, 2, none⟩) (by simp) _).setCell (a := ⟨w.heap.size + 1, 0, none⟩) (by simp) _).setCell (a := ⟨w.heap.size + 1, 1, none⟩) (by simp) _).setCell (a := ⟨w.heap.size + 1, 2, none⟩) (by simp) _).rd.drew
          · exact (((((gz.setCell (by simp) _).setCell (by simp) _).setCell (by simp) _).setCell (by simp) _).setCell (by simp) _).setCell (by simp) _ |>.drew
      · go_wp2_with fail
        refine mid_intro trivial ?_
        refine gC_one (i := 1) (by kernel_rfl) rfl ?_
        · go_wp2_with fail
          refine mid_intro trivial ?_
          refine gC_end [3, 4] (lB := [_, _]) (by simp) (by kernel_rfl) (by kernel_rfl) rfl ?_
          go_wp2_with fail
          refine bodyPost_ret (v := .tuple #[.agg #[.int .i64 5, .int .i64 0, .slice A4 2 c4], .agg #[.int .i64 rk, .int .i64 rn, .slice A7 rks.length c7], .bool true]) (by simp [results, Tryz.results8, go_sem, d0, d1, d2, f0, f1, f2]) rfl ⟨5, 0, [.mk pk pn pks, .mk nk 0 nks], A4, c4, rk, rn, rks, A7, c7, by rw [hnum'.out]; rfl, rfl, rfl, by simp, hl7, ?_, ?_, ?_⟩
          · exact ((((((hFz.setCell (a := ⟨w.heap.size, 0, none⟩) (by simp; omega) _).setCell (a := ⟨w.heap.size, 1, none⟩) (by simp; omega) _).setCell (a := ⟨w.heap.size, 2, none⟩) (by simp; omega) _).setCell (a := ⟨w.heap.size + 1, 0, none⟩) (by simp; omega) _).setCell (a := ⟨w.heap.size + 1, 1, none⟩) (by simp; omega) _).setCell (a := ⟨w.heap.size + 1, 2, none⟩) (by simp; omega) _).rd.drew
          · exact ((((((hR7.setCell (a := ⟨w.heap.size, 0, none⟩) (by simp) _).setCell (a := ⟨w.heap.size, 1, none⟩) (by simp) _).setCell (a := ⟨w.heap.size, 2, none⟩) (by simp) _).setCell (a := ⟨w.heap.size + 1, 0, none⟩) (by simp) _).setCell (a := ⟨w.heap.size + 1, 1, none⟩) (by simp) _).setCell (a := ⟨w.heap.size + 1, 2, none⟩) (by simp) _).rd.drew
          · exact (((((gz.setCell (by simp) _).setCell (by simp) _).setCell (by simp) _).setCell (by simp) _).setCell (by simp) _).setCell (by simp) _ |>.drew
    · go_wp2_with fail
      refine mid_intro trivial ?_
      refine gC_one (i := 0) (by kernel_rfl) rfl ?_
      · go_wp2_with fail
        refine mid_intro trivial ?_
        refine gC_one (i := 2) (by kernel_rfl) rfl ?_
        · go_wp2_with fail
          refine mid_intro trivial ?_
          refine gC_end [3, 4] (lB := [_, _]) (by simp) (by kernel_rfl) (by kernel_rfl) rfl ?_
          go_wp2_with fail
          refine bodyPost_ret (v := .tuple #[.agg #[.int .i64 5, .int .i64 0, .slice A4 2 c4], .agg #[.int .i64 rk, .int .i64 rn, .slice A7 rks.length c7], .bool true]) (by simp [results, Tryz.results8, go_sem, d0, d1, d2, f0, f1, f2]) rfl ⟨5, 0, [.mk pk pn pks, .mk nk 0 nks], A4, c4, rk, rn, rks, A7, c7, by rw [hnum'.out]; rfl, rfl, rfl, by simp, hl7, ?_, ?_, ?_⟩
          · exact ((((((hFz.setCell (a := ⟨w.heap.size, 0, none⟩) (by simp; omega) _).setCell (a := ⟨w.heap.size, 1, none⟩) (by simp; omega) _).setCell (a := ⟨w.heap.size, 2, none⟩) (by simp; omega) _).setCell (a := ⟨w.heap.size + 1, 0, none⟩) (by simp; omega) _).setCell (a := ⟨w.heap.size + 1, 1, none⟩) (by simp; omega) _).setCell (a := ⟨w.heap.size + 1, 2, none⟩) (by simp; omega) _).rd.drew
          · exact ((((((hR7.setCell (a := ⟨w.heap.size, 0, none⟩) (by simp) _).setCell (a := ⟨w.heap.size, 1, none⟩) (by simp) _).setCell (a := ⟨w.heap.size, 2, none⟩) (by simp) _).setCell (a := ⟨w.heap.size + 1, 0, none⟩) (by simp) _).setCell (a := ⟨w.heap.size + 1, 1, none⟩) (by simp) _).setCell (a := ⟨w.heap.size + 1, 2, none⟩) (by simp) _).rd.drew
          · exact (((((gz.setCell (by simp) _).setCell (by simp) _).setCell (by simp) _).setCell (by simp) _).setCell (by simp) _).setCell (by simp) _ |>.drew
set_option maxHeartbeats 8000000 in
set_option maxRecDepth 100000 in
theorem sUse_no1 {thm : Int} {sR pR sB pB : List UInt8} {oS oP : Option Tm} (h : ThmAt thm sR pR sB pB oS oP) {n : Int} (ho : oS = none) (w : World) (hm : GM w) : Calls Tryz.prog 8 #[.int .i64 thm, .int .i64 n] w (GotS w none) := by
  have hT := hide (fun w (hm : GM w) => sType_any h w hm)
  have hP := hide (fun w (hm : GM w) => sProof_any h w hm)
  have hN := hide (fun w => sNumeral_any n w)
  obtain ⟨kT, nT, ksT, hTk⟩ : ∃ k n ks, oS.getD (.mk 0 0 []) = .mk k n ks := by cases h : oS.getD (.mk 0 0 []); exact ⟨_, _, _, rfl⟩
  have hTb : oS.isSome = false := by rw [ho]; rfl
  obtain ⟨kP, nP, ksP, hPk⟩ : ∃ k n ks, oP.getD (.mk 0 0 []) = .mk k n ks := by cases h : oP.getD (.mk 0 0 []); exact ⟨_, _, _, rfl⟩
  obtain ⟨bP, hPb⟩ : ∃ b, oP.isSome = b := ⟨_, rfl⟩
  obtain ⟨kN, nN, ksN, hNk⟩ : ∃ k n1 ks, (numO n).getD (.mk 0 0 []) = .mk k n1 ks := by cases h : (numO n).getD (.mk 0 0 []); exact ⟨_, _, _, rfl⟩
  obtain ⟨bN, hNb⟩ : ∃ b, (numO n).isSome = b := ⟨_, rfl⟩
  replace hPk := hide hPk
  replace hPb := hide hPb
  replace hNk := hide hNk
  replace hNb := hide hNb
  replace hTk := hide hTk
  replace hTb := hide hTb
  have hm' := hide hm
  clear h hm
  go_enter Tryz.func8, Tryz.ntmps8
  go_wp2_with (first
    | (go_at_call 30; refine (hN.out _).mono ?_; rintro e w3 hgo; obtain ⟨A3, c3, rfl, hl3, hf3, hb3⟩ := gotP_at hgo hNk.out hNb.out; clear hgo; replace hT7 := (hT7.alloc (.cells #[.int .i64 kP, .int .i64 nP, .slice A2 ksP.length c2] 27)).keep hb3; replace hZ4 := (hZ4.alloc (.cells #[.int .i64 kP, .int .i64 nP, .slice A2 ksP.length c2] 27)).keep hb3; replace hZ5 := (hZ5.alloc (.cells #[.int .i64 kP, .int .i64 nP, .slice A2 ksP.length c2] 27)).keep hb3; replace hRs := (hRs.alloc (.cells #[.int .i64 kP, .int .i64 nP, .slice A2 ksP.length c2] 27)).below hb3; have s3 : w2.heap.size + 1 ≤ w3.heap.size := (by have := hb3.size; simpa using this); have g3 : Below w.heap.size w w3 := (g2.alloc g2.size _).trans (hb3.mono (by have := g2.size; simp; omega)); obtain ⟨t0, t1, t2⟩ := hT7.three; have l7 := hT7.lt; obtain ⟨d0, d1, d2⟩ := hZ4.three; have e0 := hZ4.frozen 0; have e1 := hZ4.frozen 1; have e2 := hZ4.frozen 2; obtain ⟨f0, f1, f2⟩ := hZ5.three; have i0 := hZ5.frozen 0; have i1 := hZ5.frozen 1; have i2 := hZ5.frozen 2; have lz5 := hZ5.lt; have lz4 := hZ4.lt)
    | (go_at_call 13; refine (hP.out _ ((hm'.out.keep g1).alloc _)).mono ?_; rintro e w2 hgo; obtain ⟨A2, c2, rfl, hl2, hf2, hb2⟩ := gotP_at hgo hPk.out hPb.out; clear hgo; have hT7 := (Blk.new_ w1 27 #[.int .i64 kT, .int .i64 nT, .slice A1 ksT.length c1] rfl).keep hb2; replace hZ4 := (hZ4.alloc (.cells #[.int .i64 kT, .int .i64 nT, .slice A1 ksT.length c1] 27)).keep hb2; replace hZ5 := (hZ5.alloc (.cells #[.int .i64 kT, .int .i64 nT, .slice A1 ksT.length c1] 27)).keep hb2; replace hRs := (hRs.alloc (.cells #[.int .i64 kT, .int .i64 nT, .slice A1 ksT.length c1] 27)).below hb2; have s2 : w1.heap.size + 1 ≤ w2.heap.size := (by have := hb2.size; simpa using this); have g2 : Below w.heap.size w w2 := (g1.alloc g1.size _).trans (hb2.mono (by have := g1.size; simp; omega)))
    | (go_at_call 29; refine (hT.out _ ((hm'.out.alloc _).alloc _)).mono ?_; rintro e w1 hgo; obtain ⟨A1, c1, rfl, hl1, hf1, hb1⟩ := gotP_at hgo hTk.out hTb.out; clear hgo; have hZ4 := ((Blk.new_ w 27 #[.int .i64 0, .int .i64 0, .slice none 0 0] rfl).alloc (.cells #[.int .i64 0, .int .i64 0, .slice none 0 0] 27)).keep hb1; have hZ5 : Blk w1 (w.heap.size + 1) #[.int .i64 0, .int .i64 0, .slice none 0 0] := (Blk.new_ _ 27 _ (by simp)).keep hb1; have s1 : w.heap.size + 1 + 1 ≤ w1.heap.size := (by have := hb1.size; simpa using this); have g1 : Below w.heap.size w w1 := (((Below.refl _ _).alloc (Nat.le_refl _) _).alloc (by simp) _).trans (hb1.mono (by simp; omega)); have hRs := hf1.rd))
  have hne : w.heap.size ≠ w.heap.size + 1 := by omega
  refine bodyPost_ret (v := .tuple #[.agg #[.int .i64 0, .int .i64 0, .slice none 0 0], .agg #[.int .i64 0, .int .i64 0, .slice none 0 0], .bool false]) (by simp [results, Tryz.results8, go_sem, d0, d1, d2, f0, f1, f2, lz4, lz5]) rfl ⟨0, 0, [], none, 0, 0, 0, [], none, 0, rfl, rfl, rfl, by simp, by simp, Rd.nil, Rd.nil, ?_⟩
  exact ((((((g3.setCell (by simp) _).setCell (by simp) _).setCell (by simp) _).setCell (by simp) _).setCell (by simp) _).setCell (by simp) _).alloc (by simp; have := g3.size; omega) _
set_option maxHeartbeats 8000000 in
set_option maxRecDepth 100000 in
theorem sUse_no2 {thm : Int} {sR pR sB pB : List UInt8} {oS oP : Option Tm} (h : ThmAt thm sR pR sB pB oS oP) {n : Int} (hn : ¬ (0 ≤ n ∧ n ≤ 20)) (ho : oS.isSome = true) (w : World) (hm : GM w) : Calls Tryz.prog 8 #[.int .i64 thm, .int .i64 n] w (GotS w none) := by
  have hT := hide (fun w (hm : GM w) => sType_any h w hm)
  have hP := hide (fun w (hm : GM w) => sProof_any h w hm)
  have hN := hide (fun w => sNumeral_any n w)
  obtain ⟨kT, nT, ksT, hTk⟩ : ∃ k n ks, oS.getD (.mk 0 0 []) = .mk k n ks := by cases h : oS.getD (.mk 0 0 []); exact ⟨_, _, _, rfl⟩
  have hTb := ho
  obtain ⟨kP, nP, ksP, hPk⟩ : ∃ k n ks, oP.getD (.mk 0 0 []) = .mk k n ks := by cases h : oP.getD (.mk 0 0 []); exact ⟨_, _, _, rfl⟩
  obtain ⟨bP, hPb⟩ : ∃ b, oP.isSome = b := ⟨_, rfl⟩
  obtain ⟨kN, nN, ksN, hNk⟩ : ∃ k n1 ks, (numO n).getD (.mk 0 0 []) = .mk k n1 ks := by cases h : (numO n).getD (.mk 0 0 []); exact ⟨_, _, _, rfl⟩
  have hNb : (numO n).isSome = false := by rw [numO, if_neg hn]; rfl
  replace hPk := hide hPk
  replace hPb := hide hPb
  replace hNk := hide hNk
  replace hNb := hide hNb
  replace hTk := hide hTk
  replace hTb := hide hTb
  have hm' := hide hm
  clear h hm
  go_enter Tryz.func8, Tryz.ntmps8
  go_wp2_with (first
    | (go_at_call 30; refine (hN.out _).mono ?_; rintro e w3 hgo; obtain ⟨A3, c3, rfl, hl3, hf3, hb3⟩ := gotP_at hgo hNk.out hNb.out; clear hgo; replace hT7 := (hT7.alloc (.cells #[.int .i64 kP, .int .i64 nP, .slice A2 ksP.length c2] 27)).keep hb3; replace hZ4 := (hZ4.alloc (.cells #[.int .i64 kP, .int .i64 nP, .slice A2 ksP.length c2] 27)).keep hb3; replace hZ5 := (hZ5.alloc (.cells #[.int .i64 kP, .int .i64 nP, .slice A2 ksP.length c2] 27)).keep hb3; replace hRs := (hRs.alloc (.cells #[.int .i64 kP, .int .i64 nP, .slice A2 ksP.length c2] 27)).below hb3; have s3 : w2.heap.size + 1 ≤ w3.heap.size := (by have := hb3.size; simpa using this); have g3 : Below w.heap.size w w3 := (g2.alloc g2.size _).trans (hb3.mono (by have := g2.size; simp; omega)); obtain ⟨t0, t1, t2⟩ := hT7.three; have l7 := hT7.lt; obtain ⟨d0, d1, d2⟩ := hZ4.three; have e0 := hZ4.frozen 0; have e1 := hZ4.frozen 1; have e2 := hZ4.frozen 2; obtain ⟨f0, f1, f2⟩ := hZ5.three; have i0 := hZ5.frozen 0; have i1 := hZ5.frozen 1; have i2 := hZ5.frozen 2; have lz5 := hZ5.lt; have lz4 := hZ4.lt)
    | (go_at_call 13; refine (hP.out _ ((hm'.out.keep g1).alloc _)).mono ?_; rintro e w2 hgo; obtain ⟨A2, c2, rfl, hl2, hf2, hb2⟩ := gotP_at hgo hPk.out hPb.out; clear hgo; have hT7 := (Blk.new_ w1 27 #[.int .i64 kT, .int .i64 nT, .slice A1 ksT.length c1] rfl).keep hb2; replace hZ4 := (hZ4.alloc (.cells #[.int .i64 kT, .int .i64 nT, .slice A1 ksT.length c1] 27)).keep hb2; replace hZ5 := (hZ5.alloc (.cells #[.int .i64 kT, .int .i64 nT, .slice A1 ksT.length c1] 27)).keep hb2; replace hRs := (hRs.alloc (.cells #[.int .i64 kT, .int .i64 nT, .slice A1 ksT.length c1] 27)).below hb2; have s2 : w1.heap.size + 1 ≤ w2.heap.size := (by have := hb2.size; simpa using this); have g2 : Below w.heap.size w w2 := (g1.alloc g1.size _).trans (hb2.mono (by have := g1.size; simp; omega)))
    | (go_at_call 29; refine (hT.out _ ((hm'.out.alloc _).alloc _)).mono ?_; rintro e w1 hgo; obtain ⟨A1, c1, rfl, hl1, hf1, hb1⟩ := gotP_at hgo hTk.out hTb.out; clear hgo; have hZ4 := ((Blk.new_ w 27 #[.int .i64 0, .int .i64 0, .slice none 0 0] rfl).alloc (.cells #[.int .i64 0, .int .i64 0, .slice none 0 0] 27)).keep hb1; have hZ5 : Blk w1 (w.heap.size + 1) #[.int .i64 0, .int .i64 0, .slice none 0 0] := (Blk.new_ _ 27 _ (by simp)).keep hb1; have s1 : w.heap.size + 1 + 1 ≤ w1.heap.size := (by have := hb1.size; simpa using this); have g1 : Below w.heap.size w w1 := (((Below.refl _ _).alloc (Nat.le_refl _) _).alloc (by simp) _).trans (hb1.mono (by simp; omega)); have hRs := hf1.rd))
  have hne : w.heap.size ≠ w.heap.size + 1 := by omega
  refine bodyPost_ret (v := .tuple #[.agg #[.int .i64 0, .int .i64 0, .slice none 0 0], .agg #[.int .i64 0, .int .i64 0, .slice none 0 0], .bool false]) (by simp [results, Tryz.results8, go_sem, d0, d1, d2, f0, f1, f2, lz4, lz5]) rfl ⟨0, 0, [], none, 0, 0, 0, [], none, 0, rfl, rfl, rfl, by simp, by simp, Rd.nil, Rd.nil, ?_⟩
  exact ((((((g3.setCell (by simp) _).setCell (by simp) _).setCell (by simp) _).setCell (by simp) _).setCell (by simp) _).setCell (by simp) _).alloc (by simp; have := g3.size; omega) _
set_option maxHeartbeats 8000000 in
set_option maxRecDepth 100000 in
theorem sUse_no3 {thm : Int} {sR pR sB pB : List UInt8} {oS oP : Option Tm} (h : ThmAt thm sR pR sB pB oS oP) {n : Int} {n0 : Int} {ks0 : List Tm} {b : Tm} (hn : 0 ≤ n ∧ n ≤ 20) (ho : oS = some (.mk 3 0 [.mk 10 n0 ks0, b])) (w : World) (hm : GM w) : Calls Tryz.prog 8 #[.int .i64 thm, .int .i64 n] w (GotS w none) := by
  have hT := hide (fun w (hm : GM w) => sType_any h w hm)
  have hP := hide (fun w (hm : GM w) => sProof_any h w hm)
  have hN := hide (fun w => sNumeral_any n w)
  have hTk : oS.getD (.mk 0 0 []) = .mk 3 0 [.mk 10 n0 ks0, b] := by rw [ho]; rfl
  have hTb : oS.isSome = true := by rw [ho]; rfl
  obtain ⟨kP, nP, ksP, hPk⟩ : ∃ k n ks, oP.getD (.mk 0 0 []) = .mk k n ks := by cases h : oP.getD (.mk 0 0 []); exact ⟨_, _, _, rfl⟩
  obtain ⟨bP, hPb⟩ : ∃ b, oP.isSome = b := ⟨_, rfl⟩
  obtain ⟨kN, nN, ksN, hNk⟩ : ∃ k n1 ks, (numO n).getD (.mk 0 0 []) = .mk k n1 ks := by cases h : (numO n).getD (.mk 0 0 []); exact ⟨_, _, _, rfl⟩
  have hNb : (numO n).isSome = true := by rw [numO, if_pos hn]; rfl
  replace hPk := hide hPk
  replace hPb := hide hPb
  replace hNk := hide hNk
  replace hNb := hide hNb
  replace hTk := hide hTk
  replace hTb := hide hTb
  have hm' := hide hm
  clear h hm
  go_enter Tryz.func8, Tryz.ntmps8
  go_wp2_with (first
    | (go_at_call 30; refine (hN.out _).mono ?_; rintro e w3 hgo; obtain ⟨A3, c3, rfl, hl3, hf3, hb3⟩ := gotP_at hgo hNk.out hNb.out; clear hgo; replace hT7 := (hT7.alloc (.cells #[.int .i64 kP, .int .i64 nP, .slice A2 ksP.length c2] 27)).keep hb3; replace hZ4 := (hZ4.alloc (.cells #[.int .i64 kP, .int .i64 nP, .slice A2 ksP.length c2] 27)).keep hb3; replace hZ5 := (hZ5.alloc (.cells #[.int .i64 kP, .int .i64 nP, .slice A2 ksP.length c2] 27)).keep hb3; replace hRs := (hRs.alloc (.cells #[.int .i64 kP, .int .i64 nP, .slice A2 ksP.length c2] 27)).below hb3; have s3 : w2.heap.size + 1 ≤ w3.heap.size := (by have := hb3.size; simpa using this); have g3 : Below w.heap.size w w3 := (g2.alloc g2.size _).trans (hb3.mono (by have := g2.size; simp; omega)); obtain ⟨t0, t1, t2⟩ := hT7.three; have l7 := hT7.lt; obtain ⟨d0, d1, d2⟩ := hZ4.three; have e0 := hZ4.frozen 0; have e1 := hZ4.frozen 1; have e2 := hZ4.frozen 2; obtain ⟨f0, f1, f2⟩ := hZ5.three; have i0 := hZ5.frozen 0; have i1 := hZ5.frozen 1; have i2 := hZ5.frozen 2; have lz5 := hZ5.lt; have lz4 := hZ4.lt; obtain ⟨b0, off0, k0', n0', ks0', A0', c0', hA0, hk0, i1, i2, i3, hl0', hr0'⟩ := hRs.at_ (j := 0) (by simp); injection hk0 with h1 h2 h3; subst h1 h2 h3 hA0; simp only [Nat.zero_mul, Nat.add_zero] at i1 i2 i3; have lb0 := World.block_lt_of_cell? _ _ i1)
    | (go_at_call 13; refine (hP.out _ ((hm'.out.keep g1).alloc _)).mono ?_; rintro e w2 hgo; obtain ⟨A2, c2, rfl, hl2, hf2, hb2⟩ := gotP_at hgo hPk.out hPb.out; clear hgo; have hT7 := (Blk.new_ w1 27 #[.int .i64 3, .int .i64 0, .slice A1 2 c1] rfl).keep hb2; replace hZ4 := (hZ4.alloc (.cells #[.int .i64 3, .int .i64 0, .slice A1 2 c1] 27)).keep hb2; replace hZ5 := (hZ5.alloc (.cells #[.int .i64 3, .int .i64 0, .slice A1 2 c1] 27)).keep hb2; replace hRs := (hRs.alloc (.cells #[.int .i64 3, .int .i64 0, .slice A1 2 c1] 27)).below hb2; have s2 : w1.heap.size + 1 ≤ w2.heap.size := (by have := hb2.size; simpa using this); have g2 : Below w.heap.size w w2 := (g1.alloc g1.size _).trans (hb2.mono (by have := g1.size; simp; omega)))
    | (go_at_call 29; refine (hT.out _ ((hm'.out.alloc _).alloc _)).mono ?_; rintro e w1 hgo; obtain ⟨A1, c1, rfl, hl1, hf1, hb1⟩ := gotP_at hgo hTk.out hTb.out; clear hgo; have hZ4 := ((Blk.new_ w 27 #[.int .i64 0, .int .i64 0, .slice none 0 0] rfl).alloc (.cells #[.int .i64 0, .int .i64 0, .slice none 0 0] 27)).keep hb1; have hZ5 : Blk w1 (w.heap.size + 1) #[.int .i64 0, .int .i64 0, .slice none 0 0] := (Blk.new_ _ 27 _ (by simp)).keep hb1; have s1 : w.heap.size + 1 + 1 ≤ w1.heap.size := (by have := hb1.size; simpa using this); have g1 : Below w.heap.size w w1 := (((Below.refl _ _).alloc (Nat.le_refl _) _).alloc (by simp) _).trans (hb1.mono (by simp; omega)); have hRs := hf1.rd))
  have hne : w.heap.size ≠ w.heap.size + 1 := by omega
  refine bodyPost_ret (v := .tuple #[.agg #[.int .i64 0, .int .i64 0, .slice none 0 0], .agg #[.int .i64 0, .int .i64 0, .slice none 0 0], .bool false]) (by simp [results, Tryz.results8, go_sem, d0, d1, d2, f0, f1, f2, lz4, lz5]) rfl ⟨0, 0, [], none, 0, 0, 0, [], none, 0, rfl, rfl, rfl, by simp, by simp, Rd.nil, Rd.nil, ?_⟩
  exact ((((((g3.setCell (by simp) _).setCell (by simp) _).setCell (by simp) _).setCell (by simp) _).setCell (by simp) _).setCell (by simp) _).alloc (by simp; have := g3.size; omega) _
theorem sUse_any {thm : Int} {sR pR sB pB : List UInt8} {oS oP : Option Tm} (h : ThmAt thm sR pR sB pB oS oP) {n : Int} {r : Option (Tm × Tm)} (hu : UseAt oS oP n r) (w : World) (hm : GM w) : Calls Tryz.prog 8 #[.int .i64 thm, .int .i64 n] w (GotS w r) := by
  rcases hu with ⟨s, p, m, pk, pn, pks, kb, nb, kbs, rk, rn, rks, rfl, rfl, rfl, hu, rfl⟩ | ⟨hno, rfl⟩
  · exact sUse_yes h hu w hm
  · rcases hno with ho | ⟨hn, b, ho⟩ | ⟨n0, ks0, b, ho⟩
    · exact sUse_no1 h ho w hm
    · exact sUse_no2 h hn (by rw [ho]; rfl) w hm
    · by_cases hn : 0 ≤ n ∧ n ≤ 20
      · exact sUse_no3 h hn ho w hm
      · exact sUse_no2 h hn (by rw [ho]; rfl) w hm
end Go.Proofs.YthgmofdfecioaaaGreatDoor
