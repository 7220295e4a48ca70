/-
  Contracts of the functions that the law reaches, and plain lemmas. No condition.
-/
import Derived.Test.YtodkenpmhhbppaaK10
import Derived.Test.YtodkenpmhhbppaaK12
import Derived.Deep.RegionHeld3
namespace Go.Proofs.Ytodkenpmhhbppaa
set_option linter.unusedSimpArgs false
set_option linter.unusedVariables false
open Go.RowKit
set_option maxHeartbeats 2000000 in
set_option maxRecDepth 100000 in
theorem iMatch_any (m : Nat) (hm : m ≤ 6) (add : Int) (hadd : 0 ≤ add ∧ add ≤ 6) (lo g sb : Nat) (hgs : g ≠ sb) (hsl : sb < lo) (N : Nat) : ∀ (k n : Int) (ks : List Tm) (A : Option Addr) (c : Nat) (ku nu : Int) (us : List Tm) (U : Option Addr) (cu : Nat) (d : Int) (q : Nat) (mb cg cs : Nat) (G : List Tm) (S : List Bool) (w : World),
    sizes ks < N → validT (.mk k n ks) = true → validT (.mk ku nu us) = true → shape q (.mk k n ks) = true → 0 ≤ d → d + q ≤ 100 → G.length = m → S.length = m → RdP (fun b => b ≠ g ∧ b ≠ sb) w A 0 ks → RdP (fun b => b ≠ g ∧ b ≠ sb) w U 0 us → Tab w lo g G → Blk w sb (bools S) → lo ≤ w.heap.size → Blk w mb #[.slice (some ⟨g, 0, none⟩) m cg, .slice (some ⟨sb, 0, none⟩) m cs, .int .i64 add] → mb ≠ g → mb ≠ sb →
    Calls Try.prog 116 #[.pointer (some ⟨mb, 0, none⟩), .agg #[.int .i64 k, .int .i64 n, .slice A ks.length c], .agg #[.int .i64 ku, .int .i64 nu, .slice U us.length cu], .int .i64 d] w
      (MtPost lo g sb w (mt m add d (.mk k n ks) (.mk ku nu us) (G, S))) := by
  induction N with
  | zero => intro k n ks A c ku nu us U cu d q mb cg cs G S w hN; exact absurd hN (Nat.not_lt_zero _)
  | succ N ih =>
  intro k n ks A c ku nu us U cu d q mb cg cs G S w hN hv hvu hsh hd hdq hG hSl hr hru hT hS hlo hM hmg hms
  have hlen := length_le_sizes ks
  have hlenu := length_le_sizes us
  have hn := valid_n hv
  have hnu := valid_n hvu
  have hzk := validT_size hv
  have hzu := validT_size hvu
  rw [Tm.size] at hzk hzu
  have hgl := hT.lt
  have hsb := hS.lt
  obtain ⟨q, rfl, ha, hm1, hm2, hkids⟩ := shape_pos hsh
  have hkids' := hide hkids
  have hvk := hide (fun t (ht : t ∈ ks) => validT_kid hv ht)
  have hvuk := hide (fun t (ht : t ∈ us) => validT_kid hvu ht)
  have hsu : shape 30 (.mk ku nu us) = true := by simp only [validT, Bool.and_eq_true] at hvu; exact hvu.1
  have hsu' := hide hsu
  have hv' := hide hv
  have hvu' := hide hvu
  clear hkids ha hm1 hm2 hsu hv hvu
  have m0 := hM.at_ (i := 0) rfl
  have m1 := hM.at_ (i := 1) rfl
  have m2 := hM.at_ (i := 2) rfl
  have lM := hM.lt
  by_cases hk : k = 1 ∧ d ≤ n
  · obtain ⟨rfl, hdn⟩ := hk
    have := valid_var hv'.out
    subst this
    have q0 : decide (0 ≤ n - d) = true := decide_eq_true (by omega)
    by_cases hlt : n < d + m
    · obtain ⟨j, hj⟩ : ∃ j : Nat, n - d = (j : Int) := ⟨(n - d).toNat, by omega⟩
      have hjm : j < m := by omega
      have hjn : (n - d).toNat = j := by omega
      have q2 : decide ((m : Int) ≤ (j : Int)) = false := decide_eq_false (by omega)
      rw [hj] at q0
      have hsub := hj
      have hj' := hide hj
      cases hlow : shiftI (-d) 0 (.mk ku nu us) with
      | none =>
        have hz : mt m add d (.mk 1 n []) (.mk ku nu us) (G, S) = (false, (G, S)) := by rw [mt, if_pos ⟨rfl, hdn⟩, if_pos hlt, hlow]
        rw [hz]
        have hlow' := hide hlow
        clear hz hlow hdn hlt hjn hj
        go_enter Try.func116, Try.ntmps116
        go_wp2_with (go_at_call 92; refine (shift_any ku nu us U cu (-d) 0 _ (by have := hj'.out; omega) (by omega) (by omega) hsu'.out ((hru.rd.alloc _).alloc _)).mono ?_; rw [hlow'.out]; intro e w2 hgo; obtain ⟨he, hb2⟩ := gotO_none hgo; subst he; clear hgo; have hb02 : Below w.heap.size w w2 := (((Below.refl _ _).alloc (Nat.le_refl _) _).alloc (by simp) _).trans (hb2.mono (by simp; omega)))
        go_ret
        exact ⟨rfl, (hT.keep hb02).alloc _, (hS.keep hb02).alloc _, (OnlyIn.of_below hb02).al1 _⟩
      | some low =>
        obtain ⟨kl, nl, kls⟩ := low
        obtain ⟨b0, off, kj, nj, ksj, Aj, cj, hAj, hkj, hc1, hc2, hc3, hlj, hrj⟩ := hT.rd.at_ (j := j) (by omega)
        cases hAj
        simp only [Nat.zero_add] at hc1 hc2 hc3
        have hGj : G.getD j zeroT = .mk kj nj ksj := by rw [← hkj]; simp [List.getD, List.getElem?_eq_getElem (show j < G.length by omega)]
        cases hse : S.getD j false with
        | true =>
          have hz : mt m add d (.mk 1 n []) (.mk ku nu us) (G, S) = (tmEq (.mk kj nj ksj) (.mk kl nl kls), (G, S)) := by
            rw [mt, if_pos ⟨rfl, hdn⟩, if_pos hlt, hlow]
            simp only [hjn, hse, if_true, hGj]
          rw [hz]
          have hse' := hide hse
          have hlow' := hide hlow
          generalize htq : tmEq (.mk kj nj ksj) (.mk kl nl kls) = tq
          have htq' := hide htq
          clear hz hdn hlt hjn hlow hGj hse hkj htq hj
          go_enter Try.func116, Try.ntmps116
          go_wp2_with (go_at_call 92; refine (shift_any ku nu us U cu (-d) 0 _ (by have := hj'.out; omega) (by omega) (by omega) hsu'.out ((hru.rd.alloc _).alloc _)).mono ?_; rw [hlow'.out]; intro e w2 hgo; obtain ⟨A2, c2, rfl, hl2, hf2, hb2⟩ := gotO_some hgo; clear hgo; have hb02 : Below w.heap.size w w2 := (((Below.refl _ _).alloc (Nat.le_refl _) _).alloc (by simp) _).trans (hb2.mono (by simp; omega)); have hM2 := hM.keep hb02; have e0 := hM2.at_ (i := 0) rfl; have e1 := hM2.at_ (i := 1) rfl; have lM2 := hM2.lt; have xs2 := (hS.keep hb02).at_ (bools_get (show j < S.length by omega)); rw [hse'.out] at xs2; have ls2 := (hS.keep hb02).lt; have lg2 := (hT.keep hb02).lt)
          have hTa := (hT.keep hb02).alloc (.cells #[.int .i64 kl, .int .i64 nl, .slice A2 kls.length c2] 25)
          have hSa := (hS.keep hb02).alloc (.cells #[.int .i64 kl, .int .i64 nl, .slice A2 kls.length c2] 25)
          have hMa := hM2.alloc (.cells #[.int .i64 kl, .int .i64 nl, .slice A2 kls.length c2] 25)
          have hba := hb02.alloc hb02.size (.cells #[.int .i64 kl, .int .i64 nl, .slice A2 kls.length c2] 25)
          have hNew := Blk.new_ (n := w2.heap.size) w2 25 #[.int .i64 kl, .int .i64 nl, .slice A2 kls.length c2] rfl
          have hf2a := hf2.rd.alloc (.cells #[.int .i64 kl, .int .i64 nl, .slice A2 kls.length c2] 25)
          clear e0 e1 xs2
          generalize w2.alloc (.cells #[.int .i64 kl, .int .i64 nl, .slice A2 kls.length c2] 25) = wa at hTa hSa hMa hba hNew hf2a ⊢
          have hrja := hrj.below hba
          have s1 := rule_of ((Keeps.of_below hba) _ _ hc1)
          have s2 := rule_of ((Keeps.of_below hba) _ _ hc2)
          have s3 := rule_of ((Keeps.of_below hba) _ _ hc3)
          have r0 := hMa.rule (i := 0) rfl
          have r1 := hNew.rule (i := 0) rfl
          have r2 := hNew.rule (i := 1) rfl
          have r3 := hNew.rule (i := 2) rfl
          refine wp_region_firstY (fun w' => Below wa.heap.size wa w') [0, 1, 2, 3, 4, 5, 6, 7] [] [8, 9] [_, _, _, _, _, _, _, _] [] [_, _] (by kernel_rfl) (by kernel_rfl) rfl rfl rfl (fun _ _ d _ _ h => by cases d <;> exact h) (Below.refl _ _).drew ?_
          repeat (first | ((refine takeY_skip (a' := ?_) ?_ ?_ ?_); (rotate_left); (· (simp [Region.wanted, yielded]; done)); (· (simp only [List.getElem_toArray, List.getElem_cons_zero, List.getElem_cons_succ, Act.put, List.setIfInBounds_toArray, List.set_cons_zero, List.set_cons_succ]; exact rfl))) | ((refine takeY_step (v := ?_) (a' := ?_) ?_ ?_ ?_ ?_); (rotate_left 2); (· (simp [Region.wanted, yielded]; done)); (· (intro w' hS'; go_simp; try (with_reducible rfl))); (· (simp only [List.getElem_toArray, List.getElem_cons_zero, List.getElem_cons_succ, Act.put, List.setIfInBounds_toArray, List.set_cons_zero, List.set_cons_succ]; exact rfl))))
          refine takeY_nil (then_nil ?_)
          clear r0 r1 r2 r3 s1 s2 s3
          go_wp2_with (go_at_call 19; refine (iSame_any kj nj ksj Aj cj kl nl kls A2 c2 _ hlj hl2 hrja.drew hf2a.drew).mono ?_; rw [htq'.out]; rintro e w3 ⟨rfl, hb3⟩)
          go_ret
          have hb13 : Below wa.heap.size wa w3 := (Below.refl _ _).drew.trans hb3
          exact ⟨rfl, hTa.keep hb13, hSa.keep hb13, .of_below (hba.trans (hb13.mono hba.size))⟩
        | false =>
          have hz : mt m add d (.mk 1 n []) (.mk ku nu us) (G, S) = (true, (G.set j (.mk kl nl kls), S.set j true)) := by
            rw [mt, if_pos ⟨rfl, hdn⟩, if_pos hlt, hlow]
            simp only [hjn, hse, Bool.false_eq_true, if_false]
          rw [hz]
          have hse' := hide hse
          have hlow' := hide hlow
          clear hz hdn hlt hjn hlow hGj hse hkj hj
          go_enter Try.func116, Try.ntmps116
          go_wp2_with (go_at_call 92; refine (shift_any ku nu us U cu (-d) 0 _ (by have := hj'.out; omega) (by omega) (by omega) hsu'.out ((hru.rd.alloc _).alloc _)).mono ?_; rw [hlow'.out]; intro e w2 hgo; obtain ⟨A2, c2, rfl, hl2, hf2, hb2⟩ := gotO_some hgo; clear hgo; have hb02 : Below w.heap.size w w2 := (((Below.refl _ _).alloc (Nat.le_refl _) _).alloc (by simp) _).trans (hb2.mono (by simp; omega)); have hM2 := hM.keep hb02; have e0 := hM2.at_ (i := 0) rfl; have e1 := hM2.at_ (i := 1) rfl; have lM2 := hM2.lt; have xs2 := (hS.keep hb02).at_ (bools_get (show j < S.length by omega)); rw [hse'.out] at xs2; have ls2 := (hS.keep hb02).lt; have lg2 := (hT.keep hb02).lt)
          have hTa := (hT.keep hb02).alloc (.cells #[.int .i64 kl, .int .i64 nl, .slice A2 kls.length c2] 25)
          have hSa := (hS.keep hb02).alloc (.cells #[.int .i64 kl, .int .i64 nl, .slice A2 kls.length c2] 25)
          have hMa := hM2.alloc (.cells #[.int .i64 kl, .int .i64 nl, .slice A2 kls.length c2] 25)
          have hba := hb02.alloc hb02.size (.cells #[.int .i64 kl, .int .i64 nl, .slice A2 kls.length c2] 25)
          have hb2a : Below ((w.alloc _).alloc _).heap.size ((w.alloc _).alloc _) _ := hb2.alloc hb2.size (.cells #[.int .i64 kl, .int .i64 nl, .slice A2 kls.length c2] 25)
          have hNew := Blk.new_ (n := w2.heap.size) w2 25 #[.int .i64 kl, .int .i64 nl, .slice A2 kls.length c2] rfl
          have hf2a := hf2.alloc (.cells #[.int .i64 kl, .int .i64 nl, .slice A2 kls.length c2] 25)
          clear e0 e1 xs2
          generalize w2.alloc (.cells #[.int .i64 kl, .int .i64 nl, .slice A2 kls.length c2] 25) = wa at hTa hSa hMa hba hb2a hNew hf2a ⊢
          have x0' : wa.cell? ⟨g, j * 3, none⟩ = some (.int .i64 kj) := (Keeps.of_below hba) _ _ hc1
          have x1' : wa.cell? ⟨g, j * 3 + 1, none⟩ = some (.int .i64 nj) := (Keeps.of_below hba) _ _ hc2
          have x2' : wa.cell? ⟨g, j * 3 + 2, none⟩ = some (.slice Aj ksj.length cj) := (Keeps.of_below hba) _ _ hc3
          have z0' := hTa.frozen (j * 3)
          have z1' := hTa.frozen (j * 3 + 1)
          have z2' := hTa.frozen (j * 3 + 2)
          have y1' := hSa.frozen j
          have y0' := hSa.at_ (bools_get (show j < S.length by omega))
          rw [hse'.out] at y0'
          have f0 := hMa.at_ (i := 0) rfl
          have f1 := hMa.at_ (i := 1) rfl
          have f2 := hNew.at_ (i := 0) rfl
          have f3 := hNew.at_ (i := 1) rfl
          have f4 := hNew.at_ (i := 2) rfl
          have n1 : w2.heap.size ≠ g := by omega
          have n2 : w2.heap.size ≠ sb := by omega
          have n1' : g ≠ w2.heap.size := by omega
          have n2' : sb ≠ w2.heap.size := by omega
          have n3' : g ≠ mb := fun e => hmg e.symm
          have n4' : sb ≠ mb := fun e => hms e.symm
          have n5' : sb ≠ g := fun e => hgs e.symm
          go_region_held3 (fun w' => w'.cell? ⟨mb, 0, none⟩ = some (.slice (some ⟨g, 0, none⟩) m cg) ∧ w'.cell? ⟨mb, 1, none⟩ = some (.slice (some ⟨sb, 0, none⟩) m cs) ∧ w'.cell? ⟨w2.heap.size, 0, none⟩ = some (.int .i64 kl) ∧ w'.cell? ⟨w2.heap.size, 1, none⟩ = some (.int .i64 nl) ∧ w'.cell? ⟨w2.heap.size, 2, none⟩ = some (.slice A2 kls.length c2)) (go_keep) (fail)
          all_goals go_wp2_with fail
          go_ret
          have hput := Tab.put ((hT.alloc _).alloc _) hb2a.drew (by simp; omega) (k := kl) (m := nl) (c := c2) (j := j) hf2a.drew hl2 (by omega)
          refine ⟨rfl, hput.setCell (by simpa using fun e => hgs e.symm) (by simpa using hsl) _, ?_, ?_⟩
          · rw [← bools_set]
            exact (((hSa.drew.far (by simpa using fun e => hgs e.symm) _).far (by simpa using fun e => hgs e.symm) _).far (by simpa using fun e => hgs e.symm) _).set_ j _
          · exact ((((OnlyIn.of_below hba.drew).setCell (by simp) _).setCell (by simp) _).setCell (by simp) _).setCell (by simp) _
    · have q2 : decide ((m : Int) ≤ n - d) = true := decide_eq_true (by omega)
      have q2b : decide (d ≤ n) = true := decide_eq_true (by omega)
      have hz : mt m add d (.mk 1 n []) (.mk ku nu us) (G, S) = (ku == 1 && nu == n - m + add, (G, S)) := by rw [mt, if_pos ⟨rfl, hdn⟩, if_neg hlt]; rfl
      rw [hz]
      have hlt' := hide hlt
      clear hz hdn hlt
      cases q1 : (ku == 1)
      all_goals
        go_enter Try.func116, Try.ntmps116
        go_wp2_with fail
        have hB0 := (Blk.new_ w 25 #[.int .i64 1, .int .i64 n, .slice A 0 c] rfl).alloc (.cells #[.int .i64 ku, .int .i64 nu, .slice U us.length cu] 25)
        have hB1 := Blk.new_ (n := w.heap.size + 1) (w.alloc (.cells #[.int .i64 1, .int .i64 n, .slice A 0 c] 25)) 25 #[.int .i64 ku, .int .i64 nu, .slice U us.length cu] (by simp)
        have hMa := (hM.alloc (.cells #[.int .i64 1, .int .i64 n, .slice A 0 c] 25)).alloc (.cells #[.int .i64 ku, .int .i64 nu, .slice U us.length cu] 25)
        have hTa := (hT.alloc (.cells #[.int .i64 1, .int .i64 n, .slice A 0 c] 25)).alloc (.cells #[.int .i64 ku, .int .i64 nu, .slice U us.length cu] 25)
        have hSa := (hS.alloc (.cells #[.int .i64 1, .int .i64 n, .slice A 0 c] 25)).alloc (.cells #[.int .i64 ku, .int .i64 nu, .slice U us.length cu] 25)
        have hoa : OnlyIn [g, sb] w ((w.alloc (.cells #[.int .i64 1, .int .i64 n, .slice A 0 c] 25)).alloc (.cells #[.int .i64 ku, .int .i64 nu, .slice U us.length cu] 25)) := (OnlyIn.refl _ _).al2 _ _
        generalize (w.alloc (.cells #[.int .i64 1, .int .i64 n, .slice A 0 c] 25)).alloc (.cells #[.int .i64 ku, .int .i64 nu, .slice U us.length cu] 25) = wa at hB0 hB1 hMa hTa hSa hoa ⊢
        have r1 := hB0.rule (i := 1) rfl
        have r2 := hB1.rule (i := 0) rfl
        have r3 := hB1.rule (i := 1) rfl
        have r4 := hMa.rule (i := 2) rfl
        refine wp_region_firstY (fun w' => Below wa.heap.size wa w') [0, 1, 2, 3, 4, 5, 6, 7, 8, 9, 10, 11, 12, 13, 14, 15, 16] [] [17] [_, _, _, _, _, _, _, _, _, _, _, _, _, _, _, _, _] [] [_] (by kernel_rfl) (by kernel_rfl) rfl rfl rfl (fun _ _ d _ _ h => by cases d <;> exact h) (Below.refl _ _).drew ?_
        repeat (first | ((refine takeY_skip (a' := ?_) ?_ ?_ ?_); (rotate_left); (· (simp [Region.wanted, yielded]; done)); (· (simp only [List.getElem_toArray, List.getElem_cons_zero, List.getElem_cons_succ, Act.put, List.setIfInBounds_toArray, List.set_cons_zero, List.set_cons_succ]; exact rfl))) | ((refine takeY_step (v := ?_) (a' := ?_) ?_ ?_ ?_ ?_); (rotate_left 2); (· (simp [Region.wanted, yielded]; done)); (· (intro w' hS'; go_simp; try (with_reducible rfl))); (· (simp only [List.getElem_toArray, List.getElem_cons_zero, List.getElem_cons_succ, Act.put, List.setIfInBounds_toArray, List.set_cons_zero, List.set_cons_succ]; exact rfl))))
        refine takeY_nil (then_nil ?_)
        go_wp2_with fail
        go_ret
        exact ⟨by simp, hTa.drew, hSa.drew, hoa.trans (.of_below (Below.refl _ _).drew)⟩
  · have hz : mt m add d (.mk k n ks) (.mk ku nu us) (G, S) = if ku = k ∧ nu = n ∧ us.length = ks.length then mtL m add k d 0 ks us (G, S) else (false, (G, S)) := by rw [mt, if_neg hk]; rfl
    rw [hz]
    have hk' := hide hk
    clear hz hk
    by_cases hk1 : k = 1
    · subst hk1
      have := valid_var hv'.out
      subst this
      have q0 : ((1 : Int) == 1) = true := rfl
      have q1 : decide (0 ≤ n - d) = false := decide_eq_false (fun h => hk'.out ⟨rfl, by omega⟩)
      have q1b : decide (d ≤ n) = false := decide_eq_false (fun h => hk'.out ⟨rfl, h⟩)
      by_cases h1 : ku = 1
      · subst h1
        have := valid_var hvu'.out
        subst this
        by_cases h2 : nu = n
        · subst h2
          have q4 : (nu != nu) = false := by simp
          rw [if_pos ⟨rfl, rfl, rfl⟩]
          go_enter Try.func116, Try.ntmps116
          go_wp2_with fail
          go_loopw [112] (fun i wr => i = .int .i64 0 ∧ Tab wr lo g G ∧ Blk wr sb (bools S) ∧ Blk wr w.heap.size #[.int .i64 1, .int .i64 nu, .slice A 0 c] ∧ OnlyIn [g, sb] w wr) (fun _ _ => 0)
          case atStart => exact ⟨rfl, (hT.alloc _).alloc _, (hS.alloc _).alloc _, (Blk.new_ _ _ _ rfl).alloc _, (OnlyIn.refl _ _).al2 _ _⟩
          case round =>
            obtain ⟨rfl, hT1, hS1, hB1, ho⟩ := hrel
            have b2 := hB1.at_ (i := 2) rfl
            go_wp2_with fail
            go_ret
            exact ⟨by simp [mtL], by simpa [mtL] using hT1, by simpa [mtL] using hS1, ho⟩
        · have q4 : (n != nu) = true := by simpa using fun e => h2 e.symm
          rw [if_neg (by rintro ⟨-, h, -⟩; exact h2 h)]
          clear h2
          go_enter Try.func116, Try.ntmps116
          go_wp2_with fail
          go_ret
          exact ⟨rfl, (hT.alloc _).alloc _, (hS.alloc _).alloc _, (OnlyIn.refl _ _).al2 _ _⟩
      · have q3 : ((1 : Int) != ku) = true := by simpa using fun e => h1 e.symm
        rw [if_neg (by rintro ⟨h, -, -⟩; exact h1 h)]
        clear h1
        go_enter Try.func116, Try.ntmps116
        go_wp2_with fail
        go_ret
        exact ⟨rfl, (hT.alloc _).alloc _, (hS.alloc _).alloc _, (OnlyIn.refl _ _).al2 _ _⟩
    · have q0 : (k == 1) = false := by simpa using hk1
      clear hk1
      by_cases h1 : ku = k
      · subst h1
        have q3 : (ku != ku) = false := by simp
        by_cases h2 : nu = n
        · subst h2
          have q4 : (nu != nu) = false := by simp
          by_cases h3 : us.length = ks.length
          · have q5 : ((ks.length : Int) != (us.length : Int)) = false := by simp [h3]
            rw [if_pos ⟨rfl, rfl, h3⟩]
            have h3' := hide h3
            have hle : us.length ≤ ks.length := by omega
            have hge : ks.length ≤ us.length := by omega
            clear h3
            go_enter Try.func116, Try.ntmps116
            go_wp2_with fail
            go_loopw [112] (fun i wr => ∃ (j : Nat) (G1 : List Tm) (S1 : List Bool), j ≤ ks.length ∧ i = .int .i64 j ∧ Hid (mtL m add ku d 0 (ks.take j) (us.take j) (G, S) = (true, (G1, S1))) ∧ G1.length = m ∧ S1.length = m ∧ Tab wr lo g G1 ∧ Blk wr sb (bools S1) ∧ Blk wr w.heap.size #[.int .i64 ku, .int .i64 nu, .slice A ks.length c] ∧ Blk wr (w.heap.size + 1) #[.int .i64 ku, .int .i64 nu, .slice U us.length cu] ∧ OnlyIn [g, sb] w wr) (fun i _ => ks.length - (intOf i).toNat)
            case atStart => exact ⟨0, G, S, Nat.zero_le _, rfl, hide (by simp [mtL]), hG, hSl, (hT.alloc _).alloc _, (hS.alloc _).alloc _, (Blk.new_ _ _ _ rfl).alloc _, Blk.new_ _ _ _ (by simp), (OnlyIn.refl _ _).al2 _ _⟩
            case round =>
              obtain ⟨j, G1, S1, hj, rfl, hall, hG1, hS1l, hT1, hS1, hB1, hB2, ho⟩ := hrel
              have hsz0 := ho.size
              have hM1 := hM.only ho (by simp [hmg, hms])
              by_cases hlt : j < ks.length
              · have hlt' : j < us.length := by omega
                obtain ⟨b, off, k1, n1, ks1, A1, c1, rfl, hkj, hc1, hc2, hc3, hl1, hr1⟩ := (hr.only ho).at_ hlt
                obtain ⟨b3, off3, k3, n3, ks3, A3, c3, rfl, hkj3, hd1, hd2, hd3, hl3, hr3⟩ := (hru.only ho).at_ hlt'
                have hsz := sizes_le (List.getElem_mem hlt)
                have hsk := hkids'.out _ (List.getElem_mem hlt)
                have hv1 := hvk.out _ (List.getElem_mem hlt)
                have hv3 := hvuk.out _ (List.getElem_mem hlt')
                rw [hkj] at hsz hsk hv1
                rw [hkj3] at hv3
                simp only [Tm.size] at hsz
                have hst := mtL_take m add ku d hlt h3'.out.symm hall.out
                rw [hkj, hkj3] at hst
                obtain ⟨bq, G2, S2, hmt⟩ : ∃ bq G2 S2, mt m add (d + under ku j) (.mk k1 n1 ks1) (.mk k3 n3 ks3) (G1, S1) = (bq, (G2, S2)) := ⟨_, _, _, rfl⟩
                have hml := mt_length m add (.mk k1 n1 ks1) (d + under ku j) (.mk k3 n3 ks3) (G1, S1)
                rw [hmt] at hst hml
                have H4 := hide hsk
                have H5 := hide hv1
                have H6 := hide hv3
                have H7 := hide hmt
                have H8 := hide hst
                have H9 := hide hml
                clear hkj hkj3 hsk hv1 hv3 hmt hst hml
                go_wp2_with fail
                have r1 := rule_of hc1
                have r2 := rule_of hc2
                have r3 := rule_of hc3
                have r4 := rule_of hd1
                have r5 := rule_of hd2
                have r6 := rule_of hd3
                have r7 := hB1.rule (i := 2) rfl
                have r8 := hB2.rule (i := 2) rfl
                have r9 := hB1.rule (i := 0) rfl
                have hun := under_le ku j
                refine wp_region_firstY (fun w' => Below wr.heap.size wr w') [0, 1, 2, 3, 4, 5, 6, 7, 8, 9, 10, 11, 12, 13, 14, 15, 16] [] [17, 18] [_, _, _, _, _, _, _, _, _, _, _, _, _, _, _, _, _] [] [_, _] (by kernel_rfl) (by kernel_rfl) rfl rfl rfl (fun _ _ d _ _ h => by cases d <;> exact h) (Below.refl _ _).drew ?_
                repeat (first | ((refine takeY_skip (a' := ?_) ?_ ?_ ?_); (rotate_left); (· (simp [Region.wanted, yielded]; done)); (· (simp only [List.getElem_toArray, List.getElem_cons_zero, List.getElem_cons_succ, Act.put, List.setIfInBounds_toArray, List.set_cons_zero, List.set_cons_succ]; exact rfl))) | ((refine takeY_step (v := ?_) (a' := ?_) ?_ ?_ ?_ ?_); (rotate_left 2); (· (simp [Region.wanted, yielded]; done)); (· (intro w' hS'; go_simp; try (with_reducible rfl))); (· (simp only [List.getElem_toArray, List.getElem_cons_zero, List.getElem_cons_succ, Act.put, List.setIfInBounds_toArray, List.set_cons_zero, List.set_cons_succ]; exact rfl))) | ((refine takeY_call (v := ?_) (a' := ?_) 127 ?_ ?_ ?_ ?_ ?_ ?_); (rotate_left 3); (· (simp [Region.wanted, yielded]; done)); (· (intro w' hS'; go_simp; try (with_reducible rfl))); (· (intro w' hS'; exact iUnder_any _ _ _)); (· (simp only [List.getElem_toArray, List.getElem_cons_zero, List.getElem_cons_succ, Act.put, List.setIfInBounds_toArray, List.set_cons_zero, List.set_cons_succ]; exact rfl))))
                refine takeY_nil (then_nil ?_)
                clear r1 r2 r3 r4 r5 r6 r7 r8 r9
                cases bq with
                | false =>
                  go_wp2_with (go_at_call 116; refine (ih k1 n1 ks1 A1 c1 k3 n3 ks3 A3 c3 (d + under ku j) q mb cg cs G1 S1 _ (by omega) H5.out H6.out H4.out (by omega) (by omega) hG1 hS1l hr1.drew hr3.drew hT1.drew hS1.drew (by simp; omega) hM1.drew hmg hms).mono ?_; rw [H7.out]; rintro e w1 ⟨rfl, hT2, hS2, ho2⟩)
                  go_ret
                  rw [mtL_no m add ku d hlt h3'.out.symm H8.out]
                  exact ⟨rfl, hT2, hS2, ho.trans ((OnlyIn.of_below (Below.refl _ _).drew).trans ho2)⟩
                | true =>
                  go_wp2_with (go_at_call 116; refine (ih k1 n1 ks1 A1 c1 k3 n3 ks3 A3 c3 (d + under ku j) q mb cg cs G1 S1 _ (by omega) H5.out H6.out H4.out (by omega) (by omega) hG1 hS1l hr1.drew hr3.drew hT1.drew hS1.drew (by simp; omega) hM1.drew hmg hms).mono ?_; rw [H7.out]; rintro e w1 ⟨rfl, hT2, hS2, ho2⟩)
                  replace ho2 : OnlyIn [g, sb] wr w1 := (OnlyIn.of_below (Below.refl _ _).drew).trans ho2
                  go_roundw
                  case rel => exact ⟨j + 1, G2, S2, by omega, by go_num, H8, H9.out.1.trans hG1, H9.out.2.trans hS1l, hT2, hS2, hB1.only ho2 (by simp; omega), hB2.only ho2 (by simp; omega), ho.trans ho2⟩
                  case measure => simp [intOf]; omega
              · go_wp2_with fail
                go_ret
                have hjl : j = ks.length := by omega
                have h5 := hall.out
                rw [hjl, List.take_length, ← h3'.out, List.take_length] at h5
                rw [h5]
                exact ⟨rfl, hT1, hS1, ho⟩
          · have q5 : ((ks.length : Int) != (us.length : Int)) = true := by simp; omega
            rw [if_neg (by rintro ⟨-, -, h⟩; exact h3 h)]
            clear h3
            go_enter Try.func116, Try.ntmps116
            go_wp2_with fail
            go_ret
            exact ⟨rfl, (hT.alloc _).alloc _, (hS.alloc _).alloc _, (OnlyIn.refl _ _).al2 _ _⟩
        · have q4 : (n != nu) = true := by simpa using fun e => h2 e.symm
          rw [if_neg (by rintro ⟨-, h, -⟩; exact h2 h)]
          clear h2
          go_enter Try.func116, Try.ntmps116
          go_wp2_with fail
          go_ret
          exact ⟨rfl, (hT.alloc _).alloc _, (hS.alloc _).alloc _, (OnlyIn.refl _ _).al2 _ _⟩
      · have q3 : (k != ku) = true := by simpa using fun e => h1 e.symm
        rw [if_neg (by rintro ⟨h, -, -⟩; exact h1 h)]
        clear h1
        go_enter Try.func116, Try.ntmps116
        go_wp2_with fail
        go_ret
        exact ⟨rfl, (hT.alloc _).alloc _, (hS.alloc _).alloc _, (OnlyIn.refl _ _).al2 _ _⟩
open Go.RowKit
mutual
/-- how often a variable stands free -/
def cnV (x : Int) : Int → Tm → Nat | d, .mk k n ks => (if k = 1 ∧ d ≤ n ∧ n - d = x then 1 else 0) + cnVL x k d 0 ks
def cnVL (x : Int) : Int → Int → Nat → List Tm → Nat | _, _, _, [] => 0 | k, d, i, t :: ts => cnV x (d + under k i) t + cnVL x k d (i + 1) ts
end
theorem cnVL_append (x k d : Int) (us : List Tm) : ∀ (ts : List Tm) (i : Nat), cnVL x k d i (ts ++ us) = cnVL x k d i ts + cnVL x k d (i + ts.length) us
  | [], i => by simp [cnVL]
  | t :: ts, i => by rw [List.cons_append, cnVL, cnVL, cnVL_append x k d us ts (i + 1), List.length_cons, show i + 1 + ts.length = i + (ts.length + 1) from by omega, Nat.add_assoc]
theorem cnVL_take (x k d : Int) {ks : List Tm} {j : Nat} (hj : j < ks.length) : cnVL x k d 0 (ks.take (j + 1)) = cnVL x k d 0 (ks.take j) + cnV x (d + under k j) ks[j] := by
  rw [List.take_succ_eq_append_getElem hj, cnVL_append, List.length_take, Nat.min_eq_left (Nat.le_of_lt hj), Nat.zero_add, cnVL, cnVL, Nat.add_zero]
theorem cnV_size (x : Int) (t : Tm) : ∀ d, cnV x d t ≤ t.size := by
  refine Tm.rec (motive_1 := fun t => ∀ d, cnV x d t ≤ t.size) (motive_2 := fun ts => ∀ k d i, cnVL x k d i ts ≤ sizes ts) ?_ ?_ ?_ t
  · intro k n ks ih d; rw [cnV, Tm.size]; have := ih k d 0; split <;> omega
  · intro k d i; simp [cnVL]
  · intro t ts h1 h2 k d i; rw [cnVL, sizes]; have := h1 (d + under k i); have := h2 k d (i + 1); omega
theorem cnVL_size (x k d : Int) (i : Nat) (ts : List Tm) : cnVL x k d i ts ≤ sizes ts := by
  induction ts generalizing i with
  | nil => simp [cnVL]
  | cons t ts ih => rw [cnVL, sizes]; have := cnV_size x t (d + under k i); have := ih (i + 1); omega
theorem grown_below {w w' : World} {g B : Nat} (h : w.grownBy w' (some g)) (hB : B ≤ w.heap.size) (hg : B ≤ g) : Below B w w' :=
  ⟨h.os, h.tape, h.output, h.size, fun b hb => h.block b (by omega) (by simp; omega)⟩
def UnitV : Value := .tuple #[]
set_option maxHeartbeats 2000000 in
set_option maxRecDepth 100000 in
theorem cl142_any (z x cc : Int) (bi g : Nat) (w : World) (hi : Blk w bi #[.int .i64 x]) (hg : Blk w g #[.int .i64 cc]) (h0 : 0 ≤ cc) (h1 : cc ≤ 1000000000) (hne : bi ≠ g) :
    Calls Try.prog 146 #[.int .i64 z, .pointer (some ⟨bi, 0, none⟩), .pointer (some ⟨g, 0, none⟩)] w fun e w' => e = .returned UnitV ∧ Blk w' g #[.int .i64 (if z = x then cc + 1 else cc)] ∧ w.grownBy w' (some g) := by
  have a0 := hi.at_ (i := 0) rfl
  have a1 := hg.at_ (i := 0) rfl
  have a2 := hg.frozen 0
  by_cases hz : z = x
  · rw [if_pos hz]
    have q : (z == x) = true := by simpa using hz
    clear hz
    go_enter Try.func146, Try.ntmps146
    go_wp2_with fail
    first | (refine bodyPost_ret (results_none rfl _ _ _) rfl ?_) | (refine bodyPost_end (results_none rfl _ _ _) rfl ?_)
    exact ⟨rfl, hg.set_ 0 _, only_setCell (World.grownBy.refl _ _) (.inl rfl) _⟩
  · rw [if_neg hz]
    have q : (z == x) = false := by simpa using hz
    clear hz
    go_enter Try.func146, Try.ntmps146
    go_wp2_with fail
    first | (refine bodyPost_ret (results_none rfl _ _ _) rfl ?_) | (refine bodyPost_end (results_none rfl _ _ _) rfl ?_)
    exact ⟨rfl, hg, World.grownBy.refl _ _⟩
def CntPost (g : Nat) (cc : Int) (w : World) (e : Ending) (w' : World) : Prop := e = .returned UnitV ∧ Blk w' g #[.int .i64 cc] ∧ w.grownBy w' (some g)
set_option maxHeartbeats 2000000 in
set_option maxRecDepth 100000 in
theorem free_any (x : Int) (N : Nat) : ∀ (k n : Int) (ks : List Tm) (A : Option Addr) (c : Nat) (d : Int) (q : Nat) (bi g : Nat) (cc : Int) (w : World), sizes ks < N → shape q (.mk k n ks) = true → 0 ≤ d → d + q ≤ 1000 → bi ≠ g → Blk w bi #[.int .i64 x] → Blk w g #[.int .i64 cc] → 0 ≤ cc → cc + sizes ks ≤ 900000000 → RdP (· ≠ g) w A 0 ks →
    Calls Try.prog 145 #[.agg #[.int .i64 k, .int .i64 n, .slice A ks.length c], .int .i64 d, .func (.func 146) #[] #[.pointer (some ⟨bi, 0, none⟩), .pointer (some ⟨g, 0, none⟩)]] w (CntPost g (cc + cnV x d (.mk k n ks)) w) := by
  induction N with
  | zero => intro k n ks A c d q bi g cc w hN; exact absurd hN (Nat.not_lt_zero _)
  | succ N ih =>
  intro k n ks A c d q bi g cc w hN hsh hd hdq hne hi hg h0 hM hr
  have hrun := run_enter Try.func146 (by kernel_rfl) (by kernel_rfl)
  have hlen := length_le_sizes ks
  obtain ⟨q, rfl, ha, hm1, hm2, hkids⟩ := shape_pos hsh
  have hgl := hg.lt
  have hil := hi.lt
  rw [cnV]
  by_cases hk : k = 1
  · subst hk
    have := var_nil ha
    subst this
    have hn2 : n ≤ 20 := by simpa [mostN] using hm2
    rw [cnVL]
    clear hkids hsh ha hm2
    by_cases h1 : d ≤ n
    · have q1 : decide (d ≤ n) = true := decide_eq_true h1
      have hcc : cc + ((if 1 = (1 : Int) ∧ d ≤ n ∧ n - d = x then 1 else 0) + 0 : Nat) = if n - d = x then cc + 1 else cc := by
        by_cases h2 : n - d = x
        · rw [if_pos ⟨rfl, h1, h2⟩, if_pos h2]; rfl
        · rw [if_neg (by rintro ⟨-, -, h⟩; exact h2 h), if_neg h2]; simp
      rw [hcc]
      clear hcc
      generalize hcv : (if n - d = x then cc + 1 else cc) = cv
      have hcv' := hide hcv
      have h1' := hide h1
      clear hcv h1
      go_enter Try.func145, Try.ntmps145
      go_wp2_with (refine (cl142_any (n - d) x cc bi g _ (hi.alloc _) (hg.alloc _) h0 (by simp [sizes] at hM; omega) hne).mono ?_; rw [hcv'.out]; rintro e w1 ⟨rfl, hg1, hb1⟩; have hB1 := (Blk.new_ (n := w.heap.size) w 25 #[.int .i64 1, .int .i64 n, .slice A 0 c] rfl).grown hb1 (by simp; omega); replace hb1 := only_trans (only_alloc (World.grownBy.refl _ _) _) hb1; have b2 := hB1.at_ (i := 2) rfl)
      go_loopw [26] (fun i wr => i = .int .i64 0 ∧ Blk wr g #[.int .i64 (cv)] ∧ w.grownBy wr (some g)) (fun _ _ => 0)
      case atStart => exact ⟨rfl, hg1, hb1⟩
      case round =>
        obtain ⟨rfl, hG, hgr⟩ := hrel
        go_wp2_with fail
        first | (refine bodyPost_ret (results_none rfl _ _ _) rfl ?_) | (refine bodyPost_end (results_none rfl _ _ _) rfl ?_)
        exact ⟨rfl, hG, hgr⟩
    · have q1 : decide (d ≤ n) = false := decide_eq_false h1
      rw [if_neg (by rintro ⟨-, h, -⟩; exact h1 h)]
      clear h1
      go_enter Try.func145, Try.ntmps145
      go_wp2_with fail
      have hb1 : w.grownBy (w.alloc (.cells #[.int .i64 1, .int .i64 n, .slice A 0 c] 25)) (some g) := only_alloc (World.grownBy.refl _ _) _
      have hg1 := hg.alloc (.cells #[.int .i64 1, .int .i64 n, .slice A 0 c] 25)
      rw [show cc + ((0 + 0 : Nat) : Int) = cc by simp]
      go_loopw [26] (fun i wr => i = .int .i64 0 ∧ Blk wr g #[.int .i64 (cc)] ∧ w.grownBy wr (some g)) (fun _ _ => 0)
      case atStart => exact ⟨rfl, hg1, hb1⟩
      case round =>
        obtain ⟨rfl, hG, hgr⟩ := hrel
        go_wp2_with fail
        first | (refine bodyPost_ret (results_none rfl _ _ _) rfl ?_) | (refine bodyPost_end (results_none rfl _ _ _) rfl ?_)
        exact ⟨rfl, hG, hgr⟩
  · have q1 : (k == 1) = false := by simpa using hk
    rw [if_neg (by rintro ⟨h, -⟩; exact hk h), Nat.zero_add]
    have hkids' := hide hkids
    clear hk hkids hsh ha hm2
    go_enter Try.func145, Try.ntmps145
    go_wp2_with fail
    go_loopw [26] (fun i wr => ∃ (j : Nat), j ≤ ks.length ∧ i = .int .i64 j ∧ Blk wr g #[.int .i64 (cc + cnVL x k d 0 (ks.take j))] ∧ Blk wr bi #[.int .i64 x] ∧ Blk wr w.heap.size #[.int .i64 k, .int .i64 n, .slice A ks.length c] ∧ w.grownBy wr (some g)) (fun i _ => ks.length - (intOf i).toNat)
    case atStart => exact ⟨0, Nat.zero_le _, rfl, by simpa [cnVL] using hg.alloc _, hi.alloc _, Blk.new_ _ _ _ rfl, only_alloc (World.grownBy.refl _ _) _⟩
    case round =>
      obtain ⟨j, hj, rfl, hG, hI, hB1, hgr⟩ := hrel
      by_cases hlt : j < ks.length
      · obtain ⟨b, off, k1, n1, ks1, A1, c1, rfl, hkj, hc1, hc2, hc3, hl1, hr1⟩ := (hr.grown hgr (fun b hb e => hb (by injection e))).at_ hlt
        have hbl := World.block_lt_of_cell? _ _ hc1
        have hsz := sizes_le (List.getElem_mem hlt)
        have hst := sizes_take ks j hlt
        have hst2 := sizes_take_le ks (j + 1)
        have hcs : cnVL x k d 0 (ks.take j) ≤ sizes (ks.take j) := cnVL_size x _ _ _ _
        have hsk := hkids'.out _ (List.getElem_mem hlt)
        rw [hkj] at hsz hsk hst
        simp only [Tm.size] at hsz hst
        have H3 := hide hkj
        have H4 := hide hsk
        clear hkj hsk
        go_wp2_with fail
        have hNew := Blk.new_ (n := wr.heap.size) wr 25 #[.int .i64 k1, .int .i64 n1, .slice A1 ks1.length c1] rfl
        have hB1a := hB1.alloc (.cells #[.int .i64 k1, .int .i64 n1, .slice A1 ks1.length c1] 25)
        have hGa := hG.alloc (.cells #[.int .i64 k1, .int .i64 n1, .slice A1 ks1.length c1] 25)
        have hIa := hI.alloc (.cells #[.int .i64 k1, .int .i64 n1, .slice A1 ks1.length c1] 25)
        have hra := hr1.alloc (.cells #[.int .i64 k1, .int .i64 n1, .slice A1 ks1.length c1] 25)
        have hwa : wr.grownBy (wr.alloc (.cells #[.int .i64 k1, .int .i64 n1, .slice A1 ks1.length c1] 25)) (some g) := only_alloc (World.grownBy.refl _ _) _
        generalize wr.alloc (.cells #[.int .i64 k1, .int .i64 n1, .slice A1 ks1.length c1] 25) = wa at hNew hB1a hGa hIa hra hwa ⊢
        have r7 := hB1a.rule (i := 0) rfl
        have r1 := hNew.rule (i := 0) rfl
        have r2 := hNew.rule (i := 1) rfl
        have r3 := hNew.rule (i := 2) rfl
        have hun := under_le k j
        refine wp_region_firstY (fun w' => Below wa.heap.size wa w') [0, 1, 2, 3, 4, 5, 6, 7] [] [8] [_, _, _, _, _, _, _, _] [] [_] (by kernel_rfl) (by kernel_rfl) rfl rfl rfl (fun _ _ d _ _ h => by cases d <;> exact h) (Below.refl _ _).drew ?_
        repeat (first | ((refine takeY_skip (a' := ?_) ?_ ?_ ?_); (rotate_left); (· (simp [Region.wanted, yielded]; done)); (· (simp only [List.getElem_toArray, List.getElem_cons_zero, List.getElem_cons_succ, Act.put, List.setIfInBounds_toArray, List.set_cons_zero, List.set_cons_succ]; exact rfl))) | ((refine takeY_step (v := ?_) (a' := ?_) ?_ ?_ ?_ ?_); (rotate_left 2); (· (simp [Region.wanted, yielded]; done)); (· (intro w' hS'; go_simp; try (with_reducible rfl))); (· (simp only [List.getElem_toArray, List.getElem_cons_zero, List.getElem_cons_succ, Act.put, List.setIfInBounds_toArray, List.set_cons_zero, List.set_cons_succ]; exact rfl))) | ((refine takeY_call (v := ?_) (a' := ?_) 127 ?_ ?_ ?_ ?_ ?_ ?_); (rotate_left 3); (· (simp [Region.wanted, yielded]; done)); (· (intro w' hS'; go_simp; try (with_reducible rfl))); (· (intro w' hS'; exact iUnder_any _ _ _)); (· (simp only [List.getElem_toArray, List.getElem_cons_zero, List.getElem_cons_succ, Act.put, List.setIfInBounds_toArray, List.set_cons_zero, List.set_cons_succ]; exact rfl))))
        refine takeY_nil (then_nil ?_)
        clear r1 r2 r3 r7
        go_wp2_with (go_at_call 145; refine (ih k1 n1 ks1 A1 c1 (d + under k j) q bi g (cc + cnVL x k d 0 (ks.take j)) _ (by omega) H4.out (by omega) (by omega) hne hIa.drew hGa.drew (by omega) (by omega) hra.drew).mono ?_; rintro e w1 ⟨rfl, hg1, hb1⟩)
        have hb1' : wr.grownBy w1 (some g) := only_trans hwa (only_trans (only_drew (World.grownBy.refl _ _)) hb1)
        go_roundw
        case rel => exact ⟨j + 1, by omega, by go_num, by rw [cnVL_take x k d hlt, H3.out, Int.natCast_add, ← Int.add_assoc]; exact hg1, hI.grown hb1' (by simpa using hne), hB1.grown hb1' (by simp; omega), only_trans hgr hb1'⟩
        case measure => simp [intOf]; omega
      · go_wp2_with fail
        first | (refine bodyPost_ret (results_none rfl _ _ _) rfl ?_) | (refine bodyPost_end (results_none rfl _ _ _) rfl ?_)
        have hjl : j = ks.length := by omega
        subst hjl
        rw [List.take_length] at hG
        exact ⟨rfl, hG, hgr⟩
set_option maxHeartbeats 2000000 in
set_option maxRecDepth 100000 in
theorem countVar_any (k n : Int) (ks : List Tm) (A : Option Addr) (c : Nat) (x : Int) (w : World) (hM : sizes ks ≤ 1000000) (hsh : shape 30 (.mk k n ks) = true) (hr : Rd w A 0 ks) :
    Calls Try.prog 115 #[.agg #[.int .i64 k, .int .i64 n, .slice A ks.length c], .int .i64 x] w fun e w' => e = .returned (.int .i64 (cnV x 0 (.mk k n ks) : Nat)) ∧ Below w.heap.size w w' := by
  have hRp : RdP (· ≠ w.heap.size + 1 + 1) w A 0 ks := hr.rdp.mono (fun b hb => by omega)
  go_enter Try.func115, Try.ntmps115
  go_wp2_with (go_at_call 145; refine (free_any x _ k n ks A c 0 30 (w.heap.size + 1) (w.heap.size + 1 + 1) 0 _ (Nat.lt_succ_self _) hsh (by omega) (by omega) (by omega) ((Blk.new_ _ _ _ (by simp)).alloc _) (Blk.new_ _ _ _ (by simp)) (by omega) (by omega) (((hRp.alloc _).alloc _).alloc _)).mono ?_; rintro e w1 ⟨rfl, hg1, hb1⟩; have g0 := hg1.at_ (i := 0) rfl)
  go_ret
  exact ⟨by simp, ((((Below.refl _ _).alloc (Nat.le_refl _) _).alloc (by simp) _).alloc (by simp; omega) _).trans (grown_below hb1 (by simp; omega) (by omega))⟩
end Go.Proofs.Ytodkenpmhhbppaa
