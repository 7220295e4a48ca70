/-
  Texts that are common to the laws: IMatch, STry, Matches, MatchT, PMatch. No condition.
-/
import Derived.Test.YtodkenpmhhbppaaK3
import Derived.Test.YtodkenpmhhbppaaK4
import Derived.Test.YtodkenpmhhbppaaK5
import Derived.Test.YtodkenpmhhbppaaK6
import Derived.Test.YtodkenpmhhbppaaK7
import Derived.Deep.RegionHeld3

namespace Go.Proofs.Ytodkenpmhhbppaa
open Go.RowKit
set_option linter.unusedSimpArgs false
set_option linter.unusedVariables false

set_option maxHeartbeats 2000000 in
set_option maxRecDepth 100000 in
theorem iMatch_any (m : Nat) (hm : m ≤ 6) (add : Int) (hadd : 0 ≤ add ∧ add ≤ 6) (lo g sb : Nat) (hgs : g ≠ sb) (hsl : sb < lo) (N : Nat) : ∀ (k n : Int) (ks : List Tm) (A : Option Addr) (c : Nat) (ku nu : Int) (us : List Tm) (U : Option Addr) (cu : Nat) (d : Int) (q : Nat) (mb cg cs : Nat) (G : List Tm) (S : List Bool) (w : World),
    sizes ks < N → validT (.mk k n ks) = true → validT (.mk ku nu us) = true → shape q (.mk k n ks) = true → 0 ≤ d → d + q ≤ 100 → G.length = m → S.length = m → RdP (fun b => b ≠ g ∧ b ≠ sb) w A 0 ks → RdP (fun b => b ≠ g ∧ b ≠ sb) w U 0 us → Tab w lo g G → Blk w sb (bools S) → lo ≤ w.heap.size → Blk w mb #[.slice (some ⟨g, 0, none⟩) m cg, .slice (some ⟨sb, 0, none⟩) m cs, .int .i64 add] → mb ≠ g → mb ≠ sb →
    Calls Try.prog 116 #[.pointer (some ⟨mb, 0, none⟩), .agg #[.int .i64 k, .int .i64 n, .slice A ks.length c], .agg #[.int .i64 ku, .int .i64 nu, .slice U us.length cu], .int .i64 d] w
      (MtPost lo g sb w (mt m add d (.mk k n ks) (.mk ku nu us) (G, S))) := by
  induction N with
  | zero => intro k n ks A c ku nu us U cu d q mb cg cs G S w hN; exact absurd hN (Nat.not_lt_zero _)
  | succ N ih =>
  intro k n ks A c ku nu us U cu d q mb cg cs G S w hN hv hvu hsh hd hdq hG hSl hr hru hT hS hlo hM hmg hms
  have hlen := length_le_sizes ks
  have hlenu := length_le_sizes us
  have hn := valid_n hv
  have hnu := valid_n hvu
  have hzk := validT_size hv
  have hzu := validT_size hvu
  rw [Tm.size] at hzk hzu
  have hgl := hT.lt
  have hsb := hS.lt
  obtain ⟨q, rfl, ha, hm1, hm2, hkids⟩ := shape_pos hsh
  have hkids' := hide hkids
  have hvk := hide (fun t (ht : t ∈ ks) => validT_kid hv ht)
  have hvuk := hide (fun t (ht : t ∈ us) => validT_kid hvu ht)
  have hsu : shape 30 (.mk ku nu us) = true := by simp only [validT, Bool.and_eq_true] at hvu; exact hvu.1
  have hsu' := hide hsu
  have hv' := hide hv
  have hvu' := hide hvu
  clear hkids ha hm1 hm2 hsu hv hvu
  have m0 := hM.at_ (i := 0) rfl
  have m1 := hM.at_ (i := 1) rfl
  have m2 := hM.at_ (i := 2) rfl
  have lM := hM.lt
  by_cases hk : k = 1 ∧ d ≤ n
  · obtain ⟨rfl, hdn⟩ := hk
    have := valid_var hv'.out
    subst this
    have q0 : decide (0 ≤ n - d) = true := decide_eq_true (by omega)
    by_cases hlt : n < d + m
    · obtain ⟨j, hj⟩ : ∃ j : Nat, n - d = (j : Int) := ⟨(n - d).toNat, by omega⟩
      have hjm : j < m := by omega
      have hjn : (n - d).toNat = j := by omega
      have q2 : decide ((m : Int) ≤ (j : Int)) = false := decide_eq_false (by omega)
      rw [hj] at q0
      have hsub := hj
      have hj' := hide hj
      cases hlow : shiftI (-d) 0 (.mk ku nu us) with
      | none =>
        have hz : mt m add d (.mk 1 n []) (.mk ku nu us) (G, S) = (false, (G, S)) := by rw [mt, if_pos ⟨rfl, hdn⟩, if_pos hlt, hlow]
        rw [hz]
        have hlow' := hide hlow
        clear hz hlow hdn hlt hjn hj
        go_enter Try.func116, Try.ntmps116
        go_wp2_with (go_at_call 92; refine (shift_any ku nu us U cu (-d) 0 _ (by have := hj'.out; omega) (by omega) (by omega) hsu'.out ((hru.rd.alloc _).alloc _)).mono ?_; rw [hlow'.out]; intro e w2 hgo; obtain ⟨he, hb2⟩ := gotO_none hgo; subst he; clear hgo; have hb02 : Below w.heap.size w w2 := (((Below.refl _ _).alloc (Nat.le_refl _) _).alloc (by simp) _).trans (hb2.mono (by simp; omega)))
        go_ret
        exact ⟨rfl, (hT.keep hb02).alloc _, (hS.keep hb02).alloc _, (OnlyIn.of_below hb02).al1 _⟩
      | some low =>
        obtain ⟨kl, nl, kls⟩ := low
        obtain ⟨b0, off, kj, nj, ksj, Aj, cj, hAj, hkj, hc1, hc2, hc3, hlj, hrj⟩ := hT.rd.at_ (j := j) (by omega)
        cases hAj
        simp only [Nat.zero_add] at hc1 hc2 hc3
        have hGj : G.getD j zeroT = .mk kj nj ksj := by rw [← hkj]; simp [List.getD, List.getElem?_eq_getElem (show j < G.length by omega)]
        cases hse : S.getD j false with
        | true =>
          have hz : mt m add d (.mk 1 n []) (.mk ku nu us) (G, S) = (tmEq (.mk kj nj ksj) (.mk kl nl kls), (G, S)) := by
            rw [mt, if_pos ⟨rfl, hdn⟩, if_pos hlt, hlow]
            simp only [hjn, hse, if_true, hGj]
          rw [hz]
          have hse' := hide hse
          have hlow' := hide hlow
          generalize htq : tmEq (.mk kj nj ksj) (.mk kl nl kls) = tq
          have htq' := hide htq
          clear hz hdn hlt hjn hlow hGj hse hkj htq hj
          go_enter Try.func116, Try.ntmps116
          go_wp2_with (go_at_call 92; refine (shift_any ku nu us U cu (-d) 0 _ (by have := hj'.out; omega) (by omega) (by omega) hsu'.out ((hru.rd.alloc _).alloc _)).mono ?_; rw [hlow'.out]; intro e w2 hgo; obtain ⟨A2, c2, rfl, hl2, hf2, hb2⟩ := gotO_some hgo; clear hgo; have hb02 : Below w.heap.size w w2 := (((Below.refl _ _).alloc (Nat.le_refl _) _).alloc (by simp) _).trans (hb2.mono (by simp; omega)); have hM2 := hM.keep hb02; have e0 := hM2.at_ (i := 0) rfl; have e1 := hM2.at_ (i := 1) rfl; have lM2 := hM2.lt; have xs2 := (hS.keep hb02).at_ (bools_get (show j < S.length by omega)); rw [hse'.out] at xs2; have ls2 := (hS.keep hb02).lt; have lg2 := (hT.keep hb02).lt)
          have hTa := (hT.keep hb02).alloc (.cells #[.int .i64 kl, .int .i64 nl, .slice A2 kls.length c2] 25)
          have hSa := (hS.keep hb02).alloc (.cells #[.int .i64 kl, .int .i64 nl, .slice A2 kls.length c2] 25)
          have hMa := hM2.alloc (.cells #[.int .i64 kl, .int .i64 nl, .slice A2 kls.length c2] 25)
          have hba := hb02.alloc hb02.size (.cells #[.int .i64 kl, .int .i64 nl, .slice A2 kls.length c2] 25)
          have hNew := Blk.new_ (n := w2.heap.size) w2 25 #[.int .i64 kl, .int .i64 nl, .slice A2 kls.length c2] rfl
          have hf2a := hf2.rd.alloc (.cells #[.int .i64 kl, .int .i64 nl, .slice A2 kls.length c2] 25)
          clear e0 e1 xs2
          generalize w2.alloc (.cells #[.int .i64 kl, .int .i64 nl, .slice A2 kls.length c2] 25) = wa at hTa hSa hMa hba hNew hf2a ⊢
          have hrja := hrj.below hba
          have s1 := rule_of ((Keeps.of_below hba) _ _ hc1)
          have s2 := rule_of ((Keeps.of_below hba) _ _ hc2)
          have s3 := rule_of ((Keeps.of_below hba) _ _ hc3)
          have r0 := hMa.rule (i := 0) rfl
          have r1 := hNew.rule (i := 0) rfl
          have r2 := hNew.rule (i := 1) rfl
          have r3 := hNew.rule (i := 2) rfl
          refine wp_region_firstY (fun w' => Below wa.heap.size wa w') [0, 1, 2, 3, 4, 5, 6, 7] [] [8, 9] [_, _, _, _, _, _, _, _] [] [_, _] (by kernel_rfl) (by kernel_rfl) rfl rfl rfl (fun _ _ d _ _ h => by cases d <;> exact h) (Below.refl _ _).drew ?_
          repeat (first | ((refine takeY_skip (a' := ?_) ?_ ?_ ?_); (rotate_left); (· (simp [Region.wanted, yielded]; done)); (· (simp only [List.getElem_toArray, List.getElem_cons_zero, List.getElem_cons_succ, Act.put, List.setIfInBounds_toArray, List.set_cons_zero, List.set_cons_succ]; exact rfl))) | ((refine takeY_step (v := ?_) (a' := ?_) ?_ ?_ ?_ ?_); (rotate_left 2); (· (simp [Region.wanted, yielded]; done)); (· (intro w' hS'; go_simp; try (with_reducible rfl))); (· (simp only [List.getElem_toArray, List.getElem_cons_zero, List.getElem_cons_succ, Act.put, List.setIfInBounds_toArray, List.set_cons_zero, List.set_cons_succ]; exact rfl))))
          refine takeY_nil (then_nil ?_)
          clear r0 r1 r2 r3 s1 s2 s3
          go_wp2_with (go_at_call 19; refine (iSame_any kj nj ksj Aj cj kl nl kls A2 c2 _ hlj hl2 hrja.drew hf2a.drew).mono ?_; rw [htq'.out]; rintro e w3 ⟨rfl, hb3⟩)
          go_ret
          have hb13 : Below wa.heap.size wa w3 := (Below.refl _ _).drew.trans hb3
          exact ⟨rfl, hTa.keep hb13, hSa.keep hb13, .of_below (hba.trans (hb13.mono hba.size))⟩
        | false =>
          have hz : mt m add d (.mk 1 n []) (.mk ku nu us) (G, S) = (true, (G.set j (.mk kl nl kls), S.set j true)) := by
            rw [mt, if_pos ⟨rfl, hdn⟩, if_pos hlt, hlow]
            simp only [hjn, hse, Bool.false_eq_true, if_false]
          rw [hz]
          have hse' := hide hse
          have hlow' := hide hlow
          clear hz hdn hlt hjn hlow hGj hse hkj hj
          go_enter Try.func116, Try.ntmps116
          go_wp2_with (go_at_call 92; refine (shift_any ku nu us U cu (-d) 0 _ (by have := hj'.out; omega) (by omega) (by omega) hsu'.out ((hru.rd.alloc _).alloc _)).mono ?_; rw [hlow'.out]; intro e w2 hgo; obtain ⟨A2, c2, rfl, hl2, hf2, hb2⟩ := gotO_some hgo; clear hgo; have hb02 : Below w.heap.size w w2 := (((Below.refl _ _).alloc (Nat.le_refl _) _).alloc (by simp) _).trans (hb2.mono (by simp; omega)); have hM2 := hM.keep hb02; have e0 := hM2.at_ (i := 0) rfl; have e1 := hM2.at_ (i := 1) rfl; have lM2 := hM2.lt; have xs2 := (hS.keep hb02).at_ (bools_get (show j < S.length by omega)); rw [hse'.out] at xs2; have ls2 := (hS.keep hb02).lt; have lg2 := (hT.keep hb02).lt)
          have hTa := (hT.keep hb02).alloc (.cells #[.int .i64 kl, .int .i64 nl, .slice A2 kls.length c2] 25)
          have hSa := (hS.keep hb02).alloc (.cells #[.int .i64 kl, .int .i64 nl, .slice A2 kls.length c2] 25)
          have hMa := hM2.alloc (.cells #[.int .i64 kl, .int .i64 nl, .slice A2 kls.length c2] 25)
          have hba := hb02.alloc hb02.size (.cells #[.int .i64 kl, .int .i64 nl, .slice A2 kls.length c2] 25)
          have hb2a : Below ((w.alloc _).alloc _).heap.size ((w.alloc _).alloc _) _ := hb2.alloc hb2.size (.cells #[.int .i64 kl, .int .i64 nl, .slice A2 kls.length c2] 25)
          have hNew := Blk.new_ (n := w2.heap.size) w2 25 #[.int .i64 kl, .int .i64 nl, .slice A2 kls.length c2] rfl
          have hf2a := hf2.alloc (.cells #[.int .i64 kl, .int .i64 nl, .slice A2 kls.length c2] 25)
          clear e0 e1 xs2
          generalize w2.alloc (.cells #[.int .i64 kl, .int .i64 nl, .slice A2 kls.length c2] 25) = wa at hTa hSa hMa hba hb2a hNew hf2a ⊢
          have x0' : wa.cell? ⟨g, j * 3, none⟩ = some (.int .i64 kj) := (Keeps.of_below hba) _ _ hc1
          have x1' : wa.cell? ⟨g, j * 3 + 1, none⟩ = some (.int .i64 nj) := (Keeps.of_below hba) _ _ hc2
          have x2' : wa.cell? ⟨g, j * 3 + 2, none⟩ = some (.slice Aj ksj.length cj) := (Keeps.of_below hba) _ _ hc3
          have z0' := hTa.frozen (j * 3)
          have z1' := hTa.frozen (j * 3 + 1)
          have z2' := hTa.frozen (j * 3 + 2)
          have y1' := hSa.frozen j
          have y0' := hSa.at_ (bools_get (show j < S.length by omega))
          rw [hse'.out] at y0'
          have f0 := hMa.at_ (i := 0) rfl
          have f1 := hMa.at_ (i := 1) rfl
          have f2 := hNew.at_ (i := 0) rfl
          have f3 := hNew.at_ (i := 1) rfl
          have f4 := hNew.at_ (i := 2) rfl
          have n1 : w2.heap.size ≠ g := by omega
          have n2 : w2.heap.size ≠ sb := by omega
          have n1' : g ≠ w2.heap.size := by omega
          have n2' : sb ≠ w2.heap.size := by omega
          have n3' : g ≠ mb := fun e => hmg e.symm
          have n4' : sb ≠ mb := fun e => hms e.symm
          have n5' : sb ≠ g := fun e => hgs e.symm
          go_region_held3 (fun w' => w'.cell? ⟨mb, 0, none⟩ = some (.slice (some ⟨g, 0, none⟩) m cg) ∧ w'.cell? ⟨mb, 1, none⟩ = some (.slice (some ⟨sb, 0, none⟩) m cs) ∧ w'.cell? ⟨w2.heap.size, 0, none⟩ = some (.int .i64 kl) ∧ w'.cell? ⟨w2.heap.size, 1, none⟩ = some (.int .i64 nl) ∧ w'.cell? ⟨w2.heap.size, 2, none⟩ = some (.slice A2 kls.length c2)) (go_keep) (fail)
          all_goals go_wp2_with fail
          go_ret
          have hput := Tab.put ((hT.alloc _).alloc _) hb2a.drew (by simp; omega) (k := kl) (m := nl) (c := c2) (j := j) hf2a.drew hl2 (by omega)
          refine ⟨rfl, hput.setCell (by simpa using fun e => hgs e.symm) (by simpa using hsl) _, ?_, ?_⟩
          · rw [← bools_set]
            exact (((hSa.drew.far (by simpa using fun e => hgs e.symm) _).far (by simpa using fun e => hgs e.symm) _).far (by simpa using fun e => hgs e.symm) _).set_ j _
          · exact ((((OnlyIn.of_below hba.drew).setCell (by simp) _).setCell (by simp) _).setCell (by simp) _).setCell (by simp) _
    · have q2 : decide ((m : Int) ≤ n - d) = true := decide_eq_true (by omega)
      have q2b : decide (d ≤ n) = true := decide_eq_true (by omega)
      have hz : mt m add d (.mk 1 n []) (.mk ku nu us) (G, S) = (ku == 1 && nu == n - m + add, (G, S)) := by rw [mt, if_pos ⟨rfl, hdn⟩, if_neg hlt]; rfl
      rw [hz]
      have hlt' := hide hlt
      clear hz hdn hlt
      cases q1 : (ku == 1)
      all_goals
        go_enter Try.func116, Try.ntmps116
        go_wp2_with fail
        have hB0 := (Blk.new_ w 25 #[.int .i64 1, .int .i64 n, .slice A 0 c] rfl).alloc (.cells #[.int .i64 ku, .int .i64 nu, .slice U us.length cu] 25)
        have hB1 := Blk.new_ (n := w.heap.size + 1) (w.alloc (.cells #[.int .i64 1, .int .i64 n, .slice A 0 c] 25)) 25 #[.int .i64 ku, .int .i64 nu, .slice U us.length cu] (by simp)
        have hMa := (hM.alloc (.cells #[.int .i64 1, .int .i64 n, .slice A 0 c] 25)).alloc (.cells #[.int .i64 ku, .int .i64 nu, .slice U us.length cu] 25)
        have hTa := (hT.alloc (.cells #[.int .i64 1, .int .i64 n, .slice A 0 c] 25)).alloc (.cells #[.int .i64 ku, .int .i64 nu, .slice U us.length cu] 25)
        have hSa := (hS.alloc (.cells #[.int .i64 1, .int .i64 n, .slice A 0 c] 25)).alloc (.cells #[.int .i64 ku, .int .i64 nu, .slice U us.length cu] 25)
        have hoa : OnlyIn [g, sb] w ((w.alloc (.cells #[.int .i64 1, .int .i64 n, .slice A 0 c] 25)).alloc (.cells #[.int .i64 ku, .int .i64 nu, .slice U us.length cu] 25)) := (OnlyIn.refl _ _).al2 _ _
        generalize (w.alloc (.cells #[.int .i64 1, .int .i64 n, .slice A 0 c] 25)).alloc (.cells #[.int .i64 ku, .int .i64 nu, .slice U us.length cu] 25) = wa at hB0 hB1 hMa hTa hSa hoa ⊢
        have r1 := hB0.rule (i := 1) rfl
        have r2 := hB1.rule (i := 0) rfl
        have r3 := hB1.rule (i := 1) rfl
        have r4 := hMa.rule (i := 2) rfl
        refine wp_region_firstY (fun w' => Below wa.heap.size wa w') [0, 1, 2, 3, 4, 5, 6, 7, 8, 9, 10, 11, 12, 13, 14, 15, 16] [] [17] [_, _, _, _, _, _, _, _, _, _, _, _, _, _, _, _, _] [] [_] (by kernel_rfl) (by kernel_rfl) rfl rfl rfl (fun _ _ d _ _ h => by cases d <;> exact h) (Below.refl _ _).drew ?_
        repeat (first | ((refine takeY_skip (a' := ?_) ?_ ?_ ?_); (rotate_left); (· (simp [Region.wanted, yielded]; done)); (· (simp only [List.getElem_toArray, List.getElem_cons_zero, List.getElem_cons_succ, Act.put, List.setIfInBounds_toArray, List.set_cons_zero, List.set_cons_succ]; exact rfl))) | ((refine takeY_step (v := ?_) (a' := ?_) ?_ ?_ ?_ ?_); (rotate_left 2); (· (simp [Region.wanted, yielded]; done)); (· (intro w' hS'; go_simp; try (with_reducible rfl))); (· (simp only [List.getElem_toArray, List.getElem_cons_zero, List.getElem_cons_succ, Act.put, List.setIfInBounds_toArray, List.set_cons_zero, List.set_cons_succ]; exact rfl))))
        refine takeY_nil (then_nil ?_)
        go_wp2_with fail
        go_ret
        exact ⟨by simp, hTa.drew, hSa.drew, hoa.trans (.of_below (Below.refl _ _).drew)⟩
  · have hz : mt m add d (.mk k n ks) (.mk ku nu us) (G, S) = if ku = k ∧ nu = n ∧ us.length = ks.length then mtL m add k d 0 ks us (G, S) else (false, (G, S)) := by rw [mt, if_neg hk]; rfl
    rw [hz]
    have hk' := hide hk
    clear hz hk
    by_cases hk1 : k = 1
    · subst hk1
      have := valid_var hv'.out
      subst this
      have q0 : ((1 : Int) == 1) = true := rfl
      have q1 : decide (0 ≤ n - d) = false := decide_eq_false (fun h => hk'.out ⟨rfl, by omega⟩)
      have q1b : decide (d ≤ n) = false := decide_eq_false (fun h => hk'.out ⟨rfl, h⟩)
      by_cases h1 : ku = 1
      · subst h1
        have := valid_var hvu'.out
        subst this
        by_cases h2 : nu = n
        · subst h2
          have q4 : (nu != nu) = false := by simp
          rw [if_pos ⟨rfl, rfl, rfl⟩]
          go_enter Try.func116, Try.ntmps116
          go_wp2_with fail
          go_loopw [112] (fun i wr => i = .int .i64 0 ∧ Tab wr lo g G ∧ Blk wr sb (bools S) ∧ Blk wr w.heap.size #[.int .i64 1, .int .i64 nu, .slice A 0 c] ∧ OnlyIn [g, sb] w wr) (fun _ _ => 0)
          case atStart => exact ⟨rfl, (hT.alloc _).alloc _, (hS.alloc _).alloc _, (Blk.new_ _ _ _ rfl).alloc _, (OnlyIn.refl _ _).al2 _ _⟩
          case round =>
            obtain ⟨rfl, hT1, hS1, hB1, ho⟩ := hrel
            have b2 := hB1.at_ (i := 2) rfl
            go_wp2_with fail
            go_ret
            exact ⟨by simp [mtL], by simpa [mtL] using hT1, by simpa [mtL] using hS1, ho⟩
        · have q4 : (n != nu) = true := by simpa using fun e => h2 e.symm
          rw [if_neg (by rintro ⟨-, h, -⟩; exact h2 h)]
          clear h2
          go_enter Try.func116, Try.ntmps116
          go_wp2_with fail
          go_ret
          exact ⟨rfl, (hT.alloc _).alloc _, (hS.alloc _).alloc _, (OnlyIn.refl _ _).al2 _ _⟩
      · have q3 : ((1 : Int) != ku) = true := by simpa using fun e => h1 e.symm
        rw [if_neg (by rintro ⟨h, -, -⟩; exact h1 h)]
        clear h1
        go_enter Try.func116, Try.ntmps116
        go_wp2_with fail
        go_ret
        exact ⟨rfl, (hT.alloc _).alloc _, (hS.alloc _).alloc _, (OnlyIn.refl _ _).al2 _ _⟩
    · have q0 : (k == 1) = false := by simpa using hk1
      clear hk1
      by_cases h1 : ku = k
      · subst h1
        have q3 : (ku != ku) = false := by simp
        by_cases h2 : nu = n
        · subst h2
          have q4 : (nu != nu) = false := by simp
          by_cases h3 : us.length = ks.length
          · have q5 : ((ks.length : Int) != (us.length : Int)) = false := by simp [h3]
            rw [if_pos ⟨rfl, rfl, h3⟩]
            have h3' := hide h3
            have hle : us.length ≤ ks.length := by omega
            have hge : ks.length ≤ us.length := by omega
            clear h3
            go_enter Try.func116, Try.ntmps116
            go_wp2_with fail
            go_loopw [112] (fun i wr => ∃ (j : Nat) (G1 : List Tm) (S1 : List Bool), j ≤ ks.length ∧ i = .int .i64 j ∧ Hid (mtL m add ku d 0 (ks.take j) (us.take j) (G, S) = (true, (G1, S1))) ∧ G1.length = m ∧ S1.length = m ∧ Tab wr lo g G1 ∧ Blk wr sb (bools S1) ∧ Blk wr w.heap.size #[.int .i64 ku, .int .i64 nu, .slice A ks.length c] ∧ Blk wr (w.heap.size + 1) #[.int .i64 ku, .int .i64 nu, .slice U us.length cu] ∧ OnlyIn [g, sb] w wr) (fun i _ => ks.length - (intOf i).toNat)
            case atStart => exact ⟨0, G, S, Nat.zero_le _, rfl, hide (by simp [mtL]), hG, hSl, (hT.alloc _).alloc _, (hS.alloc _).alloc _, (Blk.new_ _ _ _ rfl).alloc _, Blk.new_ _ _ _ (by simp), (OnlyIn.refl _ _).al2 _ _⟩
            case round =>
              obtain ⟨j, G1, S1, hj, rfl, hall, hG1, hS1l, hT1, hS1, hB1, hB2, ho⟩ := hrel
              have hsz0 := ho.size
              have hM1 := hM.only ho (by simp [hmg, hms])
              by_cases hlt : j < ks.length
              · have hlt' : j < us.length := by omega
                obtain ⟨b, off, k1, n1, ks1, A1, c1, rfl, hkj, hc1, hc2, hc3, hl1, hr1⟩ := (hr.only ho).at_ hlt
                obtain ⟨b3, off3, k3, n3, ks3, A3, c3, rfl, hkj3, hd1, hd2, hd3, hl3, hr3⟩ := (hru.only ho).at_ hlt'
                have hsz := sizes_le (List.getElem_mem hlt)
                have hsk := hkids'.out _ (List.getElem_mem hlt)
                have hv1 := hvk.out _ (List.getElem_mem hlt)
                have hv3 := hvuk.out _ (List.getElem_mem hlt')
                rw [hkj] at hsz hsk hv1
                rw [hkj3] at hv3
                simp only [Tm.size] at hsz
                have hst := mtL_take m add ku d hlt h3'.out.symm hall.out
                rw [hkj, hkj3] at hst
                obtain ⟨bq, G2, S2, hmt⟩ : ∃ bq G2 S2, mt m add (d + under ku j) (.mk k1 n1 ks1) (.mk k3 n3 ks3) (G1, S1) = (bq, (G2, S2)) := ⟨_, _, _, rfl⟩
                have hml := mt_length m add (.mk k1 n1 ks1) (d + under ku j) (.mk k3 n3 ks3) (G1, S1)
                rw [hmt] at hst hml
                have H4 := hide hsk
                have H5 := hide hv1
                have H6 := hide hv3
                have H7 := hide hmt
                have H8 := hide hst
                have H9 := hide hml
                clear hkj hkj3 hsk hv1 hv3 hmt hst hml
                go_wp2_with fail
                have r1 := rule_of hc1
                have r2 := rule_of hc2
                have r3 := rule_of hc3
                have r4 := rule_of hd1
                have r5 := rule_of hd2
                have r6 := rule_of hd3
                have r7 := hB1.rule (i := 2) rfl
                have r8 := hB2.rule (i := 2) rfl
                have r9 := hB1.rule (i := 0) rfl
                have hun := under_le ku j
                refine wp_region_firstY (fun w' => Below wr.heap.size wr w') [0, 1, 2, 3, 4, 5, 6, 7, 8, 9, 10, 11, 12, 13, 14, 15, 16] [] [17, 18] [_, _, _, _, _, _, _, _, _, _, _, _, _, _, _, _, _] [] [_, _] (by kernel_rfl) (by kernel_rfl) rfl rfl rfl (fun _ _ d _ _ h => by cases d <;> exact h) (Below.refl _ _).drew ?_
                repeat (first | ((refine takeY_skip (a' := ?_) ?_ ?_ ?_); (rotate_left); (· (simp [Region.wanted, yielded]; done)); (· (simp only [List.getElem_toArray, List.getElem_cons_zero, List.getElem_cons_succ, Act.put, List.setIfInBounds_toArray, List.set_cons_zero, List.set_cons_succ]; exact rfl))) | ((refine takeY_step (v := ?_) (a' := ?_) ?_ ?_ ?_ ?_); (rotate_left 2); (· (simp [Region.wanted, yielded]; done)); (· (intro w' hS'; go_simp; try (with_reducible rfl))); (· (simp only [List.getElem_toArray, List.getElem_cons_zero, List.getElem_cons_succ, Act.put, List.setIfInBounds_toArray, List.set_cons_zero, List.set_cons_succ]; exact rfl))) | ((refine takeY_call (v := ?_) (a' := ?_) 127 ?_ ?_ ?_ ?_ ?_ ?_); (rotate_left 3); (· (simp [Region.wanted, yielded]; done)); (· (intro w' hS'; go_simp; try (with_reducible rfl))); (· (intro w' hS'; exact iUnder_any _ _ _)); (· (simp only [List.getElem_toArray, List.getElem_cons_zero, List.getElem_cons_succ, Act.put, List.setIfInBounds_toArray, List.set_cons_zero, List.set_cons_succ]; exact rfl))))
                refine takeY_nil (then_nil ?_)
                clear r1 r2 r3 r4 r5 r6 r7 r8 r9
                cases bq with
                | false =>
                  go_wp2_with (go_at_call 116; refine (ih k1 n1 ks1 A1 c1 k3 n3 ks3 A3 c3 (d + under ku j) q mb cg cs G1 S1 _ (by omega) H5.out H6.out H4.out (by omega) (by omega) hG1 hS1l hr1.drew hr3.drew hT1.drew hS1.drew (by simp; omega) hM1.drew hmg hms).mono ?_; rw [H7.out]; rintro e w1 ⟨rfl, hT2, hS2, ho2⟩)
                  go_ret
                  rw [mtL_no m add ku d hlt h3'.out.symm H8.out]
                  exact ⟨rfl, hT2, hS2, ho.trans ((OnlyIn.of_below (Below.refl _ _).drew).trans ho2)⟩
                | true =>
                  go_wp2_with (go_at_call 116; refine (ih k1 n1 ks1 A1 c1 k3 n3 ks3 A3 c3 (d + under ku j) q mb cg cs G1 S1 _ (by omega) H5.out H6.out H4.out (by omega) (by omega) hG1 hS1l hr1.drew hr3.drew hT1.drew hS1.drew (by simp; omega) hM1.drew hmg hms).mono ?_; rw [H7.out]; rintro e w1 ⟨rfl, hT2, hS2, ho2⟩)
                  replace ho2 : OnlyIn [g, sb] wr w1 := (OnlyIn.of_below (Below.refl _ _).drew).trans ho2
                  go_roundw
                  case rel => exact ⟨j + 1, G2, S2, by omega, by go_num, H8, H9.out.1.trans hG1, H9.out.2.trans hS1l, hT2, hS2, hB1.only ho2 (by simp; omega), hB2.only ho2 (by simp; omega), ho.trans ho2⟩
                  case measure => simp [intOf]; omega
              · go_wp2_with fail
                go_ret
                have hjl : j = ks.length := by omega
                have h5 := hall.out
                rw [hjl, List.take_length, ← h3'.out, List.take_length] at h5
                rw [h5]
                exact ⟨rfl, hT1, hS1, ho⟩
          · have q5 : ((ks.length : Int) != (us.length : Int)) = true := by simp; omega
            rw [if_neg (by rintro ⟨-, -, h⟩; exact h3 h)]
            clear h3
            go_enter Try.func116, Try.ntmps116
            go_wp2_with fail
            go_ret
            exact ⟨rfl, (hT.alloc _).alloc _, (hS.alloc _).alloc _, (OnlyIn.refl _ _).al2 _ _⟩
        · have q4 : (n != nu) = true := by simpa using fun e => h2 e.symm
          rw [if_neg (by rintro ⟨-, h, -⟩; exact h2 h)]
          clear h2
          go_enter Try.func116, Try.ntmps116
          go_wp2_with fail
          go_ret
          exact ⟨rfl, (hT.alloc _).alloc _, (hS.alloc _).alloc _, (OnlyIn.refl _ _).al2 _ _⟩
      · have q3 : (k != ku) = true := by simpa using fun e => h1 e.symm
        rw [if_neg (by rintro ⟨h, -, -⟩; exact h1 h)]
        clear h1
        go_enter Try.func116, Try.ntmps116
        go_wp2_with fail
        go_ret
        exact ⟨rfl, (hT.alloc _).alloc _, (hS.alloc _).alloc _, (OnlyIn.refl _ _).al2 _ _⟩
end Go.Proofs.Ytodkenpmhhbppaa

namespace Go.Proofs.Ytodkenpmhhbppaa
open Go.RowKit
set_option linter.unusedSimpArgs false
set_option linter.unusedVariables false

theorem ownX_zero (w : World) : ∀ n : Nat, OwX w (List.replicate n zeroT) (List.replicate n [(.int .i64 0 : Value), .int .i64 0, .slice none 0 0]).flatten []
  | 0 => by simpa using OwX.nil
  | n + 1 => by
    rw [List.replicate_succ, List.replicate_succ, List.flatten_cons]
    exact OwX.cons_iff.2 ⟨_, _, [], [], rfl, rfl, OwT.iff.2 ⟨none, 0, rfl, by simp, .inl ⟨rfl, rfl⟩⟩, ownX_zero w n⟩
theorem zero_cells (n : Nat) (hn : n ≤ 6) : (madeCells #[.int .i64 0, .int .i64 0, .slice none 0 0] (n * 3)).toList = ((List.replicate n [(.int .i64 0 : Value), .int .i64 0, .slice none 0 0]).flatten) := by
  rcases (show n = 0 ∨ n = 1 ∨ n = 2 ∨ n = 3 ∨ n = 4 ∨ n = 5 ∨ n = 6 by omega) with rfl | rfl | rfl | rfl | rfl | rfl | rfl <;> simp [madeCells, List.range_succ, List.replicate_succ]
theorem mk_tab (n : Nat) (hn : n ≤ 6) (W : World) (lo : Nat) (hlo : W.heap.size < lo) : Tab (W.alloc (.cells (madeCells #[.int .i64 0, .int .i64 0, .slice none 0 0] (n * 3)) 25)) lo W.heap.size (List.replicate n zeroT) :=
  ⟨hlo, _, [], heap_alloc_new W _, by simp [madeCells], by rw [zero_cells n hn]; exact ownX_zero _ n, List.nodup_nil, by simp⟩
theorem mk_tab' (n : Nat) (hn : n ≤ 6) (W : World) (g lo : Nat) (hg : g = W.heap.size) (hlo : g < lo) : Tab (W.alloc (.cells (madeCells #[.int .i64 0, .int .i64 0, .slice none 0 0] (n * 3)) 25)) lo g (List.replicate n zeroT) := by subst hg; exact mk_tab n hn W lo hlo
theorem bool_info : (Try.prog.info? 4).map (fun i => (i.zero, i.size, i.bytes)) = some (some (.bool false), 1, 1) := by kernel_rfl
theorem mk_bools (n : Nat) (hn : n ≤ 6) (W : World) : (Instr.makeSlice 110 (.int .i64 (n : Int)) (.int .i64 (n : Int))).run Try.prog W = .ok (.slice (some ⟨W.heap.size, 0, none⟩) n n) (W.alloc (.cells (bools (List.replicate n false)) 4)) := by
  obtain ⟨i0, hi, hz0, hz1, hz2⟩ := info_parts bool_info
  have h := run_make_rowN (P := Try.prog) 110 4 i0 _ Try.underlying110 hi hz0 .i64 .i64 n n (Nat.le_refl _) (by rw [hz2]; omega) (by omega) W
  rw [hz1] at h
  rw [h]
  have e : madeCells (Value.bool false).cells (n * 1) = bools (List.replicate n false) := by
    apply Array.ext'
    rcases (show n = 0 ∨ n = 1 ∨ n = 2 ∨ n = 3 ∨ n = 4 ∨ n = 5 ∨ n = 6 by omega) with rfl | rfl | rfl | rfl | rfl | rfl | rfl <;> simp [madeCells, bools, Value.cells, List.range_succ, List.replicate_succ]
  rw [e]

/-- a list and whether it is one -/
def GotLO (w : World) (o : Option (List Tm)) (e : Ending) (w' : World) : Prop :=
  ∃ A c, e = .returned (.tuple #[.slice A (o.getD []).length c, .bool o.isSome]) ∧ Fresh w.heap.size w' A (o.getD []) ∧ Below w.heap.size w w'

set_option maxHeartbeats 2000000 in
set_option maxRecDepth 100000 in
theorem sTry_any (m : Nat) (hm : m ≤ 6) (add : Int) (hadd : 0 ≤ add ∧ add ≤ 6) (k n : Int) (ks : List Tm) (A : Option Addr) (c : Nat) (ku nu : Int) (us : List Tm) (U : Option Addr) (cu : Nat) (w : World) (hv : validT (.mk k n ks) = true) (hvu : validT (.mk ku nu us) = true) (hr : Rd w A 0 ks) (hru : Rd w U 0 us) :
    Calls Try.prog 73 #[.agg #[.int .i64 k, .int .i64 n, .slice A ks.length c], .int .i64 m, .agg #[.int .i64 ku, .int .i64 nu, .slice U us.length cu], .int .i64 add] w (GotLO w (tryS m add (.mk k n ks) (.mk ku nu us))) := by
  have hs : shape 30 (.mk k n ks) = true := by simp only [validT, Bool.and_eq_true] at hv; exact hv.1
  have hrp : RdP (fun b => b ≠ w.heap.size + 1 + 1 ∧ b ≠ w.heap.size + 1 + 1 + 1) w A 0 ks := hr.rdp.mono (fun b hb => by omega)
  have hrup : RdP (fun b => b ≠ w.heap.size + 1 + 1 ∧ b ≠ w.heap.size + 1 + 1 + 1) w U 0 us := hru.rdp.mono (fun b hb => by omega)
  have hml := mt_length m add (.mk k n ks) 0 (.mk ku nu us) (List.replicate m zeroT, List.replicate m false)
  obtain ⟨bq, G2, S2, hmt⟩ : ∃ bq G2 S2, mt m add 0 (.mk k n ks) (.mk ku nu us) (List.replicate m zeroT, List.replicate m false) = (bq, (G2, S2)) := ⟨_, _, _, rfl⟩
  have htr : tryS m add (.mk k n ks) (.mk ku nu us) = if bq = true ∧ S2.all id = true then some G2 else none := by rw [tryS, mt0, hmt]
  rw [hmt] at hml
  simp only [List.length_replicate] at hml
  obtain ⟨hG2, hS2⟩ := hml
  rw [htr]
  obtain ⟨oo, hoo⟩ : ∃ oo, (if bq = true ∧ S2.all id = true then some G2 else none) = oo := ⟨_, rfl⟩
  rw [hoo]
  have hoo' := hide hoo
  have hmt' := hide hmt
  clear hmt htr hoo
  have mk1 := mk_terms m (by omega)
  have mk2 := mk_bools m (by omega)
  go_enter Try.func73, Try.ntmps73
  go_wp2_with (go_at_call 117; refine (sMatch_any m hm add hadd (w.heap.size + 1 + 1 + 1 + 1) (w.heap.size + 1 + 1) (w.heap.size + 1 + 1 + 1) (by omega) (by omega) _ k n ks A c ku nu us U cu 0 30 m m (List.replicate m zeroT) (List.replicate m false) _ (Nat.lt_succ_self _) hv hvu hs (by omega) (by omega) (by simp) (by simp) ((((hrp.alloc _).alloc _).alloc _).alloc _) ((((hrup.alloc _).alloc _).alloc _).alloc _) ((mk_tab' m hm _ _ _ (by simp) (by omega)).alloc _) (Blk.new_ _ _ _ (by simp)) (by simp)).mono ?_; rw [hmt'.out]; rintro e w1 ⟨rfl, hT, hS, ho⟩)
  have hb1 : Below w.heap.size w w1 := ((((((Below.refl _ _).alloc (Nat.le_refl _) _).alloc (by simp) _).alloc (by simp; omega) _).alloc (by simp; omega) _)).trans (ho.below (by simp; omega) (by simp; omega))
  go_loopw [12, 13] (fun b i wr => ∃ j : Nat, j ≤ m ∧ i = .int .i64 j ∧ b = .bool (bq && (S2.take j).all id) ∧ wr = w1) (fun _ i _ => m - (intOf i).toNat)
  case atStart => exact ⟨0, Nat.zero_le _, rfl, by simp, rfl⟩
  case round =>
    obtain ⟨j, hj, rfl, rfl, rfl⟩ := hrel
    by_cases hlt : j < m
    · have xs := hS.at_ (bools_get (S := S2) (j := j) (by omega))
      have hnx : (S2.take (j + 1)).all id = ((S2.take j).all id && S2.getD j false) := by
        rw [List.take_succ_eq_append_getElem (by omega), List.all_append]
        simp [List.getD, List.getElem?_eq_getElem (show j < S2.length by omega)]
      have hnx' := hide hnx
      clear hnx
      generalize hbj : (bq && (S2.take j).all id) = bj
      have hbj' := hide hbj
      clear hbj
      cases bj with
      | true =>
        go_wp2_with fail
        go_roundw
        case rel => exact ⟨j + 1, by omega, by go_num, by rw [hnx'.out, ← Bool.and_assoc, hbj'.out, Bool.true_and]; simp [List.getD, List.getElem?_eq_getElem (show j < S2.length by omega)], by trivial⟩
        case measure => simp [intOf]; omega
      | false =>
        go_wp2_with fail
        go_roundw
        case rel => exact ⟨j + 1, by omega, by go_num, by simp only [hnx'.out, ← Bool.and_assoc, hbj'.out, Bool.false_and], by trivial⟩
        case measure => simp [intOf]; omega
    · have hjl : j = S2.length := by omega
      have hjm : j = m := by omega
      rw [hjl, List.take_length, ← hjl]
      clear hjl
      generalize hbj : (bq && S2.all id) = bj
      have hbj' := hide hbj
      clear hbj
      cases bj with
      | true =>
        have hyes : oo = some G2 := by rw [← hoo'.out, if_pos (by simpa using hbj'.out)]
        subst hyes
        go_wp2_with fail
        go_ret2
        refine ⟨some ⟨w.heap.size + 1 + 1, 0, none⟩, m, by simp [hG2], ?_, hb1⟩
        exact hT.fresh (by omega)
      | false =>
        have hno : oo = none := by rw [← hoo'.out, if_neg (by rintro ⟨h1, h2⟩; have := hbj'.out; rw [h1, h2] at this; cases this)]
        subst hno
        go_wp2_with fail
        go_ret2
        exact ⟨_, _, rfl, Fresh.nil, hb1.alloc hb1.size _⟩
end Go.Proofs.Ytodkenpmhhbppaa

namespace Go.Proofs.Ytodkenpmhhbppaa
open Go.RowKit
set_option linter.unusedSimpArgs false
set_option linter.unusedVariables false

theorem own81 {G : List Tm} {m : Nat} (hm : G.length = m) {g : Nat} {w : World} (hM : sizes G ≤ 1099511627776) (hr : Rd w (some ⟨g, 0, none⟩) 0 G) : Calls Try.prog 84 #[.slice (some ⟨g, 0, none⟩) m m] w (GotL w G) := by
  subst hm; exact ownAll_any G _ _ w hM hr

set_option maxHeartbeats 2000000 in
set_option maxRecDepth 100000 in
theorem iMatches_any (m : Nat) (hm : m ≤ 6) (add : Int) (hadd : 0 ≤ add ∧ add ≤ 6) (k n : Int) (ks : List Tm) (A : Option Addr) (c : Nat) (ku nu : Int) (us : List Tm) (U : Option Addr) (cu : Nat) (w : World) (hv : validT (.mk k n ks) = true) (hvu : validT (.mk ku nu us) = true) (hr : Rd w A 0 ks) (hru : Rd w U 0 us) :
    Calls Try.prog 72 #[.agg #[.int .i64 k, .int .i64 n, .slice A ks.length c], .int .i64 m, .agg #[.int .i64 ku, .int .i64 nu, .slice U us.length cu], .int .i64 add] w (GotLO w (tryS m add (.mk k n ks) (.mk ku nu us))) := by
  have hs : shape 30 (.mk k n ks) = true := by simp only [validT, Bool.and_eq_true] at hv; exact hv.1
  have hsz := validT_size hv
  rw [Tm.size] at hsz
  obtain ⟨bq, G2, S2, hmt⟩ : ∃ bq G2 S2, mt m add 0 (.mk k n ks) (.mk ku nu us) (List.replicate m zeroT, List.replicate m false) = (bq, (G2, S2)) := ⟨_, _, _, rfl⟩
  have hml := (mt_length m add (.mk k n ks) 0 (.mk ku nu us) (List.replicate m zeroT, List.replicate m false)).1
  rw [hmt] at hml
  simp only [List.length_replicate] at hml
  obtain ⟨oo, hoo⟩ : ∃ oo, tryS m add (.mk k n ks) (.mk ku nu us) = oo := ⟨_, rfl⟩
  have hzG : ∀ x, oo = some x → sizes x ≤ 2400 := fun x hx => (tryS_size hm (hoo.trans hx)).1
  rw [hoo]
  have hoo' := hide hoo
  have hmt' := hide hmt
  have hzG' := hide hzG
  clear hmt hoo hzG
  have mk1 := mk_terms m (by omega)
  have mk2 := mk_bools m (by omega)
  go_enter Try.func72, Try.ntmps72
  go_wp2_with fail
  go_loopw [13] (fun i wr => ∃ j : Nat, j ≤ m ∧ i = .int .i64 j ∧ Hid (∀ x : Nat, x < j → 0 < cnV x 0 (.mk k n ks)) ∧ Blk wr w.heap.size #[.int .i64 k, .int .i64 n, .slice A ks.length c] ∧ Blk wr (w.heap.size + 1) #[.int .i64 ku, .int .i64 nu, .slice U us.length cu] ∧ Below w.heap.size w wr) (fun i _ => m - (intOf i).toNat)
  case atStart => exact ⟨0, Nat.zero_le _, rfl, hide (by intro x hx; omega), (Blk.new_ _ _ _ rfl).alloc _, Blk.new_ _ _ _ (by simp), ((Below.refl _ _).alloc (Nat.le_refl _) _).alloc (by simp) _⟩
  case round =>
    obtain ⟨j, hj, rfl, hall, hB0, hB1, hb⟩ := hrel
    have p0 := hB0.at_ (i := 0) rfl
    have p1 := hB0.at_ (i := 1) rfl
    have p2 := hB0.at_ (i := 2) rfl
    have u0 := hB1.at_ (i := 0) rfl
    have u1 := hB1.at_ (i := 1) rfl
    have u2 := hB1.at_ (i := 2) rfl
    by_cases hlt : j < m
    · generalize hcn : cnV j 0 (.mk k n ks) = cn
      have hcn' := hide hcn
      clear hcn
      by_cases h0 : cn = 0
      · subst h0
        go_wp2_with (go_at_call 115; refine (countVar_any k n ks A c j _ (by omega) hs (hr.below hb)).mono ?_; rw [hcn'.out]; rintro e w1 ⟨rfl, hb1⟩)
        go_ret2
        have hno : oo = none := by rw [← hoo'.out]; exact tryS_zero hs hlt hcn'.out
        subst hno
        exact ⟨none, 0, rfl, Fresh.nil, hb.trans (hb1.mono hb.size)⟩
      · have q : ((cn : Int) == 0) = false := by simpa using h0
        go_wp2_with (go_at_call 115; refine (countVar_any k n ks A c j _ (by omega) hs (hr.below hb)).mono ?_; rw [hcn'.out]; rintro e w1 ⟨rfl, hb1⟩)
        go_roundw
        case rel => exact ⟨j + 1, by omega, by go_num, hide (by intro x hx; by_cases hxj : x = j; (· subst hxj; rw [hcn'.out]; omega); (· exact hall.out x (by omega))), hB0.keep hb1, hB1.keep hb1, hb.trans (hb1.mono hb.size)⟩
        case measure => simp [intOf]; omega
    · have hjm : m = j := by omega
      subst hjm
      have hG2 := hide hml
      have hsc : bq = true → sizes G2 ≤ 1099511627776 := fun h => by
        have h1 := hzG'.out G2 (by rw [← hoo'.out, tryS_yes hs (by rw [mt0, hmt'.out]; exact h) hall.out, mt0, hmt'.out])
        omega
      have lB0 := hB0.lt
      have lB1 := hB1.lt
      have lB01 : w.heap.size < wr.heap.size + 1 := by omega
      have lB02 : w.heap.size < wr.heap.size + 1 + 1 := by omega
      have lB11 : w.heap.size + 1 < wr.heap.size + 1 := by omega
      have lB12 : w.heap.size + 1 < wr.heap.size + 1 + 1 := by omega
      have lB13 : w.heap.size < wr.heap.size + 1 + 1 + 1 := by omega
      have lB14 : w.heap.size + 1 < wr.heap.size + 1 + 1 + 1 := by omega
      have hrA : RdP (fun b => b ≠ wr.heap.size ∧ b ≠ wr.heap.size + 1) wr A 0 ks := (hr.below hb).rdp.mono (fun b hb => by omega)
      have hrAu : RdP (fun b => b ≠ wr.heap.size ∧ b ≠ wr.heap.size + 1) wr U 0 us := (hru.below hb).rdp.mono (fun b hb => by omega)
      have hrB : RdP (fun b => b ≠ wr.heap.size + 1 ∧ b ≠ wr.heap.size) wr A 0 ks := (hr.below hb).rdp.mono (fun b hb => by omega)
      have hrBu : RdP (fun b => b ≠ wr.heap.size + 1 ∧ b ≠ wr.heap.size) wr U 0 us := (hru.below hb).rdp.mono (fun b hb => by omega)
      go_wp2_with fail
      go_region_held3 (fun w' => True) (trivial) (fail)
      all_goals
        cases bq with
        | false =>
          go_wp2_with (first | (go_at_call 116; refine (iMatch_any m hm add hadd (wr.heap.size + 1 + 1) (wr.heap.size) (wr.heap.size + 1) (by omega) (by omega) _ k n ks A c ku nu us U cu 0 30 (wr.heap.size + 1 + 1) m m (List.replicate m zeroT) (List.replicate m false) _ (Nat.lt_succ_self _) hv hvu hs (by omega) (by omega) (by simp) (by simp) ((((hrA.alloc _).alloc _).alloc _)).drew ((((hrAu.alloc _).alloc _).alloc _)).drew (((mk_tab' m hm _ _ _ (by simp) (by omega)).alloc _).alloc _).drew ((Blk.new_ _ _ _ (by simp)).alloc _).drew (by simp) (Blk.new_ _ _ _ (by simp)).drew (by omega) (by omega)).mono ?_; rw [hmt'.out]; rintro e w1 ⟨rfl, hT, hS, ho⟩; have hM1 : Blk w1 (wr.heap.size + 1 + 1) #[.slice (some ⟨wr.heap.size, 0, none⟩) m m, .slice (some ⟨wr.heap.size + 1, 0, none⟩) m m, .int .i64 add] := (Blk.new_ _ 112 _ (by simp)).drew.only ho (by simp; omega); have hb01 : Below wr.heap.size wr w1 := (((((Below.refl _ _).alloc (Nat.le_refl _) _).alloc (by simp) _).alloc (by simp; omega) _)).drew.trans (ho.below (by simp; omega) (by simp)); have m0 := hM1.at_ (i := 0) rfl; have hTrd := hT.rd; have hTf : Below w.heap.size w w1 := hb.trans (hb01.mono hb.size)) | (go_at_call 116; refine (iMatch_any m hm add hadd (wr.heap.size + 1 + 1) (wr.heap.size + 1) (wr.heap.size) (by omega) (by omega) _ k n ks A c ku nu us U cu 0 30 (wr.heap.size + 1 + 1) m m (List.replicate m zeroT) (List.replicate m false) _ (Nat.lt_succ_self _) hv hvu hs (by omega) (by omega) (by simp) (by simp) ((((hrB.alloc _).alloc _).alloc _)).drew ((((hrBu.alloc _).alloc _).alloc _)).drew ((mk_tab' m hm _ _ _ (by simp) (by omega)).alloc _).drew (((Blk.new_ _ _ _ (by simp)).alloc _).alloc _).drew (by simp) (Blk.new_ _ _ _ (by simp)).drew (by omega) (by omega)).mono ?_; rw [hmt'.out]; rintro e w1 ⟨rfl, hT, hS, ho⟩; have hM1 : Blk w1 (wr.heap.size + 1 + 1) #[.slice (some ⟨wr.heap.size + 1, 0, none⟩) m m, .slice (some ⟨wr.heap.size, 0, none⟩) m m, .int .i64 add] := (Blk.new_ _ 112 _ (by simp)).drew.only ho (by simp; omega); have hb01 : Below wr.heap.size wr w1 := (((((Below.refl _ _).alloc (Nat.le_refl _) _).alloc (by simp) _).alloc (by simp; omega) _)).drew.trans (ho.below (by simp; omega) (by simp)); have m0 := hM1.at_ (i := 0) rfl; have hTrd := hT.rd; have hTf : Below w.heap.size w w1 := hb.trans (hb01.mono hb.size)))
          go_ret2
          have hno : oo = none := by rw [← hoo'.out]; exact tryS_no (by rw [mt0, hmt'.out])
          subst hno
          exact ⟨none, 0, rfl, Fresh.nil, hTf⟩
        | true =>
          go_wp2_with (first | (go_at_call 116; refine (iMatch_any m hm add hadd (wr.heap.size + 1 + 1) (wr.heap.size) (wr.heap.size + 1) (by omega) (by omega) _ k n ks A c ku nu us U cu 0 30 (wr.heap.size + 1 + 1) m m (List.replicate m zeroT) (List.replicate m false) _ (Nat.lt_succ_self _) hv hvu hs (by omega) (by omega) (by simp) (by simp) ((((hrA.alloc _).alloc _).alloc _)).drew ((((hrAu.alloc _).alloc _).alloc _)).drew (((mk_tab' m hm _ _ _ (by simp) (by omega)).alloc _).alloc _).drew ((Blk.new_ _ _ _ (by simp)).alloc _).drew (by simp) (Blk.new_ _ _ _ (by simp)).drew (by omega) (by omega)).mono ?_; rw [hmt'.out]; rintro e w1 ⟨rfl, hT, hS, ho⟩; have hM1 : Blk w1 (wr.heap.size + 1 + 1) #[.slice (some ⟨wr.heap.size, 0, none⟩) m m, .slice (some ⟨wr.heap.size + 1, 0, none⟩) m m, .int .i64 add] := (Blk.new_ _ 112 _ (by simp)).drew.only ho (by simp; omega); have hb01 : Below wr.heap.size wr w1 := (((((Below.refl _ _).alloc (Nat.le_refl _) _).alloc (by simp) _).alloc (by simp; omega) _)).drew.trans (ho.below (by simp; omega) (by simp)); have m0 := hM1.at_ (i := 0) rfl; have hTrd := hT.rd; have hTf : Below w.heap.size w w1 := hb.trans (hb01.mono hb.size)) | (go_at_call 116; refine (iMatch_any m hm add hadd (wr.heap.size + 1 + 1) (wr.heap.size + 1) (wr.heap.size) (by omega) (by omega) _ k n ks A c ku nu us U cu 0 30 (wr.heap.size + 1 + 1) m m (List.replicate m zeroT) (List.replicate m false) _ (Nat.lt_succ_self _) hv hvu hs (by omega) (by omega) (by simp) (by simp) ((((hrB.alloc _).alloc _).alloc _)).drew ((((hrBu.alloc _).alloc _).alloc _)).drew ((mk_tab' m hm _ _ _ (by simp) (by omega)).alloc _).drew (((Blk.new_ _ _ _ (by simp)).alloc _).alloc _).drew (by simp) (Blk.new_ _ _ _ (by simp)).drew (by omega) (by omega)).mono ?_; rw [hmt'.out]; rintro e w1 ⟨rfl, hT, hS, ho⟩; have hM1 : Blk w1 (wr.heap.size + 1 + 1) #[.slice (some ⟨wr.heap.size + 1, 0, none⟩) m m, .slice (some ⟨wr.heap.size, 0, none⟩) m m, .int .i64 add] := (Blk.new_ _ 112 _ (by simp)).drew.only ho (by simp; omega); have hb01 : Below wr.heap.size wr w1 := (((((Below.refl _ _).alloc (Nat.le_refl _) _).alloc (by simp) _).alloc (by simp; omega) _)).drew.trans (ho.below (by simp; omega) (by simp)); have m0 := hM1.at_ (i := 0) rfl; have hTrd := hT.rd; have hTf : Below w.heap.size w w1 := hb.trans (hb01.mono hb.size)) | (go_at_call 84; refine (own81 hG2.out (hsc (by simp)) hTrd).mono ?_; rintro e w3 ⟨A3, c3, rfl, hf3, hb3⟩))
          go_ret2
          have hyes : oo = some G2 := by rw [← hoo'.out, tryS_yes hs (by rw [mt0, hmt'.out]) hall.out, mt0, hmt'.out]
          subst hyes
          exact ⟨A3, c3, by simp; exact hG2.out.symm, hf3.mono hTf.size, hTf.trans (hb3.mono hTf.size)⟩
end Go.Proofs.Ytodkenpmhhbppaa

namespace Go.Proofs.Ytodkenpmhhbppaa
open Go.RowKit
set_option linter.unusedSimpArgs false
set_option linter.unusedVariables false

/-- what MatchTerm answers -/
def matchTS (p : Tm) (z : Int) (u : Tm) : Option (List Tm) := if validT p = true ∧ validT u = true ∧ 0 ≤ z ∧ z ≤ 6 then tryS z.toNat 0 p u else none
theorem lit_range {z : Int} (h : (Lit.int .i64 z).wf = true) : -9223372036854775808 ≤ z ∧ z ≤ 9223372036854775807 := by
  have h' : (decide ((-9223372036854775808 : Int) ≤ z) && decide (z ≤ 9223372036854775807)) = true := h
  simpa using h'

set_option maxHeartbeats 2000000 in
set_option maxRecDepth 100000 in
theorem sMatchTerm_any (k n : Int) (ks : List Tm) (A : Option Addr) (c : Nat) (z : Int) (hz : (Lit.int .i64 z).wf = true) (ku nu : Int) (us : List Tm) (U : Option Addr) (cu : Nat) (w : World) (hM : sizes ks ≤ 1048576) (hMu : sizes us ≤ 1048576) (hr : Rd w A 0 ks) (hru : Rd w U 0 us) :
    Calls Try.prog 33 #[.agg #[.int .i64 k, .int .i64 n, .slice A ks.length c], .int .i64 z, .agg #[.int .i64 ku, .int .i64 nu, .slice U us.length cu]] w (GotLO w (matchTS (.mk k n ks) z (.mk ku nu us))) := by
  have hzr := lit_range hz
  clear hz
  cases hvp : validT (.mk k n ks) with
  | false =>
    have hzz : matchTS (.mk k n ks) z (.mk ku nu us) = none := by rw [matchTS, if_neg]; rintro ⟨h, -⟩; rw [hvp] at h; cases h
    rw [hzz]
    clear hzz
    go_enter Try.func33, Try.ntmps33
    go_wp2_with (go_at_call 60; refine (sTermValid_any k n ks A c _ (by omega) ((hr.alloc _).alloc _)).mono ?_; rw [hvp]; rintro e w1 ⟨rfl, hb1⟩; have hB0 : Blk w1 w.heap.size #[.int .i64 k, .int .i64 n, .slice A ks.length c] := ((Blk.new_ w 25 #[.int .i64 k, .int .i64 n, .slice A ks.length c] rfl).alloc (.cells #[.int .i64 ku, .int .i64 nu, .slice U us.length cu] 25)).keep hb1; have hB1 : Blk w1 (w.heap.size + 1) #[.int .i64 ku, .int .i64 nu, .slice U us.length cu] := (Blk.new_ (w.alloc (.cells #[.int .i64 k, .int .i64 n, .slice A ks.length c] 25)) 25 #[.int .i64 ku, .int .i64 nu, .slice U us.length cu] (by simp)).keep hb1; have u0 := hB1.at_ (i := 0) rfl; have u1 := hB1.at_ (i := 1) rfl; have u2 := hB1.at_ (i := 2) rfl; replace hb1 : Below w.heap.size w w1 := (((Below.refl _ _).alloc (Nat.le_refl _) _).alloc (by simp) _).trans (hb1.mono (by simp; omega)))
    go_ret2
    exact ⟨_, _, rfl, Fresh.nil, hb1.alloc hb1.size _⟩
  | true =>
    cases hvu : validT (.mk ku nu us) with
    | false =>
      have hzz : matchTS (.mk k n ks) z (.mk ku nu us) = none := by rw [matchTS, if_neg]; rintro ⟨-, h, -⟩; rw [hvu] at h; cases h
      rw [hzz]
      clear hzz
      go_enter Try.func33, Try.ntmps33
      go_wp2_with (first | (go_at_call 60; refine (sTermValid_any ku nu us U cu _ (by omega) (hru.below hb1)).mono ?_; rw [hvu]; rintro e w2 ⟨rfl, hb2⟩; have hB02 := hB0.keep hb2; have hB12 := hB1.keep hb2; clear u0 u1 u2; have p0 := hB02.at_ (i := 0) rfl; have p1 := hB02.at_ (i := 1) rfl; have p2 := hB02.at_ (i := 2) rfl; have v0 := hB12.at_ (i := 0) rfl; have v1 := hB12.at_ (i := 1) rfl; have v2 := hB12.at_ (i := 2) rfl; replace hb2 : Below w.heap.size w w2 := hb1.trans (hb2.mono hb1.size)) | (go_at_call 60; refine (sTermValid_any k n ks A c _ (by omega) ((hr.alloc _).alloc _)).mono ?_; rw [hvp]; rintro e w1 ⟨rfl, hb1⟩; have hB0 : Blk w1 w.heap.size #[.int .i64 k, .int .i64 n, .slice A ks.length c] := ((Blk.new_ w 25 #[.int .i64 k, .int .i64 n, .slice A ks.length c] rfl).alloc (.cells #[.int .i64 ku, .int .i64 nu, .slice U us.length cu] 25)).keep hb1; have hB1 : Blk w1 (w.heap.size + 1) #[.int .i64 ku, .int .i64 nu, .slice U us.length cu] := (Blk.new_ (w.alloc (.cells #[.int .i64 k, .int .i64 n, .slice A ks.length c] 25)) 25 #[.int .i64 ku, .int .i64 nu, .slice U us.length cu] (by simp)).keep hb1; have u0 := hB1.at_ (i := 0) rfl; have u1 := hB1.at_ (i := 1) rfl; have u2 := hB1.at_ (i := 2) rfl; replace hb1 : Below w.heap.size w w1 := (((Below.refl _ _).alloc (Nat.le_refl _) _).alloc (by simp) _).trans (hb1.mono (by simp; omega))))
      go_ret2
      exact ⟨_, _, rfl, Fresh.nil, hb2.alloc hb2.size _⟩
    | true =>
      by_cases hzi : 0 ≤ z ∧ z ≤ 6
      · obtain ⟨m, rfl⟩ : ∃ m : Nat, z = (m : Int) := ⟨z.toNat, by omega⟩
        have hm : m ≤ 6 := by omega
        have q1 : decide ((m : Int) < 0) = false := decide_eq_false (by omega)
        have q2 : decide ((6 : Int) < (m : Int)) = false := decide_eq_false (by omega)
        have q3 : (decide (0 ≤ (m : Int)) && decide ((m : Int) ≤ 6)) = true := by simp; omega
        have hzz : matchTS (.mk k n ks) m (.mk ku nu us) = tryS m 0 (.mk k n ks) (.mk ku nu us) := by rw [matchTS, if_pos ⟨hvp, hvu, hzi⟩]; rfl
        rw [hzz]
        generalize hoo : tryS m 0 (.mk k n ks) (.mk ku nu us) = oo
        have hoo' := hide hoo
        clear hzz hoo
        go_enter Try.func33, Try.ntmps33
        go_wp2_with (first | (go_at_call 73; refine (sTry_any m hm 0 (by omega) k n ks A c ku nu us U cu _ hvp hvu (hr.below hb2) (hru.below hb2)).mono ?_; rw [hoo'.out]; rintro e w3 ⟨A3, c3, rfl, hf3, hb3⟩) | (go_at_call 60; refine (sTermValid_any ku nu us U cu _ (by omega) (hru.below hb1)).mono ?_; rw [hvu]; rintro e w2 ⟨rfl, hb2⟩; have hB02 := hB0.keep hb2; have hB12 := hB1.keep hb2; clear u0 u1 u2; have p0 := hB02.at_ (i := 0) rfl; have p1 := hB02.at_ (i := 1) rfl; have p2 := hB02.at_ (i := 2) rfl; have v0 := hB12.at_ (i := 0) rfl; have v1 := hB12.at_ (i := 1) rfl; have v2 := hB12.at_ (i := 2) rfl; replace hb2 : Below w.heap.size w w2 := hb1.trans (hb2.mono hb1.size)) | (go_at_call 60; refine (sTermValid_any k n ks A c _ (by omega) ((hr.alloc _).alloc _)).mono ?_; rw [hvp]; rintro e w1 ⟨rfl, hb1⟩; have hB0 : Blk w1 w.heap.size #[.int .i64 k, .int .i64 n, .slice A ks.length c] := ((Blk.new_ w 25 #[.int .i64 k, .int .i64 n, .slice A ks.length c] rfl).alloc (.cells #[.int .i64 ku, .int .i64 nu, .slice U us.length cu] 25)).keep hb1; have hB1 : Blk w1 (w.heap.size + 1) #[.int .i64 ku, .int .i64 nu, .slice U us.length cu] := (Blk.new_ (w.alloc (.cells #[.int .i64 k, .int .i64 n, .slice A ks.length c] 25)) 25 #[.int .i64 ku, .int .i64 nu, .slice U us.length cu] (by simp)).keep hb1; have u0 := hB1.at_ (i := 0) rfl; have u1 := hB1.at_ (i := 1) rfl; have u2 := hB1.at_ (i := 2) rfl; replace hb1 : Below w.heap.size w w1 := (((Below.refl _ _).alloc (Nat.le_refl _) _).alloc (by simp) _).trans (hb1.mono (by simp; omega))))
        go_ret2
        exact ⟨A3, c3, rfl, hf3.mono hb2.size, hb2.trans (hb3.mono hb2.size)⟩
      · have hzz : matchTS (.mk k n ks) z (.mk ku nu us) = none := by rw [matchTS, if_neg]; rintro ⟨-, -, h⟩; exact hzi h
        rw [hzz]
        clear hzz
        by_cases hz0 : z < 0
        · have q1 : decide (z < 0) = true := decide_eq_true hz0
          clear hzi hz0
          go_enter Try.func33, Try.ntmps33
          go_wp2_with (first | (go_at_call 60; refine (sTermValid_any ku nu us U cu _ (by omega) (hru.below hb1)).mono ?_; rw [hvu]; rintro e w2 ⟨rfl, hb2⟩; have hB02 := hB0.keep hb2; have hB12 := hB1.keep hb2; clear u0 u1 u2; have p0 := hB02.at_ (i := 0) rfl; have p1 := hB02.at_ (i := 1) rfl; have p2 := hB02.at_ (i := 2) rfl; have v0 := hB12.at_ (i := 0) rfl; have v1 := hB12.at_ (i := 1) rfl; have v2 := hB12.at_ (i := 2) rfl; replace hb2 : Below w.heap.size w w2 := hb1.trans (hb2.mono hb1.size)) | (go_at_call 60; refine (sTermValid_any k n ks A c _ (by omega) ((hr.alloc _).alloc _)).mono ?_; rw [hvp]; rintro e w1 ⟨rfl, hb1⟩; have hB0 : Blk w1 w.heap.size #[.int .i64 k, .int .i64 n, .slice A ks.length c] := ((Blk.new_ w 25 #[.int .i64 k, .int .i64 n, .slice A ks.length c] rfl).alloc (.cells #[.int .i64 ku, .int .i64 nu, .slice U us.length cu] 25)).keep hb1; have hB1 : Blk w1 (w.heap.size + 1) #[.int .i64 ku, .int .i64 nu, .slice U us.length cu] := (Blk.new_ (w.alloc (.cells #[.int .i64 k, .int .i64 n, .slice A ks.length c] 25)) 25 #[.int .i64 ku, .int .i64 nu, .slice U us.length cu] (by simp)).keep hb1; have u0 := hB1.at_ (i := 0) rfl; have u1 := hB1.at_ (i := 1) rfl; have u2 := hB1.at_ (i := 2) rfl; replace hb1 : Below w.heap.size w w1 := (((Below.refl _ _).alloc (Nat.le_refl _) _).alloc (by simp) _).trans (hb1.mono (by simp; omega))))
          go_ret2
          exact ⟨_, _, rfl, Fresh.nil, hb2.alloc hb2.size _⟩
        · have q1 : decide (z < 0) = false := decide_eq_false hz0
          have q2 : decide (6 < z) = true := decide_eq_true (by omega)
          clear hzi hz0
          go_enter Try.func33, Try.ntmps33
          go_wp2_with (first | (go_at_call 60; refine (sTermValid_any ku nu us U cu _ (by omega) (hru.below hb1)).mono ?_; rw [hvu]; rintro e w2 ⟨rfl, hb2⟩; have hB02 := hB0.keep hb2; have hB12 := hB1.keep hb2; clear u0 u1 u2; have p0 := hB02.at_ (i := 0) rfl; have p1 := hB02.at_ (i := 1) rfl; have p2 := hB02.at_ (i := 2) rfl; have v0 := hB12.at_ (i := 0) rfl; have v1 := hB12.at_ (i := 1) rfl; have v2 := hB12.at_ (i := 2) rfl; replace hb2 : Below w.heap.size w w2 := hb1.trans (hb2.mono hb1.size)) | (go_at_call 60; refine (sTermValid_any k n ks A c _ (by omega) ((hr.alloc _).alloc _)).mono ?_; rw [hvp]; rintro e w1 ⟨rfl, hb1⟩; have hB0 : Blk w1 w.heap.size #[.int .i64 k, .int .i64 n, .slice A ks.length c] := ((Blk.new_ w 25 #[.int .i64 k, .int .i64 n, .slice A ks.length c] rfl).alloc (.cells #[.int .i64 ku, .int .i64 nu, .slice U us.length cu] 25)).keep hb1; have hB1 : Blk w1 (w.heap.size + 1) #[.int .i64 ku, .int .i64 nu, .slice U us.length cu] := (Blk.new_ (w.alloc (.cells #[.int .i64 k, .int .i64 n, .slice A ks.length c] 25)) 25 #[.int .i64 ku, .int .i64 nu, .slice U us.length cu] (by simp)).keep hb1; have u0 := hB1.at_ (i := 0) rfl; have u1 := hB1.at_ (i := 1) rfl; have u2 := hB1.at_ (i := 2) rfl; replace hb1 : Below w.heap.size w w1 := (((Below.refl _ _).alloc (Nat.le_refl _) _).alloc (by simp) _).trans (hb1.mono (by simp; omega))))
          go_ret2
          exact ⟨_, _, rfl, Fresh.nil, hb2.alloc hb2.size _⟩

set_option maxHeartbeats 2000000 in
set_option maxRecDepth 100000 in
theorem iMatchTerm_any (k n : Int) (ks : List Tm) (A : Option Addr) (c : Nat) (z : Int) (hz : (Lit.int .i64 z).wf = true) (ku nu : Int) (us : List Tm) (U : Option Addr) (cu : Nat) (w : World) (hM : sizes ks ≤ 1048576) (hMu : sizes us ≤ 1048576) (hr : Rd w A 0 ks) (hru : Rd w U 0 us) :
    Calls Try.prog 29 #[.agg #[.int .i64 k, .int .i64 n, .slice A ks.length c], .int .i64 z, .agg #[.int .i64 ku, .int .i64 nu, .slice U us.length cu]] w (GotLO w (matchTS (.mk k n ks) z (.mk ku nu us))) := by
  have hzr := lit_range hz
  clear hz
  cases hvp : validT (.mk k n ks) with
  | false =>
    have hzz : matchTS (.mk k n ks) z (.mk ku nu us) = none := by rw [matchTS, if_neg]; rintro ⟨h, -⟩; rw [hvp] at h; cases h
    rw [hzz]
    clear hzz
    go_enter Try.func29, Try.ntmps29
    go_wp2_with (go_at_call 34; refine (iTermValid_any k n ks A c _ (by omega) ((hr.alloc _).alloc _)).mono ?_; rw [hvp]; rintro e w1 ⟨rfl, hb1⟩; have hB0 : Blk w1 w.heap.size #[.int .i64 k, .int .i64 n, .slice A ks.length c] := ((Blk.new_ w 25 #[.int .i64 k, .int .i64 n, .slice A ks.length c] rfl).alloc (.cells #[.int .i64 ku, .int .i64 nu, .slice U us.length cu] 25)).keep hb1; have hB1 : Blk w1 (w.heap.size + 1) #[.int .i64 ku, .int .i64 nu, .slice U us.length cu] := (Blk.new_ (w.alloc (.cells #[.int .i64 k, .int .i64 n, .slice A ks.length c] 25)) 25 #[.int .i64 ku, .int .i64 nu, .slice U us.length cu] (by simp)).keep hb1; have u0 := hB1.at_ (i := 0) rfl; have u1 := hB1.at_ (i := 1) rfl; have u2 := hB1.at_ (i := 2) rfl; replace hb1 : Below w.heap.size w w1 := (((Below.refl _ _).alloc (Nat.le_refl _) _).alloc (by simp) _).trans (hb1.mono (by simp; omega)))
    go_ret2
    exact ⟨none, 0, rfl, Fresh.nil, hb1⟩
  | true =>
    cases hvu : validT (.mk ku nu us) with
    | false =>
      have hzz : matchTS (.mk k n ks) z (.mk ku nu us) = none := by rw [matchTS, if_neg]; rintro ⟨-, h, -⟩; rw [hvu] at h; cases h
      rw [hzz]
      clear hzz
      go_enter Try.func29, Try.ntmps29
      go_wp2_with (first | (go_at_call 34; refine (iTermValid_any ku nu us U cu _ (by omega) (hru.below hb1)).mono ?_; rw [hvu]; rintro e w2 ⟨rfl, hb2⟩; have hB02 := hB0.keep hb2; have hB12 := hB1.keep hb2; clear u0 u1 u2; have p0 := hB02.at_ (i := 0) rfl; have p1 := hB02.at_ (i := 1) rfl; have p2 := hB02.at_ (i := 2) rfl; have v0 := hB12.at_ (i := 0) rfl; have v1 := hB12.at_ (i := 1) rfl; have v2 := hB12.at_ (i := 2) rfl; replace hb2 : Below w.heap.size w w2 := hb1.trans (hb2.mono hb1.size)) | (go_at_call 34; refine (iTermValid_any k n ks A c _ (by omega) ((hr.alloc _).alloc _)).mono ?_; rw [hvp]; rintro e w1 ⟨rfl, hb1⟩; have hB0 : Blk w1 w.heap.size #[.int .i64 k, .int .i64 n, .slice A ks.length c] := ((Blk.new_ w 25 #[.int .i64 k, .int .i64 n, .slice A ks.length c] rfl).alloc (.cells #[.int .i64 ku, .int .i64 nu, .slice U us.length cu] 25)).keep hb1; have hB1 : Blk w1 (w.heap.size + 1) #[.int .i64 ku, .int .i64 nu, .slice U us.length cu] := (Blk.new_ (w.alloc (.cells #[.int .i64 k, .int .i64 n, .slice A ks.length c] 25)) 25 #[.int .i64 ku, .int .i64 nu, .slice U us.length cu] (by simp)).keep hb1; have u0 := hB1.at_ (i := 0) rfl; have u1 := hB1.at_ (i := 1) rfl; have u2 := hB1.at_ (i := 2) rfl; replace hb1 : Below w.heap.size w w1 := (((Below.refl _ _).alloc (Nat.le_refl _) _).alloc (by simp) _).trans (hb1.mono (by simp; omega))))
      go_ret2
      exact ⟨none, 0, rfl, Fresh.nil, hb2⟩
    | true =>
      by_cases hzi : 0 ≤ z ∧ z ≤ 6
      · obtain ⟨m, rfl⟩ : ∃ m : Nat, z = (m : Int) := ⟨z.toNat, by omega⟩
        have hm : m ≤ 6 := by omega
        have q1 : decide ((m : Int) < 0) = false := decide_eq_false (by omega)
        have q2 : decide ((6 : Int) < (m : Int)) = false := decide_eq_false (by omega)
        have q3 : (decide (0 ≤ (m : Int)) && decide ((m : Int) ≤ 6)) = true := by simp; omega
        have hzz : matchTS (.mk k n ks) m (.mk ku nu us) = tryS m 0 (.mk k n ks) (.mk ku nu us) := by rw [matchTS, if_pos ⟨hvp, hvu, hzi⟩]; rfl
        rw [hzz]
        generalize hoo : tryS m 0 (.mk k n ks) (.mk ku nu us) = oo
        have hoo' := hide hoo
        clear hzz hoo
        go_enter Try.func29, Try.ntmps29
        go_wp2_with (first | (go_at_call 56; refine (isHoles_any _ _).mono ?_; rw [q3]; rintro e w3 ⟨rfl, rfl⟩) | (go_at_call 72; refine (iMatches_any m hm 0 (by omega) k n ks A c ku nu us U cu _ hvp hvu (hr.below hb2) (hru.below hb2)).mono ?_; rw [hoo'.out]; rintro e w3 ⟨A3, c3, rfl, hf3, hb3⟩) | (go_at_call 34; refine (iTermValid_any ku nu us U cu _ (by omega) (hru.below hb1)).mono ?_; rw [hvu]; rintro e w2 ⟨rfl, hb2⟩; have hB02 := hB0.keep hb2; have hB12 := hB1.keep hb2; clear u0 u1 u2; have p0 := hB02.at_ (i := 0) rfl; have p1 := hB02.at_ (i := 1) rfl; have p2 := hB02.at_ (i := 2) rfl; have v0 := hB12.at_ (i := 0) rfl; have v1 := hB12.at_ (i := 1) rfl; have v2 := hB12.at_ (i := 2) rfl; replace hb2 : Below w.heap.size w w2 := hb1.trans (hb2.mono hb1.size)) | (go_at_call 34; refine (iTermValid_any k n ks A c _ (by omega) ((hr.alloc _).alloc _)).mono ?_; rw [hvp]; rintro e w1 ⟨rfl, hb1⟩; have hB0 : Blk w1 w.heap.size #[.int .i64 k, .int .i64 n, .slice A ks.length c] := ((Blk.new_ w 25 #[.int .i64 k, .int .i64 n, .slice A ks.length c] rfl).alloc (.cells #[.int .i64 ku, .int .i64 nu, .slice U us.length cu] 25)).keep hb1; have hB1 : Blk w1 (w.heap.size + 1) #[.int .i64 ku, .int .i64 nu, .slice U us.length cu] := (Blk.new_ (w.alloc (.cells #[.int .i64 k, .int .i64 n, .slice A ks.length c] 25)) 25 #[.int .i64 ku, .int .i64 nu, .slice U us.length cu] (by simp)).keep hb1; have u0 := hB1.at_ (i := 0) rfl; have u1 := hB1.at_ (i := 1) rfl; have u2 := hB1.at_ (i := 2) rfl; replace hb1 : Below w.heap.size w w1 := (((Below.refl _ _).alloc (Nat.le_refl _) _).alloc (by simp) _).trans (hb1.mono (by simp; omega))))
        go_ret2
        exact ⟨A3, c3, rfl, hf3.mono hb2.size, hb2.trans (hb3.mono hb2.size)⟩
      · have hzz : matchTS (.mk k n ks) z (.mk ku nu us) = none := by rw [matchTS, if_neg]; rintro ⟨-, -, h⟩; exact hzi h
        rw [hzz]
        clear hzz
        have q3 : (decide (0 ≤ z) && decide (z ≤ 6)) = false := by cases h : (decide (0 ≤ z) && decide (z ≤ 6)) with | false => rfl | true => exact absurd (by simpa using h) hzi
        clear hzi
        go_enter Try.func29, Try.ntmps29
        go_wp2_with (first | (go_at_call 56; refine (isHoles_any _ _).mono ?_; rw [q3]; rintro e w3 ⟨rfl, rfl⟩) | (go_at_call 34; refine (iTermValid_any ku nu us U cu _ (by omega) (hru.below hb1)).mono ?_; rw [hvu]; rintro e w2 ⟨rfl, hb2⟩; have hB02 := hB0.keep hb2; have hB12 := hB1.keep hb2; clear u0 u1 u2; have p0 := hB02.at_ (i := 0) rfl; have p1 := hB02.at_ (i := 1) rfl; have p2 := hB02.at_ (i := 2) rfl; have v0 := hB12.at_ (i := 0) rfl; have v1 := hB12.at_ (i := 1) rfl; have v2 := hB12.at_ (i := 2) rfl; replace hb2 : Below w.heap.size w w2 := hb1.trans (hb2.mono hb1.size)) | (go_at_call 34; refine (iTermValid_any k n ks A c _ (by omega) ((hr.alloc _).alloc _)).mono ?_; rw [hvp]; rintro e w1 ⟨rfl, hb1⟩; have hB0 : Blk w1 w.heap.size #[.int .i64 k, .int .i64 n, .slice A ks.length c] := ((Blk.new_ w 25 #[.int .i64 k, .int .i64 n, .slice A ks.length c] rfl).alloc (.cells #[.int .i64 ku, .int .i64 nu, .slice U us.length cu] 25)).keep hb1; have hB1 : Blk w1 (w.heap.size + 1) #[.int .i64 ku, .int .i64 nu, .slice U us.length cu] := (Blk.new_ (w.alloc (.cells #[.int .i64 k, .int .i64 n, .slice A ks.length c] 25)) 25 #[.int .i64 ku, .int .i64 nu, .slice U us.length cu] (by simp)).keep hb1; have u0 := hB1.at_ (i := 0) rfl; have u1 := hB1.at_ (i := 1) rfl; have u2 := hB1.at_ (i := 2) rfl; replace hb1 : Below w.heap.size w w1 := (((Below.refl _ _).alloc (Nat.le_refl _) _).alloc (by simp) _).trans (hb1.mono (by simp; omega))))
        go_ret2
        exact ⟨none, 0, rfl, Fresh.nil, hb2⟩
end Go.Proofs.Ytodkenpmhhbppaa

namespace Go.Proofs.Ytodkenpmhhbppaa
open Go.RowKit
set_option linter.unusedSimpArgs false
set_option linter.unusedVariables false

theorem validT_shape {t : Tm} (h : validT t = true) : shape 30 t = true := by simp only [validT, Bool.and_eq_true] at h; exact h.1
theorem mt_zero (p : Tm) : ∀ (q : Nat) (d : Int) (u : Tm) (st : St), shape q p = true → validT u = true → (mt 0 0 d p u st).1 = tmEq p u := by
  refine (Tm.ind2 (p := fun p => ∀ (q : Nat) (d : Int) (u : Tm) (st : St), shape q p = true → validT u = true → (mt 0 0 d p u st).1 = tmEq p u)
    (q := fun ts => ∀ (q : Nat) (k d : Int) (i : Nat) (us : List Tm) (st : St), (∀ t, t ∈ ts → shape q t = true) → (∀ u, u ∈ us → validT u = true) → us.length = ts.length → (mtL 0 0 k d i ts us st).1 = tmsEq ts us) ?_ ?_ ?_).1 p
  · intro k n ks ih q d u st hs hv
    obtain ⟨ku, nu, us⟩ := u
    obtain ⟨q, rfl, ha, _, _, hk⟩ := shape_pos hs
    rw [mt]
    by_cases h : k = 1 ∧ d ≤ n
    · obtain ⟨rfl, hd⟩ := h
      rw [if_pos ⟨rfl, hd⟩, if_neg (by simp; omega)]
      have hks := var_nil ha
      subst hks
      by_cases hu : ku = 1
      · subst hu
        have hus := valid_var hv
        subst hus
        have e : ((Tm.mk 1 nu []).n == n - ((0 : Nat) : Int) + 0) = (n == nu) := by
          rw [Bool.eq_iff_iff]
          simp only [beq_iff_eq, Tm.n]
          omega
        simp only [Tm.k, tmEq, tmsEq, e]
        simp
      · rw [tmEq_head (by rintro ⟨h, _⟩; exact hu h.symm)]
        simp [Tm.k, hu]
    · rw [if_neg h]
      by_cases hh : ku = k ∧ nu = n ∧ us.length = ks.length
      · obtain ⟨rfl, rfl, hl⟩ := hh
        rw [if_pos ⟨rfl, rfl, hl⟩, tmEq_kids]
        exact ih _ _ _ _ _ _ hk (fun u hu => validT_kid hv hu) hl
      · rw [if_neg (show ¬ ((Tm.mk ku nu us).k = k ∧ (Tm.mk ku nu us).n = n ∧ (Tm.mk ku nu us).kids.length = ks.length) from hh), tmEq_head (fun h => hh ⟨h.1.symm, h.2.1.symm, h.2.2.symm⟩)]
  · intro q k d i us st _ _ hl
    have : us = [] := List.eq_nil_of_length_eq_zero hl
    subst this
    rw [mtL]
    · rfl
    · intro _ _ _ _ h; cases h
  · intro t ts h1 h2 q k d i us st hs hv hl
    cases us with
    | nil => simp at hl
    | cons u us =>
      have e1 := h1 q (d + under k i) u st (hs t (by simp)) (hv u (by simp))
      rw [mtL]
      cases hb : tmEq t u with
      | true =>
        rw [hb] at e1
        rw [if_pos e1]
        have e2 := h2 q k d (i + 1) us (mt 0 0 (d + under k i) t u st).2 (fun t ht => hs t (by simp [ht])) (fun u hu => hv u (by simp [hu])) (by simpa using hl)
        rw [e2]
        simp [tmsEq, hb]
      | false =>
        rw [hb] at e1
        rw [if_neg (by rw [e1]; simp)]
        simp [tmsEq, hb]
theorem closed_law (p t : Tm) : matchTS p 0 t = if (validT p && tmEq p t) = true then some [] else none := by
  unfold matchTS
  by_cases hp : validT p = true
  · by_cases ht : validT t = true
    · rw [if_pos ⟨hp, ht, by omega, by omega⟩]
      have h1 := mt_zero p 30 0 t ([], []) (validT_shape hp) ht
      have hl := mt_length 0 0 p 0 t ([], [])
      unfold tryS mt0
      simp only [Int.toNat_zero, List.replicate_zero]
      rw [hp, Bool.true_and, h1]
      have e1 : (mt 0 0 0 p t ([], [])).2.1 = [] := List.eq_nil_of_length_eq_zero hl.1
      have e2 : (mt 0 0 0 p t ([], [])).2.2 = [] := List.eq_nil_of_length_eq_zero hl.2
      rw [e1, e2]
      simp
    · rw [if_neg (fun h => ht h.2.1), if_neg]
      intro h
      rw [Bool.and_eq_true] at h
      exact ht (tmEq_iff.1 h.2 ▸ h.1)
  · rw [if_neg (fun h => hp h.1), if_neg]
    intro h
    rw [Bool.and_eq_true] at h
    exact hp h.1

theorem kpS_zero (t : Tm) : ∀ d, kpS 0 d t = true := by
  refine (Tm.ind2 (p := fun t => ∀ d, kpS 0 d t = true) (q := fun ts => ∀ k d i, kpSL 0 k d i ts = true) ?_ ?_ ?_).1 t
  · intro k n ks ih d; rw [kpS, if_neg (by omega)]; exact ih _ _ _
  · intro k d i; simp [kpSL]
  · intro t ts h1 h2 k d i; rw [kpSL, h1, h2]; rfl
theorem shS_zero (t : Tm) : ∀ d, shS 0 d t = t := by
  refine (Tm.ind2 (p := fun t => ∀ d, shS 0 d t = t) (q := fun ts => ∀ k d i, shSL 0 k d i ts = ts) ?_ ?_ ?_).1 t
  · intro k n ks ih d; rw [shS, ih]; split <;> simp
  · intro k d i; simp [shSL]
  · intro t ts h1 h2 k d i; rw [shSL, h1, h2]
theorem hole_law (t : Tm) : matchTS (.mk 1 0 []) 1 t = if validT t = true then some [t] else none := by
  unfold matchTS
  by_cases ht : validT t = true
  · rw [if_pos ⟨by decide, ht, by omega, by omega⟩, if_pos ht]
    have hsh : shiftI (-0) 0 t = some t := by
      have := shiftI_down (dp := 0) (by omega) ht
      rw [kpS_zero, if_pos rfl] at this
      rw [this]
      have e : (-(0 : Int)) = 0 := by decide
      rw [e, shS_zero]
    have hm : mt 1 0 0 (.mk 1 0 []) t ([zeroT], [false]) = (true, ([t], [true])) := by
      rw [mt, if_pos ⟨rfl, Int.le_refl _⟩, if_pos (by decide), hsh]
      rfl
    unfold tryS mt0
    have h1 : ((1 : Int)).toNat = 1 := rfl
    rw [h1]
    simp only [List.replicate_one, hm]
    rfl
  · rw [if_neg (fun h => ht h.2.1), if_neg ht]

/-- shifting up behind shifting down, and the other way -/
theorem shS_up_down {d : Int} (hd : 0 ≤ d) (t : Tm) : ∀ c, kpS d c t = true → shS d c (shS (-d) c t) = t := by
  refine (Tm.ind2 (p := fun t => ∀ c, kpS d c t = true → shS d c (shS (-d) c t) = t) (q := fun ts => ∀ k c i, kpSL d k c i ts = true → shSL d k c i (shSL (-d) k c i ts) = ts) ?_ ?_ ?_).1 t
  · intro k n ks ih c h
    rw [kpS] at h
    split at h
    · cases h
    · rename_i hno
      rw [shS, shS, ih _ _ _ h]
      congr 1
      repeat' split
      all_goals omega
  · intro k c i _; simp [shSL]
  · intro t ts h1 h2 k c i h
    rw [kpSL, Bool.and_eq_true] at h
    rw [shSL, shSL, h1 _ h.1, h2 _ _ _ h.2]
theorem shS_down_up {d : Int} (hd : 0 ≤ d) (t : Tm) : ∀ c, shS (-d) c (shS d c t) = t ∧ kpS d c (shS d c t) = true := by
  refine (Tm.ind2 (p := fun t => ∀ c, shS (-d) c (shS d c t) = t ∧ kpS d c (shS d c t) = true) (q := fun ts => ∀ k c i, shSL (-d) k c i (shSL d k c i ts) = ts ∧ kpSL d k c i (shSL d k c i ts) = true) ?_ ?_ ?_).1 t
  · intro k n ks ih c
    rw [shS, shS, (ih k c 0).1, kpS, (ih k c 0).2]
    constructor
    · congr 1
      repeat' split
      all_goals omega
    · rw [if_neg]
      split <;> omega
  · intro k c i; simp [shSL, kpSL]
  · intro t ts h1 h2 k c i
    rw [shSL, shSL, kpSL, (h1 _).1, (h1 _).2, (h2 k c (i + 1)).1, (h2 k c (i + 1)).2]
    exact ⟨rfl, rfl⟩
end Go.Proofs.Ytodkenpmhhbppaa
