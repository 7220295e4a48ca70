/-
  Contracts of the functions that the law reaches, and plain lemmas. No condition.
-/
import Derived.Test.YtodkenpmhhbppaaK6
import Derived.Test.YtodkenpmhhbppaaK9
import Derived.Test.YtodkenpmhhbppaaK10
import Derived.Test.YtodkenpmhhbppaaK11
namespace Go.Proofs.Ytodkenpmhhbppaa
set_option linter.unusedSimpArgs false
set_option linter.unusedVariables false
open Go.RowKit
def MtPost (lo g sb : Nat) (w : World) (bs : Bool × St) (e : Ending) (w' : World) : Prop :=
  e = .returned (.bool bs.1) ∧ Tab w' lo g bs.2.1 ∧ Blk w' sb (bools bs.2.2) ∧ OnlyIn [g, sb] w w'
theorem OnlyIn.of_below {fp : List Nat} {w w' : World} (h : Below w.heap.size w w') : OnlyIn fp w w' := ⟨h.os, h.tape, h.output, h.size, fun b hb _ => h.block b hb⟩
theorem OnlyIn.al2 {fp : List Nat} {w w' : World} (h : OnlyIn fp w w') (o o' : Obj) : OnlyIn fp w ((w'.alloc o).alloc o') :=
  h.trans (.of_below (((Below.refl _ _).alloc (Nat.le_refl _) _).alloc (by simp) _))
theorem OnlyIn.al1 {fp : List Nat} {w w' : World} (h : OnlyIn fp w w') (o : Obj) : OnlyIn fp w (w'.alloc o) :=
  h.trans (.of_below ((Below.refl _ _).alloc (Nat.le_refl _) _))
theorem RdP.only {g sb : Nat} {w w' : World} {A : Option Addr} {i : Nat} {ks : List Tm} (hr : RdP (fun b => b ≠ g ∧ b ≠ sb) w A i ks) (ho : OnlyIn [g, sb] w w') : RdP (fun b => b ≠ g ∧ b ≠ sb) w' A i ks :=
  hr.blocks fun b hb hl => ho.block b hl (by simp [hb.1, hb.2])
theorem valid_var {n : Int} {ks : List Tm} (h : validT (.mk 1 n ks) = true) : ks = [] := by
  simp only [validT, Bool.and_eq_true] at h
  obtain ⟨q, _, ha, _⟩ := shape_pos h.1
  exact var_nil ha
theorem valid_n {k n : Int} {ks : List Tm} (h : validT (.mk k n ks) = true) : 0 ≤ n ∧ n ≤ 20 := by
  simp only [validT, Bool.and_eq_true] at h
  obtain ⟨q, _, ha, h0, h1, _⟩ := shape_pos h.1
  refine ⟨h0, ?_⟩
  unfold mostN at h1
  split at h1
  · exact h1
  · split at h1 <;> omega
set_option maxHeartbeats 2000000 in
set_option maxRecDepth 100000 in
theorem sMatch_any (m : Nat) (hm : m ≤ 6) (add : Int) (hadd : 0 ≤ add ∧ add ≤ 6) (lo g sb : Nat) (hgs : g ≠ sb) (hsl : sb < lo) (N : Nat) : ∀ (k n : Int) (ks : List Tm) (A : Option Addr) (c : Nat) (ku nu : Int) (us : List Tm) (U : Option Addr) (cu : Nat) (d : Int) (q : Nat) (cg cs : Nat) (G : List Tm) (S : List Bool) (w : World),
    sizes ks < N → validT (.mk k n ks) = true → validT (.mk ku nu us) = true → shape q (.mk k n ks) = true → 0 ≤ d → d + q ≤ 100 → G.length = m → S.length = m → RdP (fun b => b ≠ g ∧ b ≠ sb) w A 0 ks → RdP (fun b => b ≠ g ∧ b ≠ sb) w U 0 us → Tab w lo g G → Blk w sb (bools S) → lo ≤ w.heap.size →
    Calls Try.prog 117 #[.agg #[.int .i64 k, .int .i64 n, .slice A ks.length c], .slice (some ⟨g, 0, none⟩) m cg, .slice (some ⟨sb, 0, none⟩) m cs, .agg #[.int .i64 ku, .int .i64 nu, .slice U us.length cu], .int .i64 d, .int .i64 add] w
      (MtPost lo g sb w (mt m add d (.mk k n ks) (.mk ku nu us) (G, S))) := by
  induction N with
  | zero => intro k n ks A c ku nu us U cu d q cg cs G S w hN; exact absurd hN (Nat.not_lt_zero _)
  | succ N ih =>
  intro k n ks A c ku nu us U cu d q cg cs G S w hN hv hvu hsh hd hdq hG hSl hr hru hT hS hlo
  have hlen := length_le_sizes ks
  have hlenu := length_le_sizes us
  have hn := valid_n hv
  have hnu := valid_n hvu
  have hzk := validT_size hv
  have hzu := validT_size hvu
  rw [Tm.size] at hzk hzu
  have hgl := hT.lt
  have hsb := hS.lt
  obtain ⟨q, rfl, ha, hm1, hm2, hkids⟩ := shape_pos hsh
  have hkids' := hide hkids
  have hvk := hide (fun t (ht : t ∈ ks) => validT_kid hv ht)
  have hvuk := hide (fun t (ht : t ∈ us) => validT_kid hvu ht)
  have hsu : shape 30 (.mk ku nu us) = true := by simp only [validT, Bool.and_eq_true] at hvu; exact hvu.1
  have hsu' := hide hsu
  have hv' := hide hv
  have hvu' := hide hvu
  clear hkids ha hm1 hm2 hsu hv hvu
  by_cases hk : k = 1 ∧ d ≤ n
  · by_cases hlt : n < d + m
    · obtain ⟨rfl, hdn⟩ := hk
      have := valid_var hv'.out
      subst this
      obtain ⟨j, hj⟩ : ∃ j : Nat, n - d = (j : Int) := ⟨(n - d).toNat, by omega⟩
      have hjm : j < m := by omega
      have hjn : (n - d).toNat = j := by omega
      have q1 : decide (d ≤ n) = true := decide_eq_true hdn
      have q2 : decide (n < d + (m : Int)) = true := decide_eq_true hlt
      cases hkp : kpS d 0 (.mk ku nu us) with
      | false =>
        have hz : mt m add d (.mk 1 n []) (.mk ku nu us) (G, S) = (false, (G, S)) := by rw [mt, if_pos ⟨rfl, hdn⟩, if_pos hlt, shiftI_down hd hvu'.out, hkp]; rfl
        rw [hz]
        have hkp' := hide hkp
        have hj' := hide hj
        clear hz hkp hdn hlt hjn
        go_enter Try.func117, Try.ntmps117
        go_wp2_with (go_at_call 147; refine (sKeeps_any _ ku nu us U cu 0 d 30 _ (Nat.lt_succ_self _) (by omega) hsu'.out (by have := hj'.out; omega) (by omega) (by omega) ((hru.rd.alloc _).alloc _)).mono ?_; rw [hkp'.out]; rintro e w1 ⟨rfl, hb1⟩)
        go_ret
        have hb0 : Below w.heap.size w w1 := (((Below.refl _ _).alloc (Nat.le_refl _) _).alloc (by simp) _).trans (hb1.mono (by simp; omega))
        exact ⟨rfl, hT.keep hb0, hS.keep hb0, .of_below hb0⟩
      | true =>
        have hlow : shiftI (-d) 0 (.mk ku nu us) = some (.mk ku (if ku = 1 ∧ 0 ≤ nu then nu + -d else nu) (shSL (-d) ku 0 0 us)) := by rw [shiftI_down hd hvu'.out, hkp, shS]; rfl
        obtain ⟨nl, hnl⟩ : ∃ nl, (if ku = 1 ∧ 0 ≤ nu then nu + -d else nu) = nl := ⟨_, rfl⟩
        rw [hnl] at hlow
        have hnl' := hide hnl
        obtain ⟨b0, off, kj, nj, ksj, Aj, cj, hAj, hkj, hc1, hc2, hc3, hlj, hrj⟩ := hT.rd.at_ (j := j) (by omega)
        cases hAj
        simp only [Nat.zero_add] at hc1 hc2 hc3
        have hGj : G.getD j zeroT = .mk kj nj ksj := by rw [← hkj]; simp [List.getD, List.getElem?_eq_getElem (show j < G.length by omega)]
        have hkp' := hide hkp
        have hj' := hide hj
        have hsub := hj
        cases hse : S.getD j false with
        | true =>
          have hz : mt m add d (.mk 1 n []) (.mk ku nu us) (G, S) = (tmEq (.mk kj nj ksj) (.mk ku nl (shSL (-d) ku 0 0 us)), (G, S)) := by
            rw [mt, if_pos ⟨rfl, hdn⟩, if_pos hlt, hlow]
            simp only [hjn, hse, if_true, hGj]
          rw [hz]
          have hse' := hide hse
          generalize htq : tmEq (.mk kj nj ksj) (.mk ku nl (shSL (-d) ku 0 0 us)) = tq
          have htq' := hide htq
          clear hz hkp hdn hlt hjn hlow hGj hse hkj hnl htq
          go_enter Try.func117, Try.ntmps117
          go_wp2_with (first
            | (go_at_call 108; refine (sShift_any _ ku nu us U cu (-d) 0 30 _ (Nat.lt_succ_self _) (by omega) hsu'.out (by have := hj'.out; omega) (by omega) (by omega) (((hru.rd.alloc _).alloc _).below hb1)).mono ?_; rw [hnl'.out]; rintro e w2 ⟨A2, c2, rfl, hl2, hf2, hb2⟩; have hb02 : Below w.heap.size w w2 := hb01.trans (hb2.mono hb01.size); replace hB0 := hB0.keep hb2; have p0 := hB0.at_ (i := 0) rfl; have p1 := hB0.at_ (i := 1) rfl; have p2 := hB0.at_ (i := 2) rfl; have lB0 := hB0.lt; have xs2 := (hS.keep hb02).at_ (bools_get (show j < S.length by omega)); rw [hse'.out] at xs2; have ls2 := (hS.keep hb02).lt; have lg2 := (hT.keep hb02).lt; clear u0 u1 u2; have hB1' := hB1.keep hb2)
            | (go_at_call 147; refine (sKeeps_any _ ku nu us U cu 0 d 30 _ (Nat.lt_succ_self _) (by omega) hsu'.out (by have := hj'.out; omega) (by omega) (by omega) ((hru.rd.alloc _).alloc _)).mono ?_; rw [hkp'.out]; rintro e w1 ⟨rfl, hb1⟩; have hb01 : Below w.heap.size w w1 := (((Below.refl _ _).alloc (Nat.le_refl _) _).alloc (by simp) _).trans (hb1.mono (by simp; omega)); have hB1 : Blk w1 (w.heap.size + 1) #[.int .i64 ku, .int .i64 nu, .slice U us.length cu] := (Blk.new_ _ 25 _ (by simp)).keep hb1; have hB0 : Blk w1 w.heap.size #[.int .i64 1, .int .i64 n, .slice A 0 c] := ((Blk.new_ w 25 _ rfl).alloc _).keep hb1; have u0 := hB1.at_ (i := 0) rfl; have u1 := hB1.at_ (i := 1) rfl; have u2 := hB1.at_ (i := 2) rfl))
          have hTa := (hT.keep hb02).alloc (.cells #[.int .i64 ku, .int .i64 nl, .slice A2 (shSL (-d) ku 0 0 us).length c2] 25)
          have hSa := (hS.keep hb02).alloc (.cells #[.int .i64 ku, .int .i64 nl, .slice A2 (shSL (-d) ku 0 0 us).length c2] 25)
          have hba := hb02.alloc hb02.size (.cells #[.int .i64 ku, .int .i64 nl, .slice A2 (shSL (-d) ku 0 0 us).length c2] 25)
          have hNew := Blk.new_ (n := w2.heap.size) w2 25 #[.int .i64 ku, .int .i64 nl, .slice A2 (shSL (-d) ku 0 0 us).length c2] rfl
          have hf2a := hf2.rd.alloc (.cells #[.int .i64 ku, .int .i64 nl, .slice A2 (shSL (-d) ku 0 0 us).length c2] 25)
          clear p0 p1 p2 xs2
          generalize w2.alloc (.cells #[.int .i64 ku, .int .i64 nl, .slice A2 (shSL (-d) ku 0 0 us).length c2] 25) = wa at hTa hSa hba hNew hf2a ⊢
          have hrja := hrj.below hba
          have s1 := rule_of ((Keeps.of_below hba) _ _ hc1)
          have s2 := rule_of ((Keeps.of_below hba) _ _ hc2)
          have s3 := rule_of ((Keeps.of_below hba) _ _ hc3)
          have r1 := hNew.rule (i := 0) rfl
          have r2 := hNew.rule (i := 1) rfl
          have r3 := hNew.rule (i := 2) rfl
          refine wp_region_firstY (fun w' => Below wa.heap.size wa w') [0, 1, 2, 3, 4] [] [5, 6] [_, _, _, _, _] [] [_, _] (by kernel_rfl) (by kernel_rfl) rfl rfl rfl (fun _ _ d _ _ h => by cases d <;> exact h) (Below.refl _ _).drew ?_
          repeat (first | ((refine takeY_skip (a' := ?_) ?_ ?_ ?_); (rotate_left); (· (simp [Region.wanted, yielded]; done)); (· (simp only [List.getElem_toArray, List.getElem_cons_zero, List.getElem_cons_succ, Act.put, List.setIfInBounds_toArray, List.set_cons_zero, List.set_cons_succ]; exact rfl))) | ((refine takeY_step (v := ?_) (a' := ?_) ?_ ?_ ?_ ?_); (rotate_left 2); (· (simp [Region.wanted, yielded]; done)); (· (intro w' hS'; go_simp; try (with_reducible rfl))); (· (simp only [List.getElem_toArray, List.getElem_cons_zero, List.getElem_cons_succ, Act.put, List.setIfInBounds_toArray, List.set_cons_zero, List.set_cons_succ]; exact rfl))))
          refine takeY_nil (then_nil ?_)
          clear r1 r2 r3 s1 s2 s3
          go_wp2_with (go_at_call 130; refine (sSame_any _ kj nj ksj Aj cj ku nl (shSL (-d) ku 0 0 us) A2 c2 _ (Nat.lt_succ_self _) hlj hl2 hrja.drew hf2a.drew).mono ?_; rw [htq'.out]; rintro e w3 ⟨rfl, hb3⟩)
          go_ret
          have hb13 : Below wa.heap.size wa w3 := (Below.refl _ _).drew.trans hb3
          exact ⟨rfl, hTa.keep hb13, hSa.keep hb13, .of_below (hba.trans (hb13.mono hba.size))⟩
        | false =>
          have hz : mt m add d (.mk 1 n []) (.mk ku nu us) (G, S) = (true, (G.set j (.mk ku nl (shSL (-d) ku 0 0 us)), S.set j true)) := by
            rw [mt, if_pos ⟨rfl, hdn⟩, if_pos hlt, hlow]
            simp only [hjn, hse, Bool.false_eq_true, if_false]
          rw [hz]
          have hse' := hide hse
          clear hz hkp hdn hlt hjn hlow hGj hse hkj hnl
          go_enter Try.func117, Try.ntmps117
          go_wp2_with (first
            | (go_at_call 108; refine (sShift_any _ ku nu us U cu (-d) 0 30 _ (Nat.lt_succ_self _) (by omega) hsu'.out (by have := hj'.out; omega) (by omega) (by omega) (((hru.rd.alloc _).alloc _).below hb1)).mono ?_; rw [hnl'.out]; rintro e w2 ⟨A2, c2, rfl, hl2, hf2, hb2⟩; have hb02 : Below w.heap.size w w2 := hb01.trans (hb2.mono hb01.size); replace hB0 := hB0.keep hb2; have p0 := hB0.at_ (i := 0) rfl; have p1 := hB0.at_ (i := 1) rfl; have p2 := hB0.at_ (i := 2) rfl; have lB0 := hB0.lt; have xs2 := (hS.keep hb02).at_ (bools_get (show j < S.length by omega)); rw [hse'.out] at xs2; have ls2 := (hS.keep hb02).lt; have lg2 := (hT.keep hb02).lt; clear u0 u1 u2; have x0 := (Keeps.of_below hb02) _ _ hc1; have x1 := (Keeps.of_below hb02) _ _ hc2; have x2 := (Keeps.of_below hb02) _ _ hc3; have z0 := (hT.keep hb02).frozen (j * 3); have z1 := (hT.keep hb02).frozen (j * 3 + 1); have z2 := (hT.keep hb02).frozen (j * 3 + 2); have z3 := (hS.keep hb02).frozen j)
            | (go_at_call 147; refine (sKeeps_any _ ku nu us U cu 0 d 30 _ (Nat.lt_succ_self _) (by omega) hsu'.out (by have := hj'.out; omega) (by omega) (by omega) ((hru.rd.alloc _).alloc _)).mono ?_; rw [hkp'.out]; rintro e w1 ⟨rfl, hb1⟩; have hb01 : Below w.heap.size w w1 := (((Below.refl _ _).alloc (Nat.le_refl _) _).alloc (by simp) _).trans (hb1.mono (by simp; omega)); have hB1 : Blk w1 (w.heap.size + 1) #[.int .i64 ku, .int .i64 nu, .slice U us.length cu] := (Blk.new_ _ 25 _ (by simp)).keep hb1; have hB0 : Blk w1 w.heap.size #[.int .i64 1, .int .i64 n, .slice A 0 c] := ((Blk.new_ w 25 _ rfl).alloc _).keep hb1; have u0 := hB1.at_ (i := 0) rfl; have u1 := hB1.at_ (i := 1) rfl; have u2 := hB1.at_ (i := 2) rfl))
          go_ret
          have hput := Tab.put (hT.keep hb01) hb2 (by have := hb01.size; omega) (k := ku) (m := nl) (c := c2) (j := j) hf2 hl2 (by omega)
          refine ⟨rfl, (hput.setCell (by simpa using fun e => hgs e.symm) (by simpa using hsl) _).alloc _, ?_, ?_⟩
          · rw [← bools_set]
            exact (((((hS.keep hb02).far (by simpa using fun e => hgs e.symm) _).far (by simpa using fun e => hgs e.symm) _).far (by simpa using fun e => hgs e.symm) _).set_ j _).alloc _
          · exact (((((OnlyIn.of_below hb02).setCell (by simp) _).setCell (by simp) _).setCell (by simp) _).setCell (by simp) _).al1 _
    · obtain ⟨rfl, hdn⟩ := hk
      have := valid_var hv'.out
      subst this
      have q1 : decide (d ≤ n) = true := decide_eq_true hdn
      have q2 : decide (n < d + (m : Int)) = false := decide_eq_false hlt
      have hz : mt m add d (.mk 1 n []) (.mk ku nu us) (G, S) = (ku == 1 && nu == n - m + add, (G, S)) := by rw [mt, if_pos ⟨rfl, hdn⟩, if_neg hlt]; rfl
      rw [hz]
      have hlt' := hide hlt
      clear hz hdn hlt
      by_cases h1 : ku = 1
      · subst h1
        have := valid_var hvu'.out
        subst this
        go_enter Try.func117, Try.ntmps117
        go_wp2_with fail
        go_ret
        exact ⟨by simp, (hT.alloc _).alloc _, (hS.alloc _).alloc _, (OnlyIn.refl _ _).al2 _ _⟩
      · have q3 : ((1 : Int) != ku) = true := by simpa using fun e => h1 e.symm
        rw [show (ku == 1) = false by simpa using h1, Bool.false_and]
        clear h1
        go_enter Try.func117, Try.ntmps117
        go_wp2_with fail
        go_ret
        exact ⟨rfl, (hT.alloc _).alloc _, (hS.alloc _).alloc _, (OnlyIn.refl _ _).al2 _ _⟩
  · have hz : mt m add d (.mk k n ks) (.mk ku nu us) (G, S) = if ku = k ∧ nu = n ∧ us.length = ks.length then mtL m add k d 0 ks us (G, S) else (false, (G, S)) := by rw [mt, if_neg hk]; rfl
    rw [hz]
    have hk' := hide hk
    clear hz hk
    by_cases hk1 : k = 1
    · subst hk1
      have := valid_var hv'.out
      subst this
      have q0 : ((1 : Int) == 1) = true := rfl
      have q1 : decide (d ≤ n) = false := decide_eq_false (fun h => hk'.out ⟨rfl, h⟩)
      by_cases h1 : ku = 1
      · subst h1
        have := valid_var hvu'.out
        subst this
        by_cases h2 : nu = n
        · subst h2
          have q4 : (nu != nu) = false := by simp
          rw [if_pos ⟨rfl, rfl, rfl⟩]
          go_enter Try.func117, Try.ntmps117
          go_wp2_with fail
          go_loopw [16] (fun i wr => i = .int .i64 0 ∧ Tab wr lo g G ∧ Blk wr sb (bools S) ∧ Blk wr w.heap.size #[.int .i64 1, .int .i64 nu, .slice A 0 c] ∧ OnlyIn [g, sb] w wr) (fun _ _ => 0)
          case atStart => exact ⟨rfl, (hT.alloc _).alloc _, (hS.alloc _).alloc _, (Blk.new_ _ _ _ rfl).alloc _, (OnlyIn.refl _ _).al2 _ _⟩
          case round =>
            obtain ⟨rfl, hT1, hS1, hB1, ho⟩ := hrel
            have b2 := hB1.at_ (i := 2) rfl
            go_wp2_with fail
            go_ret
            exact ⟨by simp [mtL], by simpa [mtL] using hT1, by simpa [mtL] using hS1, ho⟩
        · have q4 : (n != nu) = true := by simpa using fun e => h2 e.symm
          rw [if_neg (by rintro ⟨-, h, -⟩; exact h2 h)]
          clear h2
          go_enter Try.func117, Try.ntmps117
          go_wp2_with fail
          go_ret
          exact ⟨rfl, (hT.alloc _).alloc _, (hS.alloc _).alloc _, (OnlyIn.refl _ _).al2 _ _⟩
      · have q3 : ((1 : Int) != ku) = true := by simpa using fun e => h1 e.symm
        rw [if_neg (by rintro ⟨h, -, -⟩; exact h1 h)]
        clear h1
        go_enter Try.func117, Try.ntmps117
        go_wp2_with fail
        go_ret
        exact ⟨rfl, (hT.alloc _).alloc _, (hS.alloc _).alloc _, (OnlyIn.refl _ _).al2 _ _⟩
    · have q0 : (k == 1) = false := by simpa using hk1
      clear hk1
      by_cases h1 : ku = k
      · subst h1
        have q3 : (ku != ku) = false := by simp
        by_cases h3 : us.length = ks.length
        · have q5 : ((ks.length : Int) != (us.length : Int)) = false := by simp [h3]
          by_cases h2 : nu = n
          · subst h2
            have q4 : (nu != nu) = false := by simp
            rw [if_pos ⟨rfl, rfl, h3⟩]
            have h3' := hide h3
            have hle : us.length ≤ ks.length := by omega
            have hge : ks.length ≤ us.length := by omega
            clear h3
            go_enter Try.func117, Try.ntmps117
            go_wp2_with fail
            go_loopw [16] (fun i wr => ∃ (j : Nat) (G1 : List Tm) (S1 : List Bool), j ≤ ks.length ∧ i = .int .i64 j ∧ Hid (mtL m add ku d 0 (ks.take j) (us.take j) (G, S) = (true, (G1, S1))) ∧ G1.length = m ∧ S1.length = m ∧ Tab wr lo g G1 ∧ Blk wr sb (bools S1) ∧ Blk wr w.heap.size #[.int .i64 ku, .int .i64 nu, .slice A ks.length c] ∧ Blk wr (w.heap.size + 1) #[.int .i64 ku, .int .i64 nu, .slice U us.length cu] ∧ OnlyIn [g, sb] w wr) (fun i _ => ks.length - (intOf i).toNat)
            case atStart => exact ⟨0, G, S, Nat.zero_le _, rfl, hide (by simp [mtL]), hG, hSl, (hT.alloc _).alloc _, (hS.alloc _).alloc _, (Blk.new_ _ _ _ rfl).alloc _, Blk.new_ _ _ _ (by simp), (OnlyIn.refl _ _).al2 _ _⟩
            case round =>
              obtain ⟨j, G1, S1, hj, rfl, hall, hG1, hS1l, hT1, hS1, hB1, hB2, ho⟩ := hrel
              have b2 := hB1.at_ (i := 2) rfl
              have hsz0 := ho.size
              by_cases hlt : j < ks.length
              · have hlt' : j < us.length := by omega
                obtain ⟨b, off, k1, n1, ks1, A1, c1, rfl, hkj, hc1, hc2, hc3, hl1, hr1⟩ := (hr.only ho).at_ hlt
                obtain ⟨b3, off3, k3, n3, ks3, A3, c3, rfl, hkj3, hd1, hd2, hd3, hl3, hr3⟩ := (hru.only ho).at_ hlt'
                have hsz := sizes_le (List.getElem_mem hlt)
                have hsk := hkids'.out _ (List.getElem_mem hlt)
                have hv1 := hvk.out _ (List.getElem_mem hlt)
                have hv3 := hvuk.out _ (List.getElem_mem hlt')
                rw [hkj] at hsz hsk hv1
                rw [hkj3] at hv3
                simp only [Tm.size] at hsz
                have hst := mtL_take m add ku d hlt h3'.out.symm hall.out
                rw [hkj, hkj3] at hst
                obtain ⟨bq, G2, S2, hmt⟩ : ∃ bq G2 S2, mt m add (d + under ku j) (.mk k1 n1 ks1) (.mk k3 n3 ks3) (G1, S1) = (bq, (G2, S2)) := ⟨_, _, _, rfl⟩
                have hml := mt_length m add (.mk k1 n1 ks1) (d + under ku j) (.mk k3 n3 ks3) (G1, S1)
                rw [hmt] at hst hml
                have H4 := hide hsk
                have H5 := hide hv1
                have H6 := hide hv3
                have H7 := hide hmt
                have H8 := hide hst
                have H9 := hide hml
                clear hkj hkj3 hsk hv1 hv3 hmt hst hml
                go_wp2_with fail
                have r1 := rule_of hc1
                have r2 := rule_of hc2
                have r3 := rule_of hc3
                have r4 := rule_of hd1
                have r5 := rule_of hd2
                have r6 := rule_of hd3
                have r7 := hB1.rule (i := 2) rfl
                have r8 := hB2.rule (i := 2) rfl
                have r9 := hB1.rule (i := 0) rfl
                have hun := under_le ku j
                refine wp_region_firstY (fun w' => Below wr.heap.size wr w') [0, 1, 2, 3, 4, 5, 6, 7, 8, 9, 10, 11, 12, 13, 14, 15, 16, 17, 18] [] [19, 20] [_, _, _, _, _, _, _, _, _, _, _, _, _, _, _, _, _, _, _] [] [_, _] (by kernel_rfl) (by kernel_rfl) rfl rfl rfl (fun _ _ d _ _ h => by cases d <;> exact h) (Below.refl _ _).drew ?_
                repeat (first | ((refine takeY_skip (a' := ?_) ?_ ?_ ?_); (rotate_left); (· (simp [Region.wanted, yielded]; done)); (· (simp only [List.getElem_toArray, List.getElem_cons_zero, List.getElem_cons_succ, Act.put, List.setIfInBounds_toArray, List.set_cons_zero, List.set_cons_succ]; exact rfl))) | ((refine takeY_step (v := ?_) (a' := ?_) ?_ ?_ ?_ ?_); (rotate_left 2); (· (simp [Region.wanted, yielded]; done)); (· (intro w' hS'; go_simp; try (with_reducible rfl))); (· (simp only [List.getElem_toArray, List.getElem_cons_zero, List.getElem_cons_succ, Act.put, List.setIfInBounds_toArray, List.set_cons_zero, List.set_cons_succ]; exact rfl))) | ((refine takeY_call (v := ?_) (a' := ?_) 109 ?_ ?_ ?_ ?_ ?_ ?_); (rotate_left 3); (· (simp [Region.wanted, yielded]; done)); (· (intro w' hS'; go_simp; try (with_reducible rfl))); (· (intro w' hS'; exact sUnder_any _ _ _)); (· (simp only [List.getElem_toArray, List.getElem_cons_zero, List.getElem_cons_succ, Act.put, List.setIfInBounds_toArray, List.set_cons_zero, List.set_cons_succ]; exact rfl))))
                refine takeY_nil (then_nil ?_)
                clear r1 r2 r3 r4 r5 r6 r7 r8 r9 b2
                cases bq with
                | false =>
                  go_wp2_with (go_at_call 117; refine (ih k1 n1 ks1 A1 c1 k3 n3 ks3 A3 c3 (d + under ku j) q cg cs G1 S1 _ (by omega) H5.out H6.out H4.out (by omega) (by omega) hG1 hS1l hr1.drew hr3.drew hT1.drew hS1.drew (by simp; omega)).mono ?_; rw [H7.out]; rintro e w1 ⟨rfl, hT2, hS2, ho2⟩)
                  go_ret
                  rw [mtL_no m add ku d hlt h3'.out.symm H8.out]
                  exact ⟨rfl, hT2, hS2, ho.trans ((OnlyIn.of_below (Below.refl _ _).drew).trans ho2)⟩
                | true =>
                  go_wp2_with (go_at_call 117; refine (ih k1 n1 ks1 A1 c1 k3 n3 ks3 A3 c3 (d + under ku j) q cg cs G1 S1 _ (by omega) H5.out H6.out H4.out (by omega) (by omega) hG1 hS1l hr1.drew hr3.drew hT1.drew hS1.drew (by simp; omega)).mono ?_; rw [H7.out]; rintro e w1 ⟨rfl, hT2, hS2, ho2⟩)
                  replace ho2 : OnlyIn [g, sb] wr w1 := (OnlyIn.of_below (Below.refl _ _).drew).trans ho2
                  go_roundw
                  case rel => exact ⟨j + 1, G2, S2, by omega, by go_num, H8, H9.out.1.trans hG1, H9.out.2.trans hS1l, hT2, hS2, hB1.only ho2 (by simp; omega), hB2.only ho2 (by simp; omega), ho.trans ho2⟩
                  case measure => simp [intOf]; omega
              · go_wp2_with fail
                go_ret
                have hjl : j = ks.length := by omega
                have h5 := hall.out
                rw [hjl, List.take_length, ← h3'.out, List.take_length] at h5
                rw [h5]
                exact ⟨rfl, hT1, hS1, ho⟩
          · have q4 : (n != nu) = true := by simpa using fun e => h2 e.symm
            rw [if_neg (by rintro ⟨-, h, -⟩; exact h2 h)]
            clear h2 h3
            go_enter Try.func117, Try.ntmps117
            go_wp2_with fail
            go_ret
            exact ⟨rfl, (hT.alloc _).alloc _, (hS.alloc _).alloc _, (OnlyIn.refl _ _).al2 _ _⟩
        · have q5 : ((ks.length : Int) != (us.length : Int)) = true := by simp; omega
          rw [if_neg (by rintro ⟨-, -, h⟩; exact h3 h)]
          clear h3
          go_enter Try.func117, Try.ntmps117
          go_wp2_with fail
          go_ret
          exact ⟨rfl, (hT.alloc _).alloc _, (hS.alloc _).alloc _, (OnlyIn.refl _ _).al2 _ _⟩
      · have q3 : (k != ku) = true := by simpa using fun e => h1 e.symm
        rw [if_neg (by rintro ⟨h, -, -⟩; exact h1 h)]
        clear h1
        go_enter Try.func117, Try.ntmps117
        go_wp2_with fail
        go_ret
        exact ⟨rfl, (hT.alloc _).alloc _, (hS.alloc _).alloc _, (OnlyIn.refl _ _).al2 _ _⟩
open Go.RowKit
/-- integers that can be read -/
def RdI (w : World) (A : Option Addr) (xs : List Int) : Prop := ∀ j (hj : j < xs.length), ∃ b off, A = some ⟨b, off, none⟩ ∧ w.cell? ⟨b, off + j, none⟩ = some (.int .i64 xs[j])
theorem RdI.keeps {w w' : World} {A : Option Addr} {xs : List Int} (h : RdI w A xs) (hk : Keeps w w') : RdI w' A xs := fun j hj => by
  obtain ⟨b, off, hA, hc⟩ := h j hj; exact ⟨b, off, hA, hk _ _ hc⟩
theorem RdI.below {w w' : World} {A : Option Addr} {xs : List Int} (h : RdI w A xs) (hb : Below w.heap.size w w') : RdI w' A xs := h.keeps (.of_below hb)
theorem RdI.alloc {w : World} {A : Option Addr} {xs : List Int} (h : RdI w A xs) (o : Obj) : RdI (w.alloc o) A xs := h.keeps (.alloc w o)
/-- the place in a term to which a path leads -/
def atT : Tm → List Int → Option Tm
  | t, [] => some t
  | t, i :: is => if 0 ≤ i ∧ i < t.kids.length then atT (t.kids.getD i.toNat default) is else none
theorem atT_append : ∀ (xs ys : List Int) (t : Tm), atT t (xs ++ ys) = (atT t xs).bind (atT · ys)
  | [], ys, t => rfl
  | i :: is, ys, t => by
    rw [List.cons_append, atT, atT]
    split
    · exact atT_append is ys _
    · rfl
theorem atT_take {t u : Tm} {xs : List Int} {j : Nat} (hj : j < xs.length) (h : atT t (xs.take j) = some u) : atT t (xs.take (j + 1)) = if 0 ≤ xs[j] ∧ xs[j] < u.kids.length then some (u.kids.getD xs[j].toNat default) else none := by
  rw [List.take_succ_eq_append_getElem hj, atT_append, h, Option.bind_some, atT]
  split <;> rfl
theorem atT_none {t : Tm} {xs : List Int} {j : Nat} (h : atT t (xs.take j) = none) : atT t xs = none := by
  rw [← List.take_append_drop j xs, atT_append, h]; rfl
theorem atT_valid {u : Tm} : ∀ {xs : List Int} {t : Tm}, atT t xs = some u → validT t = true → validT u = true
  | [], t, h, hv => by cases h; exact hv
  | i :: is, t, h, hv => by
    rw [atT] at h
    split at h
    · rename_i hh
      obtain ⟨k, n, ks⟩ := t
      refine atT_valid h ?_
      have hlt : i.toNat < ks.length := by have := hh.2; simp only [Tm.kids] at this; omega
      rw [show (Tm.mk k n ks).kids = ks from rfl, List.getD_eq_getElem?_getD, List.getElem?_eq_getElem hlt, Option.getD_some]
      exact validT_kid hv (List.getElem_mem _)
    · cases h
open Go.RowKit
/-- a term with another part at the end of a way -/
def putN : Tm → List Int → Tm → Tm
  | _, [], u => u
  | .mk k n ks, i :: is, u => .mk k n (ks.set i.toNat (putN (ks.getD i.toNat default) is u))
def vO (t : Tm) : Option Tm := if validT t = true then some t else none
open Go.RowKit
section
variable {u : Tm} (hsu : shape 30 u = true)
include hsu
end
theorem validT_shape30 {t : Tm} (h : validT t = true) : shape 30 t = true := by simp only [validT, Bool.and_eq_true] at h; exact h.1
/-- a part that is laid into a valid term is valid -/
theorem putN_valid : ∀ (p : List Int) (t u v : Tm), atT t p = some u → validT (putN t p v) = true → validT v = true
  | [], t, u, v, h, hv => hv
  | i :: is, .mk k n ks, u, v, h, hv => by
    rw [atT] at h
    split at h
    · rename_i hi
      have hj : i.toNat < ks.length := by have h2 := hi.2; simp only [Tm.kids] at h2; omega
      rw [putN] at hv
      refine putN_valid is _ u v h (validT_kid hv ?_)
      exact List.mem_iff_getElem.2 ⟨i.toNat, by simpa using hj, by simp [Tm.kids]⟩
    · cases h
end Go.Proofs.Ytodkenpmhhbppaa
