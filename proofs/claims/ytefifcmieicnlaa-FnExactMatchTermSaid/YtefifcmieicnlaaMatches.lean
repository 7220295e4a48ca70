/-
  matches of the implementation. No condition.
-/
import Derived.Test.YtefifcmieicnlaaIMatch
import Derived.Test.YtefifcmieicnlaaSTry
import Derived.Test.YtefifcmieicnlaaOwnT
namespace Go.Proofs.Ytefifcmieicnlaa
open Go.RowKit
set_option linter.unusedSimpArgs false
set_option linter.unusedVariables false

theorem own81 {G : List Tm} {m : Nat} (hm : G.length = m) {g : Nat} {w : World} (hM : sizes G ≤ 1099511627776) (hr : Rd w (some ⟨g, 0, none⟩) 0 G) : Calls Try.prog 81 #[.slice (some ⟨g, 0, none⟩) m m] w (GotL w G) := by
  subst hm; exact ownAll_any G _ _ w hM hr

set_option maxHeartbeats 2000000 in
set_option maxRecDepth 100000 in
theorem iMatches_any (m : Nat) (hm : m ≤ 6) (add : Int) (hadd : 0 ≤ add ∧ add ≤ 6) (k n : Int) (ks : List Tm) (A : Option Addr) (c : Nat) (ku nu : Int) (us : List Tm) (U : Option Addr) (cu : Nat) (w : World) (hv : validT (.mk k n ks) = true) (hvu : validT (.mk ku nu us) = true) (hr : Rd w A 0 ks) (hru : Rd w U 0 us) :
    Calls Try.prog 75 #[.agg #[.int .i64 k, .int .i64 n, .slice A ks.length c], .int .i64 m, .agg #[.int .i64 ku, .int .i64 nu, .slice U us.length cu], .int .i64 add] w (GotLO w (tryS m add (.mk k n ks) (.mk ku nu us))) := by
  have hs : shape 30 (.mk k n ks) = true := by simp only [validT, Bool.and_eq_true] at hv; exact hv.1
  have hsz := validT_size hv
  rw [Tm.size] at hsz
  obtain ⟨bq, G2, S2, hmt⟩ : ∃ bq G2 S2, mt m add 0 (.mk k n ks) (.mk ku nu us) (List.replicate m zeroT, List.replicate m false) = (bq, (G2, S2)) := ⟨_, _, _, rfl⟩
  have hml := (mt_length m add (.mk k n ks) 0 (.mk ku nu us) (List.replicate m zeroT, List.replicate m false)).1
  rw [hmt] at hml
  simp only [List.length_replicate] at hml
  obtain ⟨oo, hoo⟩ : ∃ oo, tryS m add (.mk k n ks) (.mk ku nu us) = oo := ⟨_, rfl⟩
  have hzG : ∀ x, oo = some x → sizes x ≤ 2400 := fun x hx => (tryS_size hm (hoo.trans hx)).1
  rw [hoo]
  have hoo' := hide hoo
  have hmt' := hide hmt
  have hzG' := hide hzG
  clear hmt hoo hzG
  have mk1 := mk_terms m (by omega)
  have mk2 := mk_bools m (by omega)
  go_enter Try.func75, Try.ntmps75
  go_wp2_with fail
  go_loopw [13] (fun i wr => ∃ j : Nat, j ≤ m ∧ i = .int .i64 j ∧ Hid (∀ x : Nat, x < j → 0 < cnV x 0 (.mk k n ks)) ∧ Blk wr w.heap.size #[.int .i64 k, .int .i64 n, .slice A ks.length c] ∧ Blk wr (w.heap.size + 1) #[.int .i64 ku, .int .i64 nu, .slice U us.length cu] ∧ Below w.heap.size w wr) (fun i _ => m - (intOf i).toNat)
  case atStart => exact ⟨0, Nat.zero_le _, rfl, hide (by intro x hx; omega), (Blk.new_ _ _ _ rfl).alloc _, Blk.new_ _ _ _ (by simp), ((Below.refl _ _).alloc (Nat.le_refl _) _).alloc (by simp) _⟩
  case round =>
    obtain ⟨j, hj, rfl, hall, hB0, hB1, hb⟩ := hrel
    have p0 := hB0.at_ (i := 0) rfl
    have p1 := hB0.at_ (i := 1) rfl
    have p2 := hB0.at_ (i := 2) rfl
    have u0 := hB1.at_ (i := 0) rfl
    have u1 := hB1.at_ (i := 1) rfl
    have u2 := hB1.at_ (i := 2) rfl
    by_cases hlt : j < m
    · generalize hcn : cnV j 0 (.mk k n ks) = cn
      have hcn' := hide hcn
      clear hcn
      by_cases h0 : cn = 0
      · subst h0
        go_wp2_with (go_at_call 117; refine (countVar_any k n ks A c j _ (by omega) hs (hr.below hb)).mono ?_; rw [hcn'.out]; rintro e w1 ⟨rfl, hb1⟩)
        go_ret2
        have hno : oo = none := by rw [← hoo'.out]; exact tryS_zero hs hlt hcn'.out
        subst hno
        exact ⟨none, 0, rfl, Fresh.nil, hb.trans (hb1.mono hb.size)⟩
      · have q : ((cn : Int) == 0) = false := by simpa using h0
        go_wp2_with (go_at_call 117; refine (countVar_any k n ks A c j _ (by omega) hs (hr.below hb)).mono ?_; rw [hcn'.out]; rintro e w1 ⟨rfl, hb1⟩)
        go_roundw
        case rel => exact ⟨j + 1, by omega, by go_num, hide (by intro x hx; by_cases hxj : x = j; (· subst hxj; rw [hcn'.out]; omega); (· exact hall.out x (by omega))), hB0.keep hb1, hB1.keep hb1, hb.trans (hb1.mono hb.size)⟩
        case measure => simp [intOf]; omega
    · have hjm : m = j := by omega
      subst hjm
      have hG2 := hide hml
      have hsc : bq = true → sizes G2 ≤ 1099511627776 := fun h => by
        have h1 := hzG'.out G2 (by rw [← hoo'.out, tryS_yes hs (by rw [mt0, hmt'.out]; exact h) hall.out, mt0, hmt'.out])
        omega
      have lB0 := hB0.lt
      have lB1 := hB1.lt
      have lB01 : w.heap.size < wr.heap.size + 1 := by omega
      have lB02 : w.heap.size < wr.heap.size + 1 + 1 := by omega
      have lB11 : w.heap.size + 1 < wr.heap.size + 1 := by omega
      have lB12 : w.heap.size + 1 < wr.heap.size + 1 + 1 := by omega
      have lB13 : w.heap.size < wr.heap.size + 1 + 1 + 1 := by omega
      have lB14 : w.heap.size + 1 < wr.heap.size + 1 + 1 + 1 := by omega
      have hrA : RdP (fun b => b ≠ wr.heap.size ∧ b ≠ wr.heap.size + 1) wr A 0 ks := (hr.below hb).rdp.mono (fun b hb => by omega)
      have hrAu : RdP (fun b => b ≠ wr.heap.size ∧ b ≠ wr.heap.size + 1) wr U 0 us := (hru.below hb).rdp.mono (fun b hb => by omega)
      have hrB : RdP (fun b => b ≠ wr.heap.size + 1 ∧ b ≠ wr.heap.size) wr A 0 ks := (hr.below hb).rdp.mono (fun b hb => by omega)
      have hrBu : RdP (fun b => b ≠ wr.heap.size + 1 ∧ b ≠ wr.heap.size) wr U 0 us := (hru.below hb).rdp.mono (fun b hb => by omega)
      go_wp2_with fail
      go_region_held3 (fun w' => True) (trivial) (fail)
      all_goals
        cases bq with
        | false =>
          go_wp2_with (first | (go_at_call 118; refine (iMatch_any m hm add hadd (wr.heap.size + 1 + 1) (wr.heap.size) (wr.heap.size + 1) (by omega) (by omega) _ k n ks A c ku nu us U cu 0 30 (wr.heap.size + 1 + 1) m m (List.replicate m zeroT) (List.replicate m false) _ (Nat.lt_succ_self _) hv hvu hs (by omega) (by omega) (by simp) (by simp) ((((hrA.alloc _).alloc _).alloc _)).drew ((((hrAu.alloc _).alloc _).alloc _)).drew (((mk_tab' m hm _ _ _ (by simp) (by omega)).alloc _).alloc _).drew ((Blk.new_ _ _ _ (by simp)).alloc _).drew (by simp) (Blk.new_ _ _ _ (by simp)).drew (by omega) (by omega)).mono ?_; rw [hmt'.out]; rintro e w1 ⟨rfl, hT, hS, ho⟩; have hM1 : Blk w1 (wr.heap.size + 1 + 1) #[.slice (some ⟨wr.heap.size, 0, none⟩) m m, .slice (some ⟨wr.heap.size + 1, 0, none⟩) m m, .int .i64 add] := (Blk.new_ _ 116 _ (by simp)).drew.only ho (by simp; omega); have hb01 : Below wr.heap.size wr w1 := (((((Below.refl _ _).alloc (Nat.le_refl _) _).alloc (by simp) _).alloc (by simp; omega) _)).drew.trans (ho.below (by simp; omega) (by simp)); have m0 := hM1.at_ (i := 0) rfl; have hTrd := hT.rd; have hTf : Below w.heap.size w w1 := hb.trans (hb01.mono hb.size)) | (go_at_call 118; refine (iMatch_any m hm add hadd (wr.heap.size + 1 + 1) (wr.heap.size + 1) (wr.heap.size) (by omega) (by omega) _ k n ks A c ku nu us U cu 0 30 (wr.heap.size + 1 + 1) m m (List.replicate m zeroT) (List.replicate m false) _ (Nat.lt_succ_self _) hv hvu hs (by omega) (by omega) (by simp) (by simp) ((((hrB.alloc _).alloc _).alloc _)).drew ((((hrBu.alloc _).alloc _).alloc _)).drew ((mk_tab' m hm _ _ _ (by simp) (by omega)).alloc _).drew (((Blk.new_ _ _ _ (by simp)).alloc _).alloc _).drew (by simp) (Blk.new_ _ _ _ (by simp)).drew (by omega) (by omega)).mono ?_; rw [hmt'.out]; rintro e w1 ⟨rfl, hT, hS, ho⟩; have hM1 : Blk w1 (wr.heap.size + 1 + 1) #[.slice (some ⟨wr.heap.size + 1, 0, none⟩) m m, .slice (some ⟨wr.heap.size, 0, none⟩) m m, .int .i64 add] := (Blk.new_ _ 116 _ (by simp)).drew.only ho (by simp; omega); have hb01 : Below wr.heap.size wr w1 := (((((Below.refl _ _).alloc (Nat.le_refl _) _).alloc (by simp) _).alloc (by simp; omega) _)).drew.trans (ho.below (by simp; omega) (by simp)); have m0 := hM1.at_ (i := 0) rfl; have hTrd := hT.rd; have hTf : Below w.heap.size w w1 := hb.trans (hb01.mono hb.size)))
          go_ret2
          have hno : oo = none := by rw [← hoo'.out]; exact tryS_no (by rw [mt0, hmt'.out])
          subst hno
          exact ⟨none, 0, rfl, Fresh.nil, hTf⟩
        | true =>
          go_wp2_with (first | (go_at_call 118; refine (iMatch_any m hm add hadd (wr.heap.size + 1 + 1) (wr.heap.size) (wr.heap.size + 1) (by omega) (by omega) _ k n ks A c ku nu us U cu 0 30 (wr.heap.size + 1 + 1) m m (List.replicate m zeroT) (List.replicate m false) _ (Nat.lt_succ_self _) hv hvu hs (by omega) (by omega) (by simp) (by simp) ((((hrA.alloc _).alloc _).alloc _)).drew ((((hrAu.alloc _).alloc _).alloc _)).drew (((mk_tab' m hm _ _ _ (by simp) (by omega)).alloc _).alloc _).drew ((Blk.new_ _ _ _ (by simp)).alloc _).drew (by simp) (Blk.new_ _ _ _ (by simp)).drew (by omega) (by omega)).mono ?_; rw [hmt'.out]; rintro e w1 ⟨rfl, hT, hS, ho⟩; have hM1 : Blk w1 (wr.heap.size + 1 + 1) #[.slice (some ⟨wr.heap.size, 0, none⟩) m m, .slice (some ⟨wr.heap.size + 1, 0, none⟩) m m, .int .i64 add] := (Blk.new_ _ 116 _ (by simp)).drew.only ho (by simp; omega); have hb01 : Below wr.heap.size wr w1 := (((((Below.refl _ _).alloc (Nat.le_refl _) _).alloc (by simp) _).alloc (by simp; omega) _)).drew.trans (ho.below (by simp; omega) (by simp)); have m0 := hM1.at_ (i := 0) rfl; have hTrd := hT.rd; have hTf : Below w.heap.size w w1 := hb.trans (hb01.mono hb.size)) | (go_at_call 118; refine (iMatch_any m hm add hadd (wr.heap.size + 1 + 1) (wr.heap.size + 1) (wr.heap.size) (by omega) (by omega) _ k n ks A c ku nu us U cu 0 30 (wr.heap.size + 1 + 1) m m (List.replicate m zeroT) (List.replicate m false) _ (Nat.lt_succ_self _) hv hvu hs (by omega) (by omega) (by simp) (by simp) ((((hrB.alloc _).alloc _).alloc _)).drew ((((hrBu.alloc _).alloc _).alloc _)).drew ((mk_tab' m hm _ _ _ (by simp) (by omega)).alloc _).drew (((Blk.new_ _ _ _ (by simp)).alloc _).alloc _).drew (by simp) (Blk.new_ _ _ _ (by simp)).drew (by omega) (by omega)).mono ?_; rw [hmt'.out]; rintro e w1 ⟨rfl, hT, hS, ho⟩; have hM1 : Blk w1 (wr.heap.size + 1 + 1) #[.slice (some ⟨wr.heap.size + 1, 0, none⟩) m m, .slice (some ⟨wr.heap.size, 0, none⟩) m m, .int .i64 add] := (Blk.new_ _ 116 _ (by simp)).drew.only ho (by simp; omega); have hb01 : Below wr.heap.size wr w1 := (((((Below.refl _ _).alloc (Nat.le_refl _) _).alloc (by simp) _).alloc (by simp; omega) _)).drew.trans (ho.below (by simp; omega) (by simp)); have m0 := hM1.at_ (i := 0) rfl; have hTrd := hT.rd; have hTf : Below w.heap.size w w1 := hb.trans (hb01.mono hb.size)) | (go_at_call 81; refine (own81 hG2.out (hsc (by simp)) hTrd).mono ?_; rintro e w3 ⟨A3, c3, rfl, hf3, hb3⟩))
          go_ret2
          have hyes : oo = some G2 := by rw [← hoo'.out, tryS_yes hs (by rw [mt0, hmt'.out]) hall.out, mt0, hmt'.out]
          subst hyes
          exact ⟨A3, c3, by simp; exact hG2.out.symm, hf3.mono hTf.size, hTf.trans (hb3.mono hTf.size)⟩
end Go.Proofs.Ytefifcmieicnlaa
