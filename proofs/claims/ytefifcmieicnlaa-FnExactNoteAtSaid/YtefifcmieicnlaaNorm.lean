/-
  Normal terms: what the tests of both sides compute. No condition.
-/
import Derived.Test.YtefifcmieicnlaaRedex
import Derived.Test.YtefifcmieicnlaaScan
namespace Go.Proofs.Ytefifcmieicnlaa
open Go.RowKit
set_option linter.unusedSimpArgs false
set_option linter.unusedVariables false

mutual
/-- no rule applies anywhere -/
def nrm : Tm → Bool | .mk k _ ks => nrms ks && (rdx k ks == 0)
def nrms : List Tm → Bool | [] => true | t :: ts => nrm t && nrms ts
end
theorem nrms_iff : ∀ ks : List Tm, nrms ks = true ↔ ∀ t, t ∈ ks → nrm t = true
  | [] => by simp [nrms]
  | t :: ts => by rw [nrms, Bool.and_eq_true, nrms_iff ts]; simp
theorem nrm_kid_no {k n : Int} {ks : List Tm} {j : Nat} (hj : j < ks.length) (h : nrm ks[j] = false) : nrm (.mk k n ks) = false := by
  rw [nrm, Bool.and_eq_false_iff]
  left
  cases e : nrms ks with
  | false => rfl
  | true => have := (nrms_iff ks).1 e _ (List.getElem_mem hj); rw [h] at this; exact absurd this (by simp)
theorem nrm_of {k n : Int} {ks : List Tm} (h : ∀ t, t ∈ ks → nrm t = true) : nrm (.mk k n ks) = (rdx k ks == 0) := by
  rw [nrm, (nrms_iff ks).2 h, Bool.true_and]

set_option maxRecDepth 100000 in
set_option maxHeartbeats 2000000 in
theorem sIsNormal_any (N : Nat) : ∀ (d : Nat) (k n : Int) (ks : List Tm) (A : Option Addr) (c : Nat) (w : World), sizes ks < N → shape d (.mk k n ks) = true → sizes ks ≤ 1099511627775 → Rd w A 0 ks →
    Calls Try.prog 99 #[.agg #[.int .i64 k, .int .i64 n, .slice A ks.length c]] w fun e w' => e = .returned (.bool (nrm (.mk k n ks))) ∧ Below w.heap.size w w' := by
  induction N with
  | zero => intro d k n ks A c w hN; exact absurd hN (Nat.not_lt_zero _)
  | succ N ih =>
  intro d k n ks A c w hN hsh hM hr
  have hlen := length_le_sizes ks
  obtain ⟨d, rfl⟩ : ∃ d', d = d' + 1 := by cases d with | zero => simp [shape] at hsh | succ d => exact ⟨d, rfl⟩
  obtain ⟨ha, hm1, hm2, hkids⟩ := (shape_split d k n ks).1 hsh
  have hkids := hide hkids
  have ha' := hide ha
  clear ha hm1 hm2 hsh
  go_enter Try.func99, Try.ntmps99
  go_wp2_with fail
  go_loopw [3] (fun i wr => ∃ j : Nat, j ≤ ks.length ∧ i = .int .i64 j ∧ Hid (∀ t, t ∈ ks.take j → nrm t = true) ∧ Blk wr w.heap.size #[.int .i64 k, .int .i64 n, .slice A ks.length c] ∧ Below w.heap.size w wr)
    (fun i _ => ks.length - (intOf i).toNat)
  case atStart => exact ⟨0, Nat.zero_le _, rfl, hide (by simp), Blk.new_ _ _ _ (by simp), (Below.refl _ _).alloc (Nat.le_refl _) _⟩
  case round =>
    obtain ⟨j, hj, rfl, hall, hB, hb⟩ := hrel
    have c0 := hB.at_ (i := 0) rfl
    have c1' := hB.at_ (i := 1) rfl
    have c2 := hB.at_ (i := 2) rfl
    by_cases hlt : j < ks.length
    · obtain ⟨b, off, k1, n1, ks1, A1, c1, rfl, hkj, hc1, hc2, hc3, hl1, hr1⟩ := (hr.below hb).at_ hlt
      have hsz := sizes_le (List.getElem_mem hlt)
      have hs1 := hkids.out _ (List.getElem_mem hlt)
      rw [hkj] at hsz hs1
      simp only [Tm.size] at hsz
      have H3 := hide hkj
      have H4 := hide hs1
      clear hkj hs1
      go_wp2_with (go_at_call 99; refine (ih d k1 n1 ks1 A1 c1 _ (by omega) H4.out (by omega) hr1).mono ?_; rintro e w3 ⟨rfl, hb3⟩)
      · rename_i hbx
        go_ret
        refine ⟨ret_bool ?_, hb.trans (hb3.mono hb.size)⟩
        have : nrm (.mk k1 n1 ks1) = false := by simpa using hbx
        exact (nrm_kid_no hlt (by rw [H3.out]; exact this)).symm
      · rename_i hbx
        have hn1 : nrm (.mk k1 n1 ks1) = true := by simpa using hbx
        go_roundw
        case rel => exact ⟨j + 1, hlt, by go_num, hide (all_take hlt hall.out (by rw [H3.out]; exact hn1)), hB.keep hb3, hb.trans (hb3.mono hb.size)⟩
        case measure => simp [intOf]; omega
    · have hje : j = ks.length := by omega
      go_wp2_with (go_at_call 135; refine (sRedex_any k n ks A c _ (by omega) ha'.out (hr.below hb)).mono ?_; rintro e w3 ⟨rfl, hb3⟩)
      go_ret
      refine ⟨ret_bool ?_, hb.trans (hb3.mono hb.size)⟩
      have ha := hall.out
      rw [hje, List.take_length] at ha
      exact (nrm_of ha).symm

set_option maxRecDepth 100000 in
set_option maxHeartbeats 1000000 in
theorem sNormalTerm_any (k n : Int) (ks : List Tm) (A : Option Addr) (c : Nat) (w : World) (hM : sizes ks ≤ 1099511627775) (hr : Rd w A 0 ks) :
    Calls Try.prog 52 #[.agg #[.int .i64 k, .int .i64 n, .slice A ks.length c]] w fun e w' => e = .returned (.bool (validT (.mk k n ks) && nrm (.mk k n ks))) ∧ Below w.heap.size w w' := by
  cases hv : validT (.mk k n ks) with
  | false =>
    rw [Bool.false_and]
    go_enter Try.func52, Try.ntmps52
    go_wp2_with (go_at_call 50; refine (sTermValid_any k n ks A c _ hM (hr.alloc _)).mono ?_; rw [hv]; rintro e w1 ⟨rfl, hb1⟩; obtain ⟨hc, hf⟩ := bcell hb1)
    go_ret
    exact ⟨rfl, ((Below.refl _ _).alloc (Nat.le_refl _) _).trans (hb1.mono (by simp))⟩
  | true =>
    have hs : shape 30 (.mk k n ks) = true := by simp only [validT, Bool.and_eq_true] at hv; exact hv.1
    rw [Bool.true_and]
    go_enter Try.func52, Try.ntmps52
    go_wp2_with (first | (go_at_call 50; refine (sTermValid_any k n ks A c _ hM (hr.alloc _)).mono ?_; rw [hv]; rintro e w1 ⟨rfl, hb1⟩; obtain ⟨hc, hf⟩ := bcell hb1) | (go_at_call 99; refine (sIsNormal_any (sizes ks + 1) 30 k n ks A c _ (by omega) hs hM ((hr.alloc _).below hb1)).mono ?_; rintro e w2 ⟨rfl, hb2⟩))
    go_ret
    exact ⟨rfl, ((Below.refl _ _).alloc (Nat.le_refl _) _).trans ((hb1.trans (hb2.mono hb1.size)).mono (by simp))⟩
end Go.Proofs.Ytefifcmieicnlaa
