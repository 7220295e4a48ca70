/-
  Forms of a term, neutral terms, blocking variables: of both sides. No condition.
-/
import Derived.Test.YtefifcmieicnlaaBlock
namespace Go.Proofs.Ytefifcmieicnlaa
open Go.RowKit
set_option linter.unusedSimpArgs false
set_option linter.unusedVariables false

set_option maxRecDepth 100000 in
set_option maxHeartbeats 2000000 in
theorem iNormalTerm_any (k n : Int) (ks : List Tm) (A : Option Addr) (c : Nat) (w : World) (hM : sizes ks ≤ 1099511627775) (hr : Rd w A 0 ks) :
    Calls Try.prog 56 #[.agg #[.int .i64 k, .int .i64 n, .slice A ks.length c]] w fun e w' => e = .returned (.bool (validT (.mk k n ks) && nrm (.mk k n ks))) ∧ Below w.heap.size w w' := by
  have hlen := length_le_sizes ks
  cases hv : validT (.mk k n ks) with
  | false =>
    rw [Bool.false_and]
    go_enter Try.func56, Try.ntmps56
    go_wp2_with (go_at_call 51; refine (iTermValid_any k n ks A c _ hM (hr.alloc _)).mono ?_; rw [hv]; rintro e w1 ⟨rfl, hb1⟩; have hB1 := (Blk.new_ w 29 #[.int .i64 k, .int .i64 n, .slice A ks.length c] rfl).keep hb1; obtain ⟨p10, p11, p12⟩ := hB1.three; have hr1 := (hr.alloc (.cells #[.int .i64 k, .int .i64 n, .slice A ks.length c] 29)).below hb1; replace hb1 := ((Below.refl _ _).alloc (Nat.le_refl _) _).trans (hb1.mono (by simp)))
    go_ret
    exact ⟨rfl, hb1⟩
  | true =>
    have hs : shape 30 (.mk k n ks) = true := by simp only [validT, Bool.and_eq_true] at hv; exact hv.1
    rw [Bool.true_and]
    go_enter Try.func56, Try.ntmps56
    go_wp2_with (first | (go_at_call 51; refine (iTermValid_any k n ks A c _ hM (hr.alloc _)).mono ?_; rw [hv]; rintro e w1 ⟨rfl, hb1⟩; have hB1 := (Blk.new_ w 29 #[.int .i64 k, .int .i64 n, .slice A ks.length c] rfl).keep hb1; obtain ⟨p10, p11, p12⟩ := hB1.three; have hr1 := (hr.alloc (.cells #[.int .i64 k, .int .i64 n, .slice A ks.length c] 29)).below hb1; replace hb1 := ((Below.refl _ _).alloc (Nat.le_refl _) _).trans (hb1.mono (by simp))) | (go_at_call 101; refine (outer_any (sizes ks + 1) 30 k n ks A c _ (by omega) (by omega) hs hM hr1).mono ?_; rintro e w2 ⟨A2, m2, c2, rfl, hm2, hp2, hb2⟩; replace hb2 := hb1.trans (hb2.mono hb1.size)))
    go_ret
    exact ⟨ret_bool (by simp), hb2⟩

/-- a valid normal term -/
def nf (t : Tm) : Bool := validT t && nrm t
theorem nf_shape {t : Tm} (h : nf t = true) : shape 30 t = true := by
  simp only [nf, validT, Bool.and_eq_true] at h; exact h.1.1
/-- which canonical form a kind makes -/
def formC (k : Int) : Int :=
  if k = 2 ∨ k = 3 ∨ k = 6 ∨ k = 10 ∨ k = 13 then 1 else if k = 4 then 2 else if k = 7 ∨ k = 8 then 3 else if k = 11 then 4 else if k = 14 then 5 else 0
/-- the kinds of canonical forms -/
def isForm (k : Int) : Prop := k = 2 ∨ k = 3 ∨ k = 6 ∨ k = 10 ∨ k = 13 ∨ k = 4 ∨ k = 7 ∨ k = 8 ∨ k = 11 ∨ k = 14
theorem formC_no {k : Int} (h : ¬ isForm k) : formC k = 0 := by
  unfold isForm at h; unfold formC; rw [if_neg (by omega), if_neg (by omega), if_neg (by omega), if_neg (by omega), if_neg (by omega)]
theorem formC_lt (k : Int) : formC k < 6 := by unfold formC; repeat' split <;> omega
theorem blk_form {f : Nat} {k n : Int} {ks : List Tm} (h : isForm k) : blk f (.mk k n ks) = none := by
  unfold isForm at h
  cases f with
  | zero => rfl
  | succ f => exact blk_no (by omega) (by rw [main_no (by omega)]; decide)
/-- what FormOf answers -/
def formOf (t : Tm) : Int := if nf t = true then (if (blk 30 t).isSome = true then 6 else formC t.k) else 0
/-- what BlockingVar answers -/
def bvar (t : Tm) : Option Int := if nf t = true then blk 30 t else none

set_option maxRecDepth 100000 in
set_option maxHeartbeats 2000000 in
theorem sForm_any (k : Int) (w : World) : Calls Try.prog 55 #[.int .i64 k] w fun e w' => e = .returned (.int .i64 (formC k)) ∧ Below w.heap.size w w' := by
  by_cases hk : isForm k
  · rcases hk with rfl | rfl | rfl | rfl | rfl | rfl | rfl | rfl | rfl | rfl
    all_goals
      go_enter Try.func55, Try.ntmps55
      go_wp2_with fail
      go_ret
      exact ⟨rfl, Below.refl _ _⟩
  · have h0 := formC_no hk
    unfold isForm at hk
    have n2 := k_ne (k := k) (m := 2) (by omega)
    have n3 := k_ne (k := k) (m := 3) (by omega)
    have n6 := k_ne (k := k) (m := 6) (by omega)
    have n10 := k_ne (k := k) (m := 10) (by omega)
    have n13 := k_ne (k := k) (m := 13) (by omega)
    have n4 := k_ne (k := k) (m := 4) (by omega)
    have n7 := k_ne (k := k) (m := 7) (by omega)
    have n8 := k_ne (k := k) (m := 8) (by omega)
    have n11 := k_ne (k := k) (m := 11) (by omega)
    have n14 := k_ne (k := k) (m := 14) (by omega)
    clear hk
    rw [h0]
    go_enter Try.func55, Try.ntmps55
    go_wp2_with fail
    go_ret
    exact ⟨rfl, Below.refl _ _⟩

set_option maxRecDepth 100000 in
set_option maxHeartbeats 2000000 in
theorem sFormOf_any (k n : Int) (ks : List Tm) (A : Option Addr) (c : Nat) (w : World) (hM : sizes ks ≤ 1099511627775) (hr : Rd w A 0 ks) :
    Calls Try.prog 21 #[.agg #[.int .i64 k, .int .i64 n, .slice A ks.length c]] w fun e w' => e = .returned (.int .i64 (formOf (.mk k n ks))) ∧ Below w.heap.size w w' := by
  have hlen := length_le_sizes ks
  cases hnf : nf (.mk k n ks) with
  | false =>
    have hz : formOf (.mk k n ks) = 0 := by simp [formOf, hnf]
    have hnf' : (validT (.mk k n ks) && nrm (.mk k n ks)) = false := hnf
    rw [hz]
    go_enter Try.func21, Try.ntmps21
    go_wp2_with (go_at_call 52; refine (sNormalTerm_any k n ks A c _ hM (hr.alloc _)).mono ?_; rw [hnf']; rintro e w1 ⟨rfl, hb1⟩; have hB1 := (Blk.new_ w 29 #[.int .i64 k, .int .i64 n, .slice A ks.length c] rfl).keep hb1; obtain ⟨p10, p11, p12⟩ := hB1.three; have hr1 := (hr.alloc (.cells #[.int .i64 k, .int .i64 n, .slice A ks.length c] 29)).below hb1; replace hb1 := ((Below.refl _ _).alloc (Nat.le_refl _) _).trans (hb1.mono (by simp)))
    go_ret
    exact ⟨rfl, hb1⟩
  | true =>
    have hs := nf_shape hnf
    have hnf' : (validT (.mk k n ks) && nrm (.mk k n ks)) = true := hnf
    cases hb : blk 30 (.mk k n ks) with
    | none =>
      have hz : formOf (.mk k n ks) = formC k := by simp [formOf, hnf, hb, Tm.k]
      have hi : (blk 30 (.mk k n ks)).isSome = false := by rw [hb]; rfl
      have hg : (blk 30 (.mk k n ks)).getD 0 = 0 := by rw [hb]; rfl
      rw [hz]
      clear hb hz hnf
      go_enter Try.func21, Try.ntmps21
      go_wp2_with (first | (go_at_call 52; refine (sNormalTerm_any k n ks A c _ hM (hr.alloc _)).mono ?_; rw [hnf']; rintro e w1 ⟨rfl, hb1⟩; have hB1 := (Blk.new_ w 29 #[.int .i64 k, .int .i64 n, .slice A ks.length c] rfl).keep hb1; obtain ⟨p10, p11, p12⟩ := hB1.three; have hr1 := (hr.alloc (.cells #[.int .i64 k, .int .i64 n, .slice A ks.length c] 29)).below hb1; replace hb1 := ((Below.refl _ _).alloc (Nat.le_refl _) _).trans (hb1.mono (by simp))) | (go_at_call 53; refine (sBlock_any 30 k n ks A c _ (by omega) hs hr1).mono ?_; rw [hi, hg]; rintro e w2 ⟨rfl, hb2⟩; have hB2 := hB1.keep hb2; obtain ⟨p20, p21, p22⟩ := hB2.three; replace hb2 := hb1.trans (hb2.mono hb1.size)) | (go_at_call 55; refine (sForm_any k _).mono ?_; rintro e w3 ⟨rfl, hb3⟩))
      go_ret
      exact ⟨rfl, hb2.trans (hb3.mono hb2.size)⟩
    | some v =>
      have hz : formOf (.mk k n ks) = 6 := by simp [formOf, hnf, hb]
      have hi : (blk 30 (.mk k n ks)).isSome = true := by rw [hb]; rfl
      have hg : (blk 30 (.mk k n ks)).getD 0 = v := by rw [hb]; rfl
      rw [hz]
      clear hb hz hnf
      go_enter Try.func21, Try.ntmps21
      go_wp2_with (first | (go_at_call 52; refine (sNormalTerm_any k n ks A c _ hM (hr.alloc _)).mono ?_; rw [hnf']; rintro e w1 ⟨rfl, hb1⟩; have hB1 := (Blk.new_ w 29 #[.int .i64 k, .int .i64 n, .slice A ks.length c] rfl).keep hb1; obtain ⟨p10, p11, p12⟩ := hB1.three; have hr1 := (hr.alloc (.cells #[.int .i64 k, .int .i64 n, .slice A ks.length c] 29)).below hb1; replace hb1 := ((Below.refl _ _).alloc (Nat.le_refl _) _).trans (hb1.mono (by simp))) | (go_at_call 53; refine (sBlock_any 30 k n ks A c _ (by omega) hs hr1).mono ?_; rw [hi, hg]; rintro e w2 ⟨rfl, hb2⟩; have hB2 := hB1.keep hb2; obtain ⟨p20, p21, p22⟩ := hB2.three; replace hb2 := hb1.trans (hb2.mono hb1.size)))
      go_ret
      exact ⟨rfl, hb2⟩

set_option maxRecDepth 100000 in
set_option maxHeartbeats 2000000 in
theorem iFormOf_any (k n : Int) (ks : List Tm) (A : Option Addr) (c : Nat) (w : World) (hM : sizes ks ≤ 1099511627775) (hr : Rd w A 0 ks) :
    Calls Try.prog 22 #[.agg #[.int .i64 k, .int .i64 n, .slice A ks.length c]] w fun e w' => e = .returned (.int .i64 (formOf (.mk k n ks))) ∧ Below w.heap.size w w' := by
  have hlen := length_le_sizes ks
  cases hnf : nf (.mk k n ks) with
  | false =>
    have hz : formOf (.mk k n ks) = 0 := by simp [formOf, hnf]
    have hnf' : (validT (.mk k n ks) && nrm (.mk k n ks)) = false := hnf
    rw [hz]
    go_enter Try.func22, Try.ntmps22
    go_wp2_with (go_at_call 56; refine (iNormalTerm_any k n ks A c _ hM (hr.alloc _)).mono ?_; rw [hnf']; rintro e w1 ⟨rfl, hb1⟩; have hB1 := (Blk.new_ w 29 #[.int .i64 k, .int .i64 n, .slice A ks.length c] rfl).keep hb1; obtain ⟨p10, p11, p12⟩ := hB1.three; have hr1 := (hr.alloc (.cells #[.int .i64 k, .int .i64 n, .slice A ks.length c] 29)).below hb1; replace hb1 := ((Below.refl _ _).alloc (Nat.le_refl _) _).trans (hb1.mono (by simp)))
    go_ret
    exact ⟨rfl, hb1⟩
  | true =>
    have hs := nf_shape hnf
    have hnf' : (validT (.mk k n ks) && nrm (.mk k n ks)) = true := hnf
    by_cases hk : isForm k
    · have hz : formOf (.mk k n ks) = formC k := by simp [formOf, hnf, blk_form hk, Tm.k]
      rw [hz]
      clear hz hnf
      rcases hk with rfl | rfl | rfl | rfl | rfl | rfl | rfl | rfl | rfl | rfl
      all_goals
        go_enter Try.func22, Try.ntmps22
        go_wp2_with (go_at_call 56; refine (iNormalTerm_any _ n ks A c _ hM (hr.alloc _)).mono ?_; rw [hnf']; rintro e w1 ⟨rfl, hb1⟩; have hB1 := (Blk.new_ w 29 #[.int .i64 _, .int .i64 n, .slice A ks.length c] rfl).keep hb1; obtain ⟨p10, p11, p12⟩ := hB1.three; have hr1 := (hr.alloc (.cells #[.int .i64 _, .int .i64 n, .slice A ks.length c] 29)).below hb1; replace hb1 := ((Below.refl _ _).alloc (Nat.le_refl _) _).trans (hb1.mono (by simp)))
        go_ret
        exact ⟨rfl, hb1⟩
    · have hz : formOf (.mk k n ks) = if (blk 30 (.mk k n ks)).isSome = true then 6 else 0 := by simp [formOf, hnf, formC_no hk, Tm.k]
      unfold isForm at hk
      have n2 := k_ne (k := k) (m := 2) (by omega)
      have n3 := k_ne (k := k) (m := 3) (by omega)
      have n6 := k_ne (k := k) (m := 6) (by omega)
      have n10 := k_ne (k := k) (m := 10) (by omega)
      have n13 := k_ne (k := k) (m := 13) (by omega)
      have n4 := k_ne (k := k) (m := 4) (by omega)
      have n7 := k_ne (k := k) (m := 7) (by omega)
      have n8 := k_ne (k := k) (m := 8) (by omega)
      have n11 := k_ne (k := k) (m := 11) (by omega)
      have n14 := k_ne (k := k) (m := 14) (by omega)
      clear hk
      cases hb : blk 30 (.mk k n ks) with
      | none =>
        have hi : (blk 30 (.mk k n ks)).isSome = false := by rw [hb]; rfl
        have hg : (blk 30 (.mk k n ks)).getD 0 = 0 := by rw [hb]; rfl
        rw [hz, hi]
        clear hb hz hnf
        go_enter Try.func22, Try.ntmps22
        go_wp2_with (first | (go_at_call 56; refine (iNormalTerm_any k n ks A c _ hM (hr.alloc _)).mono ?_; rw [hnf']; rintro e w1 ⟨rfl, hb1⟩; have hB1 := (Blk.new_ w 29 #[.int .i64 k, .int .i64 n, .slice A ks.length c] rfl).keep hb1; obtain ⟨p10, p11, p12⟩ := hB1.three; have hr1 := (hr.alloc (.cells #[.int .i64 k, .int .i64 n, .slice A ks.length c] 29)).below hb1; replace hb1 := ((Below.refl _ _).alloc (Nat.le_refl _) _).trans (hb1.mono (by simp))) | (go_at_call 54; refine (iBlock_any 30 k n ks A c _ (by omega) hs hr1).mono ?_; rw [hi, hg]; rintro e w2 ⟨rfl, hb2⟩; have hB2 := hB1.keep hb2; obtain ⟨p20, p21, p22⟩ := hB2.three; replace hb2 := hb1.trans (hb2.mono hb1.size)))
        go_ret
        exact ⟨rfl, hb2⟩
      | some v =>
        have hi : (blk 30 (.mk k n ks)).isSome = true := by rw [hb]; rfl
        have hg : (blk 30 (.mk k n ks)).getD 0 = v := by rw [hb]; rfl
        rw [hz, hi]
        clear hb hz hnf
        go_enter Try.func22, Try.ntmps22
        go_wp2_with (first | (go_at_call 56; refine (iNormalTerm_any k n ks A c _ hM (hr.alloc _)).mono ?_; rw [hnf']; rintro e w1 ⟨rfl, hb1⟩; have hB1 := (Blk.new_ w 29 #[.int .i64 k, .int .i64 n, .slice A ks.length c] rfl).keep hb1; obtain ⟨p10, p11, p12⟩ := hB1.three; have hr1 := (hr.alloc (.cells #[.int .i64 k, .int .i64 n, .slice A ks.length c] 29)).below hb1; replace hb1 := ((Below.refl _ _).alloc (Nat.le_refl _) _).trans (hb1.mono (by simp))) | (go_at_call 54; refine (iBlock_any 30 k n ks A c _ (by omega) hs hr1).mono ?_; rw [hi, hg]; rintro e w2 ⟨rfl, hb2⟩; have hB2 := hB1.keep hb2; obtain ⟨p20, p21, p22⟩ := hB2.three; replace hb2 := hb1.trans (hb2.mono hb1.size)))
        go_ret
        exact ⟨rfl, hb2⟩

set_option maxRecDepth 100000 in
set_option maxHeartbeats 2000000 in
theorem sNeutral_any (k n : Int) (ks : List Tm) (A : Option Addr) (c : Nat) (w : World) (hM : sizes ks ≤ 1099511627775) (hr : Rd w A 0 ks) :
    Calls Try.prog 23 #[.agg #[.int .i64 k, .int .i64 n, .slice A ks.length c]] w fun e w' => e = .returned (.bool (formOf (.mk k n ks) == 6)) ∧ Below w.heap.size w w' := by
  have hlen := length_le_sizes ks
  go_enter Try.func23, Try.ntmps23
  go_wp2_with (go_at_call 21; refine (sFormOf_any k n ks A c _ hM (hr.alloc _)).mono ?_; rintro e w1 ⟨rfl, hb1⟩; have hB1 := (Blk.new_ w 29 #[.int .i64 k, .int .i64 n, .slice A ks.length c] rfl).keep hb1; obtain ⟨p10, p11, p12⟩ := hB1.three; have hr1 := (hr.alloc (.cells #[.int .i64 k, .int .i64 n, .slice A ks.length c] 29)).below hb1; replace hb1 := ((Below.refl _ _).alloc (Nat.le_refl _) _).trans (hb1.mono (by simp)))
  go_ret
  exact ⟨rfl, hb1⟩

set_option maxRecDepth 100000 in
set_option maxHeartbeats 2000000 in
theorem iNeutral_any (k n : Int) (ks : List Tm) (A : Option Addr) (c : Nat) (w : World) (hM : sizes ks ≤ 1099511627775) (hr : Rd w A 0 ks) :
    Calls Try.prog 24 #[.agg #[.int .i64 k, .int .i64 n, .slice A ks.length c]] w fun e w' => e = .returned (.bool (formOf (.mk k n ks) == 6)) ∧ Below w.heap.size w w' := by
  have hlen := length_le_sizes ks
  go_enter Try.func24, Try.ntmps24
  go_wp2_with (go_at_call 22; refine (iFormOf_any k n ks A c _ hM (hr.alloc _)).mono ?_; rintro e w1 ⟨rfl, hb1⟩; have hB1 := (Blk.new_ w 29 #[.int .i64 k, .int .i64 n, .slice A ks.length c] rfl).keep hb1; obtain ⟨p10, p11, p12⟩ := hB1.three; have hr1 := (hr.alloc (.cells #[.int .i64 k, .int .i64 n, .slice A ks.length c] 29)).below hb1; replace hb1 := ((Below.refl _ _).alloc (Nat.le_refl _) _).trans (hb1.mono (by simp)))
  go_ret
  exact ⟨rfl, hb1⟩

set_option maxRecDepth 100000 in
set_option maxHeartbeats 2000000 in
theorem sBlockingVar_any (k n : Int) (ks : List Tm) (A : Option Addr) (c : Nat) (w : World) (hM : sizes ks ≤ 1099511627775) (hr : Rd w A 0 ks) :
    Calls Try.prog 19 #[.agg #[.int .i64 k, .int .i64 n, .slice A ks.length c]] w fun e w' => e = .returned (.tuple #[.int .i64 ((bvar (.mk k n ks)).getD 0), .bool (bvar (.mk k n ks)).isSome]) ∧ Below w.heap.size w w' := by
  have hlen := length_le_sizes ks
  cases hnf : nf (.mk k n ks) with
  | false =>
    have hz : bvar (.mk k n ks) = none := by simp [bvar, hnf]
    have hnf' : (validT (.mk k n ks) && nrm (.mk k n ks)) = false := hnf
    rw [hz]
    go_enter Try.func19, Try.ntmps19
    go_wp2_with (go_at_call 52; refine (sNormalTerm_any k n ks A c _ hM (hr.alloc _)).mono ?_; rw [hnf']; rintro e w1 ⟨rfl, hb1⟩; have hB1 := (Blk.new_ w 29 #[.int .i64 k, .int .i64 n, .slice A ks.length c] rfl).keep hb1; obtain ⟨p10, p11, p12⟩ := hB1.three; have hr1 := (hr.alloc (.cells #[.int .i64 k, .int .i64 n, .slice A ks.length c] 29)).below hb1; replace hb1 := ((Below.refl _ _).alloc (Nat.le_refl _) _).trans (hb1.mono (by simp)))
    go_ret2
    exact ⟨rfl, hb1⟩
  | true =>
    have hs := nf_shape hnf
    have hnf' : (validT (.mk k n ks) && nrm (.mk k n ks)) = true := hnf
    have hz : bvar (.mk k n ks) = blk 30 (.mk k n ks) := by simp [bvar, hnf]
    rw [hz]
    clear hz hnf
    go_enter Try.func19, Try.ntmps19
    go_wp2_with (first | (go_at_call 52; refine (sNormalTerm_any k n ks A c _ hM (hr.alloc _)).mono ?_; rw [hnf']; rintro e w1 ⟨rfl, hb1⟩; have hB1 := (Blk.new_ w 29 #[.int .i64 k, .int .i64 n, .slice A ks.length c] rfl).keep hb1; obtain ⟨p10, p11, p12⟩ := hB1.three; have hr1 := (hr.alloc (.cells #[.int .i64 k, .int .i64 n, .slice A ks.length c] 29)).below hb1; replace hb1 := ((Below.refl _ _).alloc (Nat.le_refl _) _).trans (hb1.mono (by simp))) | (go_at_call 53; refine (sBlock_any 30 k n ks A c _ (by omega) hs hr1).mono ?_; rintro e w2 ⟨rfl, hb2⟩; have hB2 := hB1.keep hb2; obtain ⟨p20, p21, p22⟩ := hB2.three; replace hb2 := hb1.trans (hb2.mono hb1.size)))
    go_ret2
    exact ⟨rfl, hb2⟩

set_option maxRecDepth 100000 in
set_option maxHeartbeats 2000000 in
theorem iBlockingVar_any (k n : Int) (ks : List Tm) (A : Option Addr) (c : Nat) (w : World) (hM : sizes ks ≤ 1099511627775) (hr : Rd w A 0 ks) :
    Calls Try.prog 20 #[.agg #[.int .i64 k, .int .i64 n, .slice A ks.length c]] w fun e w' => e = .returned (.tuple #[.int .i64 ((bvar (.mk k n ks)).getD 0), .bool (bvar (.mk k n ks)).isSome]) ∧ Below w.heap.size w w' := by
  have hlen := length_le_sizes ks
  cases h6 : formOf (.mk k n ks) == 6 with
  | false =>
    have hz : bvar (.mk k n ks) = none := by
      cases hnf : nf (.mk k n ks) with
      | false => simp [bvar, hnf]
      | true =>
        cases hb : blk 30 (.mk k n ks) with
        | none => simp [bvar, hnf, hb]
        | some v => simp [formOf, hnf, hb] at h6
    rw [hz]
    clear hz
    go_enter Try.func20, Try.ntmps20
    go_wp2_with (go_at_call 24; refine (iNeutral_any k n ks A c _ hM (hr.alloc _)).mono ?_; rw [h6]; rintro e w1 ⟨rfl, hb1⟩; have hB1 := (Blk.new_ w 29 #[.int .i64 k, .int .i64 n, .slice A ks.length c] rfl).keep hb1; obtain ⟨p10, p11, p12⟩ := hB1.three; have hr1 := (hr.alloc (.cells #[.int .i64 k, .int .i64 n, .slice A ks.length c] 29)).below hb1; replace hb1 := ((Below.refl _ _).alloc (Nat.le_refl _) _).trans (hb1.mono (by simp)))
    go_ret2
    exact ⟨rfl, hb1⟩
  | true =>
    have hnf : nf (.mk k n ks) = true := by
      cases hnf : nf (.mk k n ks) with
      | false => simp [formOf, hnf] at h6
      | true => rfl
    have hs := nf_shape hnf
    have hz : bvar (.mk k n ks) = blk 30 (.mk k n ks) := by simp [bvar, hnf]
    rw [hz]
    clear hz hnf
    go_enter Try.func20, Try.ntmps20
    go_wp2_with (first | (go_at_call 24; refine (iNeutral_any k n ks A c _ hM (hr.alloc _)).mono ?_; rw [h6]; rintro e w1 ⟨rfl, hb1⟩; have hB1 := (Blk.new_ w 29 #[.int .i64 k, .int .i64 n, .slice A ks.length c] rfl).keep hb1; obtain ⟨p10, p11, p12⟩ := hB1.three; have hr1 := (hr.alloc (.cells #[.int .i64 k, .int .i64 n, .slice A ks.length c] 29)).below hb1; replace hb1 := ((Below.refl _ _).alloc (Nat.le_refl _) _).trans (hb1.mono (by simp))) | (go_at_call 54; refine (iBlock_any 30 k n ks A c _ (by omega) hs hr1).mono ?_; rintro e w2 ⟨rfl, hb2⟩; have hB2 := hB1.keep hb2; obtain ⟨p20, p21, p22⟩ := hB2.three; replace hb2 := hb1.trans (hb2.mono hb1.size)))
    go_ret2
    exact ⟨rfl, hb2⟩
end Go.Proofs.Ytefifcmieicnlaa
