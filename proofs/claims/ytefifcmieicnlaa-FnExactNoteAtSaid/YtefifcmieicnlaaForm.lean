/-
  TypeForm of both sides: what it computes. No condition.
-/
import Derived.Test.YtefifcmieicnlaaScan
namespace Go.Proofs.Ytefifcmieicnlaa
open Go.RowKit
set_option linter.unusedSimpArgs false
set_option linter.unusedVariables false

set_option maxRecDepth 100000 in
set_option maxHeartbeats 1000000 in
theorem iTermValid_any (k n : Int) (ks : List Tm) (A : Option Addr) (c : Nat) (w : World) (hM : sizes ks ≤ 1099511627775) (hr : Rd w A 0 ks) :
    Calls Try.prog 51 #[.agg #[.int .i64 k, .int .i64 n, .slice A ks.length c]] w fun e w' => e = .returned (.bool (validT (.mk k n ks))) ∧ Below w.heap.size w w' := by
  have hlen := length_le_sizes ks
  have hrp : RdP (· ≠ w.heap.size + 1) w A 0 ks := hr.rdp.mono (fun b hb => by have hb : b < w.heap.size := hb; show b ≠ _; omega)
  go_enter Try.func51, Try.ntmps51
  go_wp2_with (go_at_call 98; refine (scan_any (sizes ks + 1) k n ks A c 1 30 0 (w.heap.size + 1) _ (by omega) (by omega) (by omega) (by omega) (by omega) (by omega) (by omega) (Blk.new_ _ _ _ (by simp)) ((hrp.alloc _).alloc _)).mono ?_; rintro e w3 ⟨b, cx, rfl, hbe, hcx, hx0, hx1, hG3, hg3⟩; clear hcx hG3)
  go_ret
  refine ⟨ret_bool ?_, (((Below.refl _ _).alloc (Nat.le_refl _) _).alloc (by simp) _).grown hg3 (by simp; omega) (fun k e => by cases e; omega)⟩
  show scanB 30 0 k n ks = _
  unfold scanB validT
  rw [Tm.size]
  by_cases h : sizes ks + 1 ≤ 400
  · rw [decide_eq_true h, decide_eq_true (by omega)]
  · rw [decide_eq_false h, decide_eq_false (by omega)]

/-- which form of type a kind is -/
def formK (k : Int) : Int := if k = 2 then 1 else if k = 3 then 2 else if k = 6 then 3 else if k = 10 then 4 else if k = 13 then 5 else 0
/-- what TypeForm answers -/
def formT (t : Tm) : Int := if validT t = true then formK t.k else 0

set_option maxRecDepth 100000 in
set_option maxHeartbeats 2000000 in
theorem sTypeForm_any (k n : Int) (ks : List Tm) (A : Option Addr) (c : Nat) (w : World) (hM : sizes ks ≤ 1099511627775) (hr : Rd w A 0 ks) :
    Calls Try.prog 15 #[.agg #[.int .i64 k, .int .i64 n, .slice A ks.length c]] w fun e w' => e = .returned (.int .i64 (formT (.mk k n ks))) ∧ Below w.heap.size w w' := by
  cases hv : validT (.mk k n ks) with
  | false =>
    have hz : formT (.mk k n ks) = 0 := by simp [formT, hv]
    rw [hz]
    go_enter Try.func15, Try.ntmps15
    go_wp2_with (go_at_call 50; refine (sTermValid_any k n ks A c _ hM (hr.alloc _)).mono ?_; rw [hv]; rintro e w1 ⟨rfl, hb1⟩; obtain ⟨hc, hf⟩ := bcell hb1)
    go_ret
    exact ⟨rfl, ((Below.refl _ _).alloc (Nat.le_refl _) _).trans (hb1.mono (by simp))⟩
  | true =>
    have hz : formT (.mk k n ks) = formK k := by simp [formT, hv, Tm.k]
    rw [hz]
    have done : ∀ (w1 : World), Below (w.heap.size + 1) (w.alloc (.cells #[.int .i64 k, .int .i64 n, .slice A ks.length c] 29)) w1 → Below w.heap.size w w1 :=
      fun w1 hb1 => ((Below.refl _ _).alloc (Nat.le_refl _) _).trans (hb1.mono (by simp))
    unfold formK
    repeat' split
    all_goals
      rename_i hk
      first | subst hk | skip
      go_enter Try.func15, Try.ntmps15
      go_wp2_with (go_at_call 50; refine (sTermValid_any _ n ks A c _ hM (hr.alloc _)).mono ?_; rw [hv]; rintro e w1 ⟨rfl, hb1⟩; have hb1' := done _ (hb1.mono (by simp)); obtain ⟨hc, hf⟩ := bcell hb1)
      go_ret
      exact ⟨rfl, hb1'⟩

set_option maxRecDepth 100000 in
set_option maxHeartbeats 2000000 in
theorem iTypeForm_any (k n : Int) (ks : List Tm) (A : Option Addr) (c : Nat) (w : World) (hM : sizes ks ≤ 1099511627775) (hr : Rd w A 0 ks) :
    Calls Try.prog 17 #[.agg #[.int .i64 k, .int .i64 n, .slice A ks.length c]] w fun e w' => e = .returned (.int .i64 (formT (.mk k n ks))) ∧ Below w.heap.size w w' := by
  cases hv : validT (.mk k n ks) with
  | false =>
    have hz : formT (.mk k n ks) = 0 := by simp [formT, hv]
    rw [hz]
    go_enter Try.func17, Try.ntmps17
    go_wp2_with (go_at_call 51; refine (iTermValid_any k n ks A c _ hM (hr.alloc _)).mono ?_; rw [hv]; rintro e w1 ⟨rfl, hb1⟩; obtain ⟨hc, hf⟩ := bcell hb1)
    go_ret
    exact ⟨rfl, ((Below.refl _ _).alloc (Nat.le_refl _) _).trans (hb1.mono (by simp))⟩
  | true =>
    have hz : formT (.mk k n ks) = formK k := by simp [formT, hv, Tm.k]
    rw [hz]
    have done : ∀ (w1 : World), Below (w.heap.size + 1) (w.alloc (.cells #[.int .i64 k, .int .i64 n, .slice A ks.length c] 29)) w1 → Below w.heap.size w w1 :=
      fun w1 hb1 => ((Below.refl _ _).alloc (Nat.le_refl _) _).trans (hb1.mono (by simp))
    unfold formK
    repeat' split
    all_goals
      rename_i hk
      first | subst hk | skip
      go_enter Try.func17, Try.ntmps17
      go_wp2_with (go_at_call 51; refine (iTermValid_any _ n ks A c _ hM (hr.alloc _)).mono ?_; rw [hv]; rintro e w1 ⟨rfl, hb1⟩; have hb1' := done _ (hb1.mono (by simp)); obtain ⟨hc, hf⟩ := bcell hb1)
      go_ret
      exact ⟨rfl, hb1'⟩
end Go.Proofs.Ytefifcmieicnlaa
