/-
  Binders: which operand lies under one: of both sides. No condition.
-/
import Derived.Test.YtefifcmieicnlaaKind
namespace Go.Proofs.Ytefifcmieicnlaa
open Go.RowKit
set_option linter.unusedSimpArgs false
set_option linter.unusedVariables false

/-- kinds that bind in their second operand -/
def binds (k : Int) : Bool := k == 3 || k == 4 || k == 13
/-- how many variables the operand at a place lies under -/
def under (k : Int) (i : Int) : Int := if i = 1 ∧ binds k = true then 1 else 0
theorem under_le (k i : Int) : 0 ≤ under k i ∧ under k i ≤ 1 := by unfold under; split <;> omega

set_option maxRecDepth 100000 in
set_option maxHeartbeats 1000000 in
theorem isBinder_any (k : Int) (w : World) : Calls Try.prog 138 #[.int .i64 k] w fun e w' => e = .returned (.bool (binds k)) ∧ w = w' := by
  by_cases h3 : k = 3
  · subst h3; go_enter Try.func138, Try.ntmps138; go_wp2_with fail; go_ret; exact ⟨rfl, rfl⟩
  by_cases h4 : k = 4
  · subst h4; go_enter Try.func138, Try.ntmps138; go_wp2_with fail; go_ret; exact ⟨rfl, rfl⟩
  have e3 : (k == 3) = false := by simpa using h3
  have e4 : (k == 4) = false := by simpa using h4
  have hz : binds k = (k == 13) := by simp [binds, e3, e4]
  rw [hz]
  go_enter Try.func138, Try.ntmps138
  go_wp2_with fail
  go_ret
  exact ⟨ret_bool (by simp), rfl⟩

set_option maxRecDepth 100000 in
set_option maxHeartbeats 1000000 in
theorem iUnder_any (k i : Int) (w : World) : Calls Try.prog 113 #[.int .i64 k, .int .i64 i] w fun e w' => e = .returned (.int .i64 (under k i)) ∧ w = w' := by
  by_cases hi : i = 1
  · subst hi
    cases hb : binds k with
    | false =>
      have hz : under k 1 = 0 := by simp [under, hb]
      rw [hz]
      go_enter Try.func113, Try.ntmps113
      go_wp2_with (go_at_call 138; refine (isBinder_any _ _).mono ?_; rw [hb]; rintro e w1 ⟨rfl, rfl⟩)
      go_ret
      exact ⟨rfl, rfl⟩
    | true =>
      have hz : under k 1 = 1 := by simp [under, hb]
      rw [hz]
      go_enter Try.func113, Try.ntmps113
      go_wp2_with (go_at_call 138; refine (isBinder_any _ _).mono ?_; rw [hb]; rintro e w1 ⟨rfl, rfl⟩)
      go_ret
      exact ⟨rfl, rfl⟩
  · have e1 : (i == 1) = false := by simpa using hi
    have hz : under k i = 0 := by simp [under, hi]
    clear hi
    rw [hz]
    go_enter Try.func113, Try.ntmps113
    go_wp2_with fail
    go_ret
    exact ⟨rfl, rfl⟩

set_option maxRecDepth 100000 in
set_option maxHeartbeats 1000000 in
theorem sBinds_any (k i : Int) (w : World) : Calls Try.prog 137 #[.int .i64 k, .int .i64 i] w fun e w' => e = .returned (.bool (i == 1 && binds k)) ∧ w = w' := by
  by_cases hi : i = 1
  · subst hi
    by_cases h3 : k = 3
    · subst h3; go_enter Try.func137, Try.ntmps137; go_wp2_with fail; go_ret; exact ⟨rfl, rfl⟩
    by_cases h4 : k = 4
    · subst h4; go_enter Try.func137, Try.ntmps137; go_wp2_with fail; go_ret; exact ⟨rfl, rfl⟩
    have e3 : (k == 3) = false := by simpa using h3
    have e4 : (k == 4) = false := by simpa using h4
    have hz : ((1 : Int) == 1 && binds k) = (k == 13) := by simp [binds, e3, e4]
    rw [hz]
    go_enter Try.func137, Try.ntmps137
    go_wp2_with fail
    go_ret
    exact ⟨ret_bool (by simp), rfl⟩
  · have e1 : (i == 1) = false := by simpa using hi
    rw [e1, Bool.false_and]
    clear hi
    go_enter Try.func137, Try.ntmps137
    go_wp2_with fail
    go_ret
    exact ⟨rfl, rfl⟩

set_option maxRecDepth 100000 in
set_option maxHeartbeats 1000000 in
theorem sUnder_any (k i : Int) (w : World) : Calls Try.prog 105 #[.int .i64 k, .int .i64 i] w fun e w' => e = .returned (.int .i64 (under k i)) ∧ w = w' := by
  cases hb : (i == 1 && binds k) with
  | false =>
    have hz : under k i = 0 := by
      unfold under; rw [if_neg]; rintro ⟨h1, h2⟩; subst h1; simp [h2] at hb
    rw [hz]
    go_enter Try.func105, Try.ntmps105
    go_wp2_with (go_at_call 137; refine (sBinds_any _ _ _).mono ?_; rw [hb]; rintro e w1 ⟨rfl, rfl⟩)
    go_ret
    exact ⟨rfl, rfl⟩
  | true =>
    have hz : under k i = 1 := by
      unfold under; rw [if_pos]; simpa using hb
    rw [hz]
    go_enter Try.func105, Try.ntmps105
    go_wp2_with (go_at_call 137; refine (sBinds_any _ _ _).mono ?_; rw [hb]; rintro e w1 ⟨rfl, rfl⟩)
    go_ret
    exact ⟨rfl, rfl⟩
end Go.Proofs.Ytefifcmieicnlaa
