/-
  Kinds of terms: what the functions on them compute. No condition.
-/
import Derived.Test.YtefifcmieicnlaaApp
import Derived.Test.YtefifcmieicnlaaReg
import Derived.WalkSpells
import Derived.WalkLawsBesides
namespace Go.Proofs.Ytefifcmieicnlaa
open Go.RowKit
set_option linter.unusedSimpArgs false
set_option linter.unusedVariables false

/-- how many operands a kind has -/
def arity (k : Int) : Int :=
  if k = 1 then 0 else if k = 2 then 0 else if k = 6 then 0 else if k = 7 then 0 else if k = 8 then 1 else if k = 11 then 1 else if k = 15 then 1 else if k = 16 then 1 else
  if k = 3 then 2 else if k = 4 then 2 else if k = 5 then 2 else if k = 13 then 2 else if k = 10 then 3 else if k = 12 then 3 else if k = 14 then 3 else if k = 9 then 4 else -1
/-- the greatest N of a kind -/
def mostN (k : Int) : Int := if k = 1 then 20 else if k = 2 then 3 else 0

set_option maxHeartbeats 400000 in
theorem within_any (n lo hi : Int) (w : World) :
    Calls Try.prog 106 #[.int .i64 n, .int .i64 lo, .int .i64 hi] w fun e w' => e = .returned (.bool (decide (lo ≤ n) && decide (n ≤ hi))) ∧ w = w' := by
  go_enter Try.func106, Try.ntmps106
  go_wp2
  all_goals go_ret
  all_goals refine ⟨ret_bool ?_, rfl⟩
  · have h : lo ≤ n := by assumption
    simp [h]
  · have h : n < lo := by assumption
    simp [show ¬ lo ≤ n from by omega]

set_option maxRecDepth 100000 in
set_option maxHeartbeats 1000000 in
theorem l1Kids_any (k : Int) (w : World) : Calls Try.prog 131 #[.int .i64 k] w fun e w' => e = .returned (.int .i64 (arity k)) ∧ w = w' := by
  go_enter Try.func131, Try.ntmps131
  go_wp2
  all_goals go_ret
  all_goals refine ⟨ret_int ?_, rfl⟩
  all_goals simp_all [arity]

set_option maxHeartbeats 400000 in
theorem l1Most_any (k : Int) (w : World) : Calls Try.prog 132 #[.int .i64 k] w fun e w' => e = .returned (.int .i64 (mostN k)) ∧ w = w' := by
  go_enter Try.func132, Try.ntmps132
  go_wp2
  all_goals go_ret
  all_goals refine ⟨ret_int ?_, rfl⟩
  all_goals simp_all [mostN]
set_option maxHeartbeats 400000 in
theorem most_any (k : Int) (w : World) : Calls Try.prog 134 #[.int .i64 k] w fun e w' => e = .returned (.int .i64 (mostN k)) ∧ w = w' := by
  go_enter Try.func134, Try.ntmps134
  go_wp2
  all_goals go_ret
  all_goals refine ⟨ret_int ?_, rfl⟩
  all_goals simp_all [mostN]

set_option maxRecDepth 100000 in
set_option maxHeartbeats 2000000 in
theorem operands_any (k : Int) (w : World) : Calls Try.prog 133 #[.int .i64 k] w fun e w' => e = .returned (.int .i64 (arity k)) ∧ Below w.heap.size w w' := by
  by_cases hk : 1 ≤ k ∧ k ≤ 16
  · have hc : k = 1 ∨ k = 2 ∨ k = 3 ∨ k = 4 ∨ k = 5 ∨ k = 6 ∨ k = 7 ∨ k = 8 ∨ k = 9 ∨ k = 10 ∨ k = 11 ∨ k = 12 ∨ k = 13 ∨ k = 14 ∨ k = 15 ∨ k = 16 := by omega
    have hx : (#[Value.int .i64 0, Value.int .i64 0, Value.int .i64 2, Value.int .i64 2, Value.int .i64 2, Value.int .i64 0, Value.int .i64 0, Value.int .i64 1, Value.int .i64 4, Value.int .i64 3, Value.int .i64 1, Value.int .i64 3, Value.int .i64 2, Value.int .i64 3, Value.int .i64 1, Value.int .i64 1] : Array Value)[k.toNat - 1]? = some (.int .i64 (arity k)) := by
      rcases hc with rfl | rfl | rfl | rfl | rfl | rfl | rfl | rfl | rfl | rfl | rfl | rfl | rfl | rfl | rfl | rfl <;> rfl
    obtain ⟨h1, h2⟩ := hk
    have hb : (decide (1 ≤ k) && decide (k ≤ 16)) = true := by simp [h1, h2]
    clear hc
    go_enter Try.func133, Try.ntmps133
    go_wp2_with (go_at_call 106; refine (within_any _ _ _ _).mono ?_; rintro e w' ⟨rfl, rfl⟩)
    go_ret
    exact ⟨rfl, (Below.refl _ _).alloc (Nat.le_refl _) _⟩
  · have hb : (decide (1 ≤ k) && decide (k ≤ 16)) = false := by
      rw [Bool.and_eq_false_iff, decide_eq_false_iff_not, decide_eq_false_iff_not]; omega
    have hH := hide hk
    clear hk
    go_enter Try.func133, Try.ntmps133
    go_wp2_with (go_at_call 106; refine (within_any _ _ _ _).mono ?_; rintro e w' ⟨rfl, rfl⟩)
    go_ret
    exact ⟨ret_int (by have := hH.out; unfold arity; repeat (rw [if_neg (by omega)])), Below.refl _ _⟩
end Go.Proofs.Ytefifcmieicnlaa
