/-
  Texts that are common to the laws: Kind, Shape, Count, Mark, Arg, Mark2, LawKit, Under, Changed, Scan, Form. No condition.
-/
import Derived.Test.YtgmljpmnfncceaaK1
import Derived.WalkSpells
import Derived.WalkLawsBesides
import Derived.WalkKit
import Derived.ProofKit
import Derived.OpenShut
import Derived.JoinedCond
import Derived.Deep.Slices
import Derived.Deep.Fields
import Derived.ChangeSame
import Derived.Below
import Derived.Carry
import Derived.Lib.SmallJoins

namespace Go.Proofs.Ytgmljpmnfncceaa
open Go.RowKit
set_option linter.unusedSimpArgs false
set_option linter.unusedVariables false

/-- how many operands a kind has -/
def arity (k : Int) : Int :=
  if k = 1 then 0 else if k = 2 then 0 else if k = 6 then 0 else if k = 7 then 0 else if k = 8 then 1 else if k = 11 then 1 else if k = 15 then 1 else if k = 16 then 1 else
  if k = 3 then 2 else if k = 4 then 2 else if k = 5 then 2 else if k = 13 then 2 else if k = 10 then 3 else if k = 12 then 3 else if k = 14 then 3 else if k = 9 then 4 else -1
/-- the greatest N of a kind -/
def mostN (k : Int) : Int := if k = 1 then 20 else if k = 2 then 3 else 0

set_option maxHeartbeats 400000 in
theorem within_any (n lo hi : Int) (w : World) :
    Calls Try.prog 57 #[.int .i64 n, .int .i64 lo, .int .i64 hi] w fun e w' => e = .returned (.bool (decide (lo ≤ n) && decide (n ≤ hi))) ∧ w = w' := by
  go_enter Try.func57, Try.ntmps57
  go_wp2
  all_goals go_ret
  all_goals refine ⟨ret_bool ?_, rfl⟩
  · have h : lo ≤ n := by assumption
    simp [h]
  · have h : n < lo := by assumption
    simp [show ¬ lo ≤ n from by omega]

set_option maxRecDepth 100000 in
set_option maxHeartbeats 1000000 in
theorem l1Kids_any (k : Int) (w : World) : Calls Try.prog 73 #[.int .i64 k] w fun e w' => e = .returned (.int .i64 (arity k)) ∧ w = w' := by
  go_enter Try.func73, Try.ntmps73
  go_wp2
  all_goals go_ret
  all_goals refine ⟨ret_int ?_, rfl⟩
  all_goals simp_all [arity]

set_option maxHeartbeats 400000 in
theorem l1Most_any (k : Int) (w : World) : Calls Try.prog 74 #[.int .i64 k] w fun e w' => e = .returned (.int .i64 (mostN k)) ∧ w = w' := by
  go_enter Try.func74, Try.ntmps74
  go_wp2
  all_goals go_ret
  all_goals refine ⟨ret_int ?_, rfl⟩
  all_goals simp_all [mostN]
set_option maxHeartbeats 400000 in
theorem most_any (k : Int) (w : World) : Calls Try.prog 72 #[.int .i64 k] w fun e w' => e = .returned (.int .i64 (mostN k)) ∧ w = w' := by
  go_enter Try.func72, Try.ntmps72
  go_wp2
  all_goals go_ret
  all_goals refine ⟨ret_int ?_, rfl⟩
  all_goals simp_all [mostN]

set_option maxRecDepth 100000 in
set_option maxHeartbeats 2000000 in
theorem operands_any (k : Int) (w : World) : Calls Try.prog 71 #[.int .i64 k] w fun e w' => e = .returned (.int .i64 (arity k)) ∧ Below w.heap.size w w' := by
  by_cases hk : 1 ≤ k ∧ k ≤ 16
  · have hc : k = 1 ∨ k = 2 ∨ k = 3 ∨ k = 4 ∨ k = 5 ∨ k = 6 ∨ k = 7 ∨ k = 8 ∨ k = 9 ∨ k = 10 ∨ k = 11 ∨ k = 12 ∨ k = 13 ∨ k = 14 ∨ k = 15 ∨ k = 16 := by omega
    have hx : (#[Value.int .i64 0, Value.int .i64 0, Value.int .i64 2, Value.int .i64 2, Value.int .i64 2, Value.int .i64 0, Value.int .i64 0, Value.int .i64 1, Value.int .i64 4, Value.int .i64 3, Value.int .i64 1, Value.int .i64 3, Value.int .i64 2, Value.int .i64 3, Value.int .i64 1, Value.int .i64 1] : Array Value)[k.toNat - 1]? = some (.int .i64 (arity k)) := by
      rcases hc with rfl | rfl | rfl | rfl | rfl | rfl | rfl | rfl | rfl | rfl | rfl | rfl | rfl | rfl | rfl | rfl <;> rfl
    obtain ⟨h1, h2⟩ := hk
    have hb : (decide (1 ≤ k) && decide (k ≤ 16)) = true := by simp [h1, h2]
    clear hc
    go_enter Try.func71, Try.ntmps71
    go_wp2_with (go_at_call 57; refine (within_any _ _ _ _).mono ?_; rintro e w' ⟨rfl, rfl⟩)
    go_ret
    exact ⟨rfl, (Below.refl _ _).alloc (Nat.le_refl _) _⟩
  · have hb : (decide (1 ≤ k) && decide (k ≤ 16)) = false := by
      rw [Bool.and_eq_false_iff, decide_eq_false_iff_not, decide_eq_false_iff_not]; omega
    have hH := hide hk
    clear hk
    go_enter Try.func71, Try.ntmps71
    go_wp2_with (go_at_call 57; refine (within_any _ _ _ _).mono ?_; rintro e w' ⟨rfl, rfl⟩)
    go_ret
    exact ⟨ret_int (by have := hH.out; unfold arity; repeat (rw [if_neg (by omega)])), Below.refl _ _⟩
end Go.Proofs.Ytgmljpmnfncceaa

namespace Go.Proofs.Ytgmljpmnfncceaa
open Go.RowKit
set_option linter.unusedSimpArgs false
set_option linter.unusedVariables false

/-- well formed, down to a depth -/
def shape : Nat → Tm → Bool
  | 0, _ => false
  | d + 1, .mk k n ks => arity k == (ks.length : Int) && decide (0 ≤ n) && decide (n ≤ mostN k) && ks.all (shape d)

theorem shape_split (d : Nat) (k n : Int) (ks : List Tm) : shape (d + 1) (.mk k n ks) = true ↔ arity k = (ks.length : Int) ∧ 0 ≤ n ∧ n ≤ mostN k ∧ ∀ t, t ∈ ks → shape d t = true := by
  simp only [shape, Bool.and_eq_true, beq_iff_eq, decide_eq_true_eq, List.all_eq_true, and_assoc]
theorem shape_no (d : Nat) (k n : Int) (ks : List Tm) (h : ¬ (arity k = (ks.length : Int) ∧ 0 ≤ n ∧ n ≤ mostN k)) : shape (d + 1) (.mk k n ks) = false := by
  cases e : shape (d + 1) (.mk k n ks) with
  | false => rfl
  | true => have := (shape_split d k n ks).1 e; exact absurd ⟨this.1, this.2.1, this.2.2.1⟩ h

set_option maxRecDepth 100000 in
set_option maxHeartbeats 1000000 in
theorem l1Shape_any (d : Nat) : ∀ (k n : Int) (ks : List Tm) (A : Option Addr) (c : Nat) (w : World), d ≤ 1000 → ks.length ≤ 9223372036854775807 → Rd w A 0 ks →
    Calls Try.prog 48 #[.agg #[.int .i64 k, .int .i64 n, .slice A ks.length c], .int .i64 d] w fun e w' => e = .returned (.bool (shape d (.mk k n ks))) ∧ Below w.heap.size w w' := by
  induction d with
  | zero =>
    intro k n ks A c w hd hl hr
    go_enter Try.func48, Try.ntmps48
    go_wp2_with fail
    refine name_world ?_
    intro wx hwx
    have hb0 : Below w.heap.size w wx := by rw [hwx]; exact (Below.refl _ _).alloc (Nat.le_refl _) _
    clear hwx
    refine wp_region_class (fun w' => Below wx.heap.size wx w') (by kernel_rfl) (by kernel_rfl) (Below.refl _ _).drew ?_
    repeat (first | ((refine quiet_skip (a' := ?_) ?_ ?_ ?_); (rotate_left); (· (simp [Region.wanted, yielded]; done)); (· (simp only [Act.put, List.setIfInBounds_toArray, List.set_cons_zero, List.set_cons_succ]; exact rfl))) | ((refine quiet_one (v := ?_) (a' := ?_) ?_ ?_ ?_ ?_); (rotate_left 2); (· (simp [Region.wanted, yielded]; done)); (· (intro w' hS'; go_simp; try (with_reducible rfl))); (· (simp only [Act.put, List.setIfInBounds_toArray, List.set_cons_zero, List.set_cons_succ]; exact rfl))))
    refine quiet_nil ?_
    intro w2 hb2
    go_wp2_with fail
    go_ret
    exact ⟨rfl, hb0.trans (hb2.mono hb0.size)⟩
  | succ d ih =>
    intro k n ks A c w hd hl hr
    have hz := hide (shape_split d k n ks)
    rw [show ((d + 1 : Nat) : Int) = (d : Int) + 1 from by omega]
    have q0 : decide ((d : Int) + 1 < 1) = false := by simp; omega
    by_cases h1 : arity k = (ks.length : Int)
    · have q1 : (arity k != (ks.length : Int)) = false := by simpa using h1
      by_cases h2 : 0 ≤ n
      · by_cases h3 : n ≤ mostN k
        · have H := hide (And.intro h1 (And.intro h2 h3))
          have q2 : decide (n < 0) = false := by simp; omega
          have q3 : decide (mostN k < n) = false := by simp; omega
          clear h1
          go_enter Try.func48, Try.ntmps48
          go_wp2_with fail
          refine name_world ?_
          intro wx hwx
          have hb0 : Below w.heap.size w wx := by rw [hwx]; exact (Below.refl _ _).alloc (Nat.le_refl _) _
          have hB : Blk wx w.heap.size #[.int .i64 k, .int .i64 n, .slice A ks.length c] := by rw [hwx]; exact Blk.new _ _ _
          have hrx : Rd wx A 0 ks := by rw [hwx]; exact hr.alloc _
          have r0 := hB.rule (i := 0) rfl
          have r1 := hB.rule (i := 1) rfl
          have r2 := hB.rule (i := 2) rfl
          clear hwx
          refine wp_region_class (fun w' => Below wx.heap.size wx w') (by kernel_rfl) (by kernel_rfl) (Below.refl _ _).drew ?_
          repeat (first | ((refine quiet_skip (a' := ?_) ?_ ?_ ?_); (rotate_left); (· (simp [Region.wanted, yielded]; done)); (· (simp only [Act.put, List.setIfInBounds_toArray, List.set_cons_zero, List.set_cons_succ]; exact rfl))) | ((refine quiet_one (v := ?_) (a' := ?_) ?_ ?_ ?_ ?_); (rotate_left 2); (· (simp [Region.wanted, yielded]; done)); (· (intro w' hS'; go_simp; try (with_reducible rfl))); (· (simp only [Act.put, List.setIfInBounds_toArray, List.set_cons_zero, List.set_cons_succ]; exact rfl))) | ((refine quiet_same (v := ?_) (a' := ?_) 73 ?_ ?_ ?_ ?_ ?_ ?_); (rotate_left 3); (· (simp [Region.wanted, yielded]; done)); (· (intro w' hS'; go_simp; try (with_reducible rfl))); (· (intro w' hS'; exact l1Kids_any _ _)); (· (simp only [Act.put, List.setIfInBounds_toArray, List.set_cons_zero, List.set_cons_succ]; exact rfl))) | ((refine quiet_same (v := ?_) (a' := ?_) 74 ?_ ?_ ?_ ?_ ?_ ?_); (rotate_left 3); (· (simp [Region.wanted, yielded]; done)); (· (intro w' hS'; go_simp; try (with_reducible rfl))); (· (intro w' hS'; exact l1Most_any _ _)); (· (simp only [Act.put, List.setIfInBounds_toArray, List.set_cons_zero, List.set_cons_succ]; exact rfl))))
          refine quiet_nil ?_
          intro w2 hb2
          replace hB := hB.keep hb2
          replace hrx := hrx.below hb2
          replace hb0 := hb0.trans (hb2.mono hb0.size)
          clear r0 r1 r2 hb2
          go_wp2_with fail
          go_loopw [5] (fun i wr => ∃ j : Nat, j ≤ ks.length ∧ i = .int .i64 j ∧ Hid (∀ t, t ∈ ks.take j → shape d t = true) ∧ Below w2.heap.size w2 wr) (fun i _ => ks.length - (intOf i).toNat)
          case atStart => exact ⟨0, Nat.zero_le _, rfl, hide (by simp), Below.refl _ _⟩
          case round =>
            obtain ⟨j, hj, rfl, hall, hb⟩ := hrel
            replace hB := hB.keep hb
            have c2 := hB.at_ (i := 2) rfl
            by_cases hlt : j < ks.length
            · obtain ⟨b, off, k1, n1, ks1, A1, c1, rfl, hkj, hc1, hc2, hc3, hl1, hr1⟩ := (hrx.below hb).at_ hlt
              have H3 := hide hkj
              clear hkj
              go_wp2_with (go_at_call 48; refine (ih k1 n1 ks1 A1 c1 _ (by omega) hl1 hr1).mono ?_; rintro e w3 ⟨rfl, hb3⟩)
              · go_ret
                have hne : (!shape d (.mk k1 n1 ks1)) = true := by assumption
                refine ⟨ret_bool ?_, hb0.trans ((hb.trans (hb3.mono hb.size)).mono hb0.size)⟩
                cases e : shape (d + 1) (.mk k n ks) with
                | false => rfl
                | true =>
                  have := (hz.out.1 e).2.2.2 ks[j] (List.getElem_mem hlt)
                  rw [H3.out] at this
                  rw [this] at hne
                  cases hne
              · have hne : (!shape d (.mk k1 n1 ks1)) = false := by assumption
                go_roundw
                case rel =>
                  refine ⟨j + 1, by omega, by go_num, hide ?_, hb.trans (hb3.mono hb.size)⟩
                  rw [List.take_succ_eq_append_getElem hlt, H3.out]
                  intro t ht
                  rcases List.mem_append.1 ht with ht | ht
                  · exact hall.out t ht
                  · simp only [List.mem_singleton] at ht
                    subst ht
                    simpa using hne
                case measure => simp [intOf]; omega
            · go_wp2_with fail
              go_ret
              have hjl : j = ks.length := by omega
              have hall' := hall.out
              rw [hjl, List.take_length] at hall'
              exact ⟨ret_bool (hz.out.2 ⟨H.out.1, H.out.2.1, H.out.2.2, hall'⟩).symm, hb0.trans (hb.mono hb0.size)⟩
        · have H := hide h3
          have q2 : decide (n < 0) = false := by simp; omega
          have q3 : decide (mostN k < n) = true := by simp; omega
          clear h1
          go_enter Try.func48, Try.ntmps48
          go_wp2_with fail
          refine name_world ?_
          intro wx hwx
          have hb0 : Below w.heap.size w wx := by rw [hwx]; exact (Below.refl _ _).alloc (Nat.le_refl _) _
          have hB : Blk wx w.heap.size #[.int .i64 k, .int .i64 n, .slice A ks.length c] := by rw [hwx]; exact Blk.new _ _ _
          have hrx : Rd wx A 0 ks := by rw [hwx]; exact hr.alloc _
          have r0 := hB.rule (i := 0) rfl
          have r1 := hB.rule (i := 1) rfl
          have r2 := hB.rule (i := 2) rfl
          clear hwx
          refine wp_region_class (fun w' => Below wx.heap.size wx w') (by kernel_rfl) (by kernel_rfl) (Below.refl _ _).drew ?_
          repeat (first | ((refine quiet_skip (a' := ?_) ?_ ?_ ?_); (rotate_left); (· (simp [Region.wanted, yielded]; done)); (· (simp only [Act.put, List.setIfInBounds_toArray, List.set_cons_zero, List.set_cons_succ]; exact rfl))) | ((refine quiet_one (v := ?_) (a' := ?_) ?_ ?_ ?_ ?_); (rotate_left 2); (· (simp [Region.wanted, yielded]; done)); (· (intro w' hS'; go_simp; try (with_reducible rfl))); (· (simp only [Act.put, List.setIfInBounds_toArray, List.set_cons_zero, List.set_cons_succ]; exact rfl))) | ((refine quiet_same (v := ?_) (a' := ?_) 73 ?_ ?_ ?_ ?_ ?_ ?_); (rotate_left 3); (· (simp [Region.wanted, yielded]; done)); (· (intro w' hS'; go_simp; try (with_reducible rfl))); (· (intro w' hS'; exact l1Kids_any _ _)); (· (simp only [Act.put, List.setIfInBounds_toArray, List.set_cons_zero, List.set_cons_succ]; exact rfl))) | ((refine quiet_same (v := ?_) (a' := ?_) 74 ?_ ?_ ?_ ?_ ?_ ?_); (rotate_left 3); (· (simp [Region.wanted, yielded]; done)); (· (intro w' hS'; go_simp; try (with_reducible rfl))); (· (intro w' hS'; exact l1Most_any _ _)); (· (simp only [Act.put, List.setIfInBounds_toArray, List.set_cons_zero, List.set_cons_succ]; exact rfl))))
          refine quiet_nil ?_
          intro w2 hb2
          replace hB := hB.keep hb2
          replace hrx := hrx.below hb2
          replace hb0 := hb0.trans (hb2.mono hb0.size)
          clear r0 r1 r2 hb2
          go_wp2_with fail
          go_ret
          exact ⟨ret_bool (shape_no _ _ _ _ (by have := H.out; omega)).symm, hb0⟩
      · have H := hide h2
        have q2 : decide (n < 0) = true := by simp; omega
        clear h1
        go_enter Try.func48, Try.ntmps48
        go_wp2_with fail
        refine name_world ?_
        intro wx hwx
        have hb0 : Below w.heap.size w wx := by rw [hwx]; exact (Below.refl _ _).alloc (Nat.le_refl _) _
        have hB : Blk wx w.heap.size #[.int .i64 k, .int .i64 n, .slice A ks.length c] := by rw [hwx]; exact Blk.new _ _ _
        have hrx : Rd wx A 0 ks := by rw [hwx]; exact hr.alloc _
        have r0 := hB.rule (i := 0) rfl
        have r1 := hB.rule (i := 1) rfl
        have r2 := hB.rule (i := 2) rfl
        clear hwx
        refine wp_region_class (fun w' => Below wx.heap.size wx w') (by kernel_rfl) (by kernel_rfl) (Below.refl _ _).drew ?_
        repeat (first | ((refine quiet_skip (a' := ?_) ?_ ?_ ?_); (rotate_left); (· (simp [Region.wanted, yielded]; done)); (· (simp only [Act.put, List.setIfInBounds_toArray, List.set_cons_zero, List.set_cons_succ]; exact rfl))) | ((refine quiet_one (v := ?_) (a' := ?_) ?_ ?_ ?_ ?_); (rotate_left 2); (· (simp [Region.wanted, yielded]; done)); (· (intro w' hS'; go_simp; try (with_reducible rfl))); (· (simp only [Act.put, List.setIfInBounds_toArray, List.set_cons_zero, List.set_cons_succ]; exact rfl))) | ((refine quiet_same (v := ?_) (a' := ?_) 73 ?_ ?_ ?_ ?_ ?_ ?_); (rotate_left 3); (· (simp [Region.wanted, yielded]; done)); (· (intro w' hS'; go_simp; try (with_reducible rfl))); (· (intro w' hS'; exact l1Kids_any _ _)); (· (simp only [Act.put, List.setIfInBounds_toArray, List.set_cons_zero, List.set_cons_succ]; exact rfl))) | ((refine quiet_same (v := ?_) (a' := ?_) 74 ?_ ?_ ?_ ?_ ?_ ?_); (rotate_left 3); (· (simp [Region.wanted, yielded]; done)); (· (intro w' hS'; go_simp; try (with_reducible rfl))); (· (intro w' hS'; exact l1Most_any _ _)); (· (simp only [Act.put, List.setIfInBounds_toArray, List.set_cons_zero, List.set_cons_succ]; exact rfl))))
        refine quiet_nil ?_
        intro w2 hb2
        replace hB := hB.keep hb2
        replace hrx := hrx.below hb2
        replace hb0 := hb0.trans (hb2.mono hb0.size)
        clear r0 r1 r2 hb2
        go_wp2_with fail
        go_ret
        exact ⟨ret_bool (shape_no _ _ _ _ (by have := H.out; omega)).symm, hb0⟩
    · have q1 : (arity k != (ks.length : Int)) = true := by simpa using h1
      have H := hide h1
      clear h1
      go_enter Try.func48, Try.ntmps48
      go_wp2_with fail
      refine name_world ?_
      intro wx hwx
      have hb0 : Below w.heap.size w wx := by rw [hwx]; exact (Below.refl _ _).alloc (Nat.le_refl _) _
      have hB : Blk wx w.heap.size #[.int .i64 k, .int .i64 n, .slice A ks.length c] := by rw [hwx]; exact Blk.new _ _ _
      have hrx : Rd wx A 0 ks := by rw [hwx]; exact hr.alloc _
      have r0 := hB.rule (i := 0) rfl
      have r1 := hB.rule (i := 1) rfl
      have r2 := hB.rule (i := 2) rfl
      clear hwx
      refine wp_region_class (fun w' => Below wx.heap.size wx w') (by kernel_rfl) (by kernel_rfl) (Below.refl _ _).drew ?_
      repeat (first | ((refine quiet_skip (a' := ?_) ?_ ?_ ?_); (rotate_left); (· (simp [Region.wanted, yielded]; done)); (· (simp only [Act.put, List.setIfInBounds_toArray, List.set_cons_zero, List.set_cons_succ]; exact rfl))) | ((refine quiet_one (v := ?_) (a' := ?_) ?_ ?_ ?_ ?_); (rotate_left 2); (· (simp [Region.wanted, yielded]; done)); (· (intro w' hS'; go_simp; try (with_reducible rfl))); (· (simp only [Act.put, List.setIfInBounds_toArray, List.set_cons_zero, List.set_cons_succ]; exact rfl))) | ((refine quiet_same (v := ?_) (a' := ?_) 73 ?_ ?_ ?_ ?_ ?_ ?_); (rotate_left 3); (· (simp [Region.wanted, yielded]; done)); (· (intro w' hS'; go_simp; try (with_reducible rfl))); (· (intro w' hS'; exact l1Kids_any _ _)); (· (simp only [Act.put, List.setIfInBounds_toArray, List.set_cons_zero, List.set_cons_succ]; exact rfl))) | ((refine quiet_same (v := ?_) (a' := ?_) 74 ?_ ?_ ?_ ?_ ?_ ?_); (rotate_left 3); (· (simp [Region.wanted, yielded]; done)); (· (intro w' hS'; go_simp; try (with_reducible rfl))); (· (intro w' hS'; exact l1Most_any _ _)); (· (simp only [Act.put, List.setIfInBounds_toArray, List.set_cons_zero, List.set_cons_succ]; exact rfl))))
      refine quiet_nil ?_
      intro w2 hb2
      replace hB := hB.keep hb2
      replace hrx := hrx.below hb2
      replace hb0 := hb0.trans (hb2.mono hb0.size)
      clear r0 r1 r2 hb2
      go_wp2_with fail
      go_ret
      exact ⟨ret_bool (shape_no _ _ _ _ (by have := H.out; omega)).symm, hb0⟩
end Go.Proofs.Ytgmljpmnfncceaa

namespace Go.Proofs.Ytgmljpmnfncceaa
open Go.RowKit
set_option linter.unusedSimpArgs false
set_option linter.unusedVariables false

/-- a count that stops early -/
def CountR (m : Nat) (most r : Int) : Prop := 1 ≤ r ∧ r ≤ m ∧ (r = m ∨ most < r)
def CountPost (m : Nat) (most : Int) (w : World) (e : Ending) (w' : World) : Prop := ∃ r : Int, e = .returned (.int .i64 r) ∧ CountR m most r ∧ Below w.heap.size w w'

theorem sizes_take (ks : List Tm) (j : Nat) (hj : j < ks.length) : sizes (ks.take (j + 1)) = sizes (ks.take j) + ks[j].size := by
  rw [List.take_succ_eq_append_getElem hj, sizes_append]; simp [sizes]
theorem sizes_take_le (ks : List Tm) (j : Nat) : sizes (ks.take j) ≤ sizes ks := by
  have := sizes_append (ks.take j) (ks.drop j); rw [List.take_append_drop] at this; omega

set_option maxRecDepth 100000 in
set_option maxHeartbeats 1000000 in
theorem l1Count_any (N : Nat) : ∀ (k n : Int) (ks : List Tm) (A : Option Addr) (c : Nat) (most : Int) (w : World), sizes ks < N → sizes ks ≤ 1099511627776 → -1099511627776 ≤ most → most ≤ 1099511627776 → Rd w A 0 ks →
    Calls Try.prog 49 #[.agg #[.int .i64 k, .int .i64 n, .slice A ks.length c], .int .i64 most] w (CountPost (sizes ks + 1) most w) := by
  induction N with
  | zero => intro k n ks A c most w hN; exact absurd hN (Nat.not_lt_zero _)
  | succ N ih =>
  intro k n ks A c most w hN hM hlo hhi hr
  have hlen := length_le_sizes ks
  go_enter Try.func49, Try.ntmps49
  go_wp2_with fail
  go_loopw [5, 6] (fun a i wr => ∃ (j : Nat) (acc : Int), j ≤ ks.length ∧ i = .int .i64 j ∧ a = .int .i64 acc ∧ 1 ≤ acc ∧ acc ≤ 1 + sizes (ks.take j) ∧ Hid (acc = 1 + sizes (ks.take j) ∨ most < acc) ∧ Blk wr w.heap.size #[.int .i64 k, .int .i64 n, .slice A ks.length c] ∧ Below w.heap.size w wr)
    (fun _ i _ => ks.length - (intOf i).toNat)
  case atStart => exact ⟨0, 1, Nat.zero_le _, rfl, rfl, by omega, by simp [sizes], hide (by simp [sizes]), Blk.new _ _ _, (Below.refl _ _).alloc (Nat.le_refl _) _⟩
  case round =>
    obtain ⟨j, acc, hj, rfl, rfl, ha1, ha2, ha3, hB, hb⟩ := hrel
    have c2 := hB.at_ (i := 2) rfl
    have hsl := sizes_take_le ks j
    by_cases hlt : j < ks.length
    · by_cases hm : acc ≤ most
      · obtain ⟨b, off, k1, n1, ks1, A1, c1, rfl, hkj, hc1, hc2, hc3, hl1, hr1⟩ := (hr.below hb).at_ hlt
        have hst := sizes_take ks j hlt
        have hsz := sizes_le (List.getElem_mem hlt)
        rw [hkj] at hsz hst
        simp only [Tm.size] at hsz hst
        have H3 := hide hst
        clear hkj hst
        go_wp2_with (go_at_call 49; refine (ih k1 n1 ks1 A1 c1 _ _ (by omega) (by omega) (by omega) (by omega) hr1).mono ?_; rintro e w3 ⟨r, rfl, ⟨hr1, hr2, hr3⟩, hb3⟩; have hr3' := hide hr3; clear hr3)
        go_roundw
        case rel =>
          refine ⟨j + 1, acc + r, by omega, by go_num, rfl, by omega, by rw [H3.out]; have := ha3.out; omega, hide ?_, hB.keep hb3, hb.trans (hb3.mono hb.size)⟩
          rw [H3.out]
          have h1 := ha3.out
          have h2 := hr3'.out
          omega
        case measure => simp [intOf]; omega
      · go_wp2_with fail
        go_ret
        exact ⟨acc, rfl, ⟨ha1, by omega, Or.inr (by omega)⟩, hb⟩
    · go_wp2_with fail
      go_ret
      have h1 := ha3.out
      have hjl : j = ks.length := by omega
      rw [hjl, List.take_length] at h1 ha2
      exact ⟨acc, rfl, ⟨ha1, by omega, by omega⟩, hb⟩

/-- a valid term -/
def validT (t : Tm) : Bool := shape 30 t && decide (t.size ≤ 400)

set_option maxRecDepth 100000 in
set_option maxHeartbeats 1000000 in
theorem sTermValid_any (k n : Int) (ks : List Tm) (A : Option Addr) (c : Nat) (w : World) (hM : sizes ks ≤ 1099511627775) (hr : Rd w A 0 ks) :
    Calls Try.prog 21 #[.agg #[.int .i64 k, .int .i64 n, .slice A ks.length c]] w fun e w' => e = .returned (.bool (validT (.mk k n ks))) ∧ Below w.heap.size w w' := by
  have hlen := length_le_sizes ks
  cases hs : shape 30 (.mk k n ks) with
  | false =>
    have hv : validT (.mk k n ks) = false := by simp [validT, hs]
    rw [hv]
    go_enter Try.func21, Try.ntmps21
    go_wp2_with (go_at_call 48; refine (l1Shape_any 30 k n ks A c _ (by omega) (by omega) (hr.alloc _)).mono ?_; rintro e w1 ⟨rfl, hb1⟩; obtain ⟨hc, hf⟩ := bcell hb1)
    go_ret
    exact ⟨rfl, ((Below.refl _ _).alloc (Nat.le_refl _) _).trans (hb1.mono (by simp))⟩
  | true =>
    have hv : validT (.mk k n ks) = decide (sizes ks + 1 ≤ 400) := by simp [validT, hs, Tm.size]
    rw [hv]
    go_enter Try.func21, Try.ntmps21
    go_wp2_with (first | (go_at_call 48; refine (l1Shape_any 30 k n ks A c _ (by omega) (by omega) (hr.alloc _)).mono ?_; rintro e w1 ⟨rfl, hb1⟩; obtain ⟨hc, hf⟩ := bcell hb1) | (go_at_call 49; refine (l1Count_any (sizes ks + 1) k n ks A c 400 _ (by omega) (by omega) (by omega) (by omega) ((hr.alloc _).below hb1)).mono ?_; rintro e w2 ⟨r, rfl, ⟨hr1, hr2, hr3⟩, hb2⟩; have hr3' := hide hr3; clear hr3))
    go_ret
    have h3 := hr3'.out
    exact ⟨ret_bool (by rw [decide_eq_decide]; omega), ((Below.refl _ _).alloc (Nat.le_refl _) _).trans ((hb1.trans (hb2.mono hb1.size)).mono (by simp))⟩
end Go.Proofs.Ytgmljpmnfncceaa

namespace Go.Proofs.Ytgmljpmnfncceaa
open Go.RowKit
set_option linter.unusedSimpArgs false
set_option linter.unusedVariables false

/-- nothing but the blocks of a list has turned -/
structure OnlyIn (fp : List Nat) (w w' : World) : Prop where
  os : w'.os = w.os
  tape : w'.tape = w.tape
  output : w'.output = w.output
  size : w.heap.size ≤ w'.heap.size
  block : ∀ b, b < w.heap.size → b ∉ fp → w'.heap[b]? = w.heap[b]?
theorem OnlyIn.refl (fp : List Nat) (w : World) : OnlyIn fp w w := ⟨rfl, rfl, rfl, Nat.le_refl _, fun _ _ _ => rfl⟩
theorem OnlyIn.trans {fp : List Nat} {a b c : World} (h : OnlyIn fp a b) (k : OnlyIn fp b c) : OnlyIn fp a c :=
  ⟨k.os.trans h.os, k.tape.trans h.tape, k.output.trans h.output, Nat.le_trans h.size k.size, fun i hi hn => (k.block i (Nat.lt_of_lt_of_le hi h.size) hn).trans (h.block i hi hn)⟩
theorem OnlyIn.mono {fp fq : List Nat} {w w' : World} (h : OnlyIn fp w w') (hs : ∀ b, b ∈ fp → b ∈ fq) : OnlyIn fq w w' := ⟨h.os, h.tape, h.output, h.size, fun b hb hn => h.block b hb fun hm => hn (hs b hm)⟩
theorem OnlyIn.setCell {fp : List Nat} {a w : World} (h : OnlyIn fp a w) {p : Addr} (hp : p.block ∈ fp) (u : Value) : OnlyIn fp a (w.setCell p u) :=
  ⟨h.os, h.tape, h.output, by simpa [World.setCell] using h.size, fun i hi hn => (Below.heap_setCell w p u i (fun e => hn (e ▸ hp))).trans (h.block i hi hn)⟩
theorem OnlyIn.below {fp : List Nat} {w w' : World} {B : Nat} (h : OnlyIn fp w w') (hB : B ≤ w.heap.size) (hf : ∀ b, b ∈ fp → B ≤ b) : Below B w w' :=
  ⟨h.os, h.tape, h.output, h.size, fun b hb => h.block b (by omega) fun hm => by have := hf b hm; omega⟩
theorem OnlyIn.allocd {fp : List Nat} {w w' : World} {o : Obj} (h : OnlyIn fp (w.alloc o) w') : OnlyIn fp w w' :=
  ⟨h.os, h.tape, h.output, Nat.le_trans (by simp) h.size, fun b hb hn => (h.block b (by simp; omega) hn).trans (Below.heap_alloc w o b hb)⟩

theorem OwX.split {w : World} {t : Tm} {us : List Tm} : ∀ {ts : List Tm} {xs : List Value} {fp : List Nat}, OwX w (ts ++ t :: us) xs fp →
    ∃ x0 x1 x2 f0 f1 f2, xs = x0 ++ (x1 ++ x2) ∧ fp = f0 ++ (f1 ++ f2) ∧ OwX w ts x0 f0 ∧ OwT w t x1 f1 ∧ OwX w us x2 f2
  | [], xs, fp, h => by
    obtain ⟨x1, x2, f1, f2, rfl, rfl, h1, h2⟩ := OwX.cons_iff.1 h
    exact ⟨[], x1, x2, [], f1, f2, rfl, rfl, OwX.nil, h1, h2⟩
  | s :: ts, xs, fp, h => by
    obtain ⟨y1, y2, e1, e2, rfl, rfl, k1, k2⟩ := OwX.cons_iff.1 h
    obtain ⟨x0, x1, x2, f0, f1, f2, rfl, rfl, h0, h1, h2⟩ := OwX.split k2
    exact ⟨y1 ++ x0, x1, x2, e1 ++ f0, f1, f2, by rw [List.append_assoc], by rw [List.append_assoc], OwX.cons_iff.2 ⟨y1, x0, e1, f0, rfl, rfl, k1, h0⟩, h1, h2⟩
theorem OwX.join {w : World} {t : Tm} {us ts : List Tm} {x0 x1 x2 : List Value} {f0 f1 f2 : List Nat} (h0 : OwX w ts x0 f0) (h1 : OwT w t x1 f1) (h2 : OwX w us x2 f2) : OwX w (ts ++ t :: us) (x0 ++ (x1 ++ x2)) (f0 ++ (f1 ++ f2)) :=
  h0.append (OwX.cons_iff.2 ⟨x1, x2, f1, f2, rfl, rfl, h1, h2⟩)

mutual
/-- marks, counted up -/
def markT : Int → Tm → Tm | m, .mk _ _ ks => .mk m (m + 1) (markL (m + 2) ks)
def markL : Int → List Tm → List Tm | _, [] => [] | m, t :: ts => markT m t :: markL (m + 2 * t.size) ts
end
theorem markL_length : ∀ (ts : List Tm) (m : Int), (markL m ts).length = ts.length
  | [], m => by simp [markL]
  | t :: ts, m => by rw [markL, List.length_cons, List.length_cons, markL_length ts]
theorem markL_append : ∀ (ts us : List Tm) (m : Int), markL m (ts ++ us) = markL m ts ++ markL (m + 2 * sizes ts) us
  | [], us, m => by simp [markL, sizes]
  | t :: ts, us, m => by
    rw [List.cons_append, markL, markL, markL_append ts us, List.cons_append, sizes]
    congr 3
    push_cast
    omega
theorem mark_sizes : (∀ t m, (markT m t).size = t.size) ∧ (∀ ts m, sizes (markL m ts) = sizes ts) := by
  refine Tm.ind2 (fun k n ks ih m => ?_) (fun m => by simp [markL]) (fun t ts h1 h2 m => ?_)
  · rw [markT, Tm.size, Tm.size, ih]
  · rw [markL, sizes, sizes, h1, h2]

theorem take3 {cur : Array Value} {n j : Nat} {x0 x1 x2 : List Value} (h : cur.toList.take n = x0 ++ (x1 ++ x2)) (h0 : x0.length = j) (i : Nat) (v : Value) (hi : x1[i]? = some v) : cur[j + i]? = some v := by
  have hlt : i < x1.length := (List.getElem?_eq_some_iff.1 hi).1
  have h2 : (cur.toList.take n)[j + i]? = some v := by
    rw [h, List.getElem?_append_right (by omega), List.getElem?_append_left (by omega), h0, Nat.add_sub_cancel_left]
    exact hi
  rw [List.getElem?_take] at h2
  split at h2
  · simpa using h2
  · cases h2
theorem set3 {cur : Array Value} {n j : Nat} {x0 x2 : List Value} {a b c a' b' : Value} (h : cur.toList.take n = x0 ++ ([a, b, c] ++ x2)) (h0 : x0.length = j) :
    ((cur.setIfInBounds j a').setIfInBounds (j + 1) b').toList.take n = x0 ++ ([a', b', c] ++ x2) := by
  rw [Array.toList_setIfInBounds, Array.toList_setIfInBounds, List.take_set, List.take_set, h]
  subst h0
  simp [List.set_append]

def MarkPost (w : World) (A : Option Addr) (ts : List Tm) (fp : List Nat) (m : Int) (e : Ending) (w' : World) : Prop :=
  e = .returned (.int .i64 (m + 2 * sizes ts)) ∧ Ow w' A (markL m ts) fp ∧ OnlyIn fp w w'

set_option maxHeartbeats 2000000 in
set_option maxRecDepth 100000 in
theorem markTermS_any (N : Nat) : ∀ (ks : List Tm) (A : Option Addr) (c : Nat) (fp : List Nat) (m : Int) (w : World), sizes ks < N → sizes ks ≤ 1099511627776 → 0 ≤ m → m + 2 * sizes ks ≤ 4398046511104 → Ow w A ks fp → fp.Nodup →
    Calls Try.prog 12 #[.slice A ks.length c, .int .i64 m] w (MarkPost w A ks fp m) := by
  induction N with
  | zero => intro ks A c fp m w hN; exact absurd hN (Nat.not_lt_zero _)
  | succ N ih =>
  intro ks A c fp m w hN hM hm0 hm1 hO hn
  have hlen := length_le_sizes ks
  rcases hO with ⟨rfl, rfl⟩ | ⟨g, cur0, ety, f, hne, rfl, hg0, rfl, hx0⟩
  · go_enter Try.func12, Try.ntmps12
    go_wp2_with fail
    refine Go.wp_loop_rounds 1 ?_
    rw [Go.rounds_succ]
    go_wp2_with fail
    go_ret
    exact ⟨ret_int (by simp [sizes]), .inl ⟨by simp [markL], rfl⟩, OnlyIn.refl _ _⟩
  · go_enter Try.func12, Try.ntmps12
    go_wp2_with fail
    go_loopw [1, 5] (fun mv i wr => ∃ (j : Nat) (cur : Array Value), j ≤ ks.length ∧ i = .int .i64 j ∧ mv = .int .i64 (m + 2 * sizes (ks.take j)) ∧ wr.heap[g]? = some (.cells cur ety (0, 0)) ∧
        Hid (OwX wr (markL m (ks.take j) ++ ks.drop j) (cur.toList.take (ks.length * 3)) f) ∧ OnlyIn (g :: f) w wr)
      (fun _ i _ => ks.length - (intOf i).toNat)
    case atStart => exact ⟨0, cur0, Nat.zero_le _, rfl, by simp [sizes], hg0, hide (by simpa [markL] using hx0), OnlyIn.refl _ _⟩
    case round =>
      obtain ⟨j, cur, hj, rfl, rfl, hg, hx, hon⟩ := hrel
      have hsl := sizes_take_le ks j
      by_cases hlt : j < ks.length
      · have hdrop : ks.drop j = ks[j] :: ks.drop (j + 1) := List.drop_eq_getElem_cons hlt
        have hx' := hx.out
        rw [hdrop] at hx'
        obtain ⟨x0, x1, x2, f0, f1, f2, hxs, hff, k0, k1, k2⟩ := OwX.split hx'
        have hst := sizes_take ks j hlt
        have hsz := sizes_le (List.getElem_mem hlt)
        obtain ⟨k', n', ks', hkj⟩ : ∃ k' n' ks', ks[j] = Tm.mk k' n' ks' := by cases ks[j]; exact ⟨_, _, _, rfl⟩
        rw [hkj] at k1 hst hsz
        obtain ⟨Aj, cj, rfl, hlj, hOj⟩ := OwT.iff.1 k1
        simp only [Tm.size] at hst hsz
        have hx0l : x0.length = j * 3 := by rw [k0.length, markL_length, List.length_take, Nat.min_eq_left (Nat.le_of_lt hlt)]
        have hB : Blk wr g cur := ⟨_, hg⟩
        have c0 : wr.cell? ⟨g, j * 3, none⟩ = some (.int .i64 k') := hB.at_ (take3 hxs hx0l 0 _ rfl)
        have c1 : wr.cell? ⟨g, j * 3 + 1, none⟩ = some (.int .i64 n') := hB.at_ (take3 hxs hx0l 1 _ rfl)
        have c2 : wr.cell? ⟨g, j * 3 + 2, none⟩ = some (.slice Aj ks'.length cj) := hB.at_ (take3 hxs hx0l 2 _ rfl)
        have z0 := hB.frozen (j * 3)
        have z1 := hB.frozen (j * 3 + 1)
        have hn1 := (List.nodup_cons.1 hn).1
        have hnf := (List.nodup_cons.1 hn).2
        have hnf1 : f1.Nodup := by rw [hff] at hnf; exact (List.nodup_append.1 (List.nodup_append.1 hnf).2.1).1
        have hg1 : g ∉ f1 := fun hm => hn1 (by rw [hff]; simp [hm])
        have hset := hide (set3 (a' := .int .i64 (m + 2 * sizes (ks.take j))) (b' := .int .i64 (m + 2 * sizes (ks.take j) + 1)) hxs hx0l)
        have h5 := hide hxs
        have h6 := hide hff
        have h7 := hide hkj
        have h8 := hide hst
        have h9 := hide (And.intro hx0l hdrop)
        have hsl2 : sizes (ks.take j) + (sizes ks' + 1) ≤ sizes ks := by have := sizes_take_le ks (j + 1); omega
        clear hxs hff hkj hst hx0l hdrop hx' hx k1 hx0 hg0
        have hOj2 : ∀ (v1 v2 : Value), Ow ((wr.setCell ⟨g, j * 3, none⟩ v1).setCell ⟨g, j * 3 + 1, none⟩ v2) Aj ks' f1 := fun v1 v2 => hOj.frame fun b hb => (Below.heap_setCell _ _ _ b (fun e => hg1 (by have e : b = g := e; rw [← e]; exact hb))).trans (Below.heap_setCell _ _ _ b (fun e => hg1 (by have e : b = g := e; rw [← e]; exact hb)))
        go_wp2_with (go_at_call 12; refine (ih ks' Aj cj f1 (m + 2 * sizes (ks.take j) + 1 + 1) _ (by omega) (by omega) (by omega) (by omega) (hOj2 _ _) hnf1).mono ?_; rintro e w3 ⟨rfl, hO3, hon3⟩)
        have hgs : ((wr.setCell ⟨g, j * 3, none⟩ (.int .i64 (m + 2 * sizes (ks.take j)))).setCell ⟨g, j * 3 + 1, none⟩ (.int .i64 (m + 2 * sizes (ks.take j) + 1))).heap[g]? = some (.cells ((cur.setIfInBounds (j * 3) (.int .i64 (m + 2 * sizes (ks.take j)))).setIfInBounds (j * 3 + 1) (.int .i64 (m + 2 * sizes (ks.take j) + 1))) ety (0, 0)) := by
          simp [World.setCell, Array.getElem?_modify, hg]
        have hlt3 : ∀ b, b ∈ f → b < wr.heap.size := fun b hb => by
          have := hb
          rw [h6.out] at this
          rcases List.mem_append.1 this with h | h
          · exact k0.lt b h
          · rcases List.mem_append.1 h with h | h
            · exact hOj.lt b h
            · exact k2.lt b h
        have hfr : ∀ b, b ∈ f → b ∉ f1 → w3.heap[b]? = wr.heap[b]? := fun b hb hb1 => by
          have hbg : b ≠ g := fun e => hn1 (e ▸ hb)
          exact (hon3.block b (by simp [World.setCell]; exact hlt3 b hb) hb1).trans ((Below.heap_setCell _ _ _ b hbg).trans (Below.heap_setCell _ _ _ b hbg))
        have hg3 := (hon3.block g (by simp [World.setCell]; exact (Array.getElem?_eq_some_iff.1 hg).1) hg1).trans hgs
        have hnf' := hnf
        rw [h6.out] at hnf'
        have hd0 : ∀ b, b ∈ f0 → b ∉ f1 := fun b h0 h1 => (List.nodup_append.1 hnf').2.2 b h0 b (by simp [h1]) rfl
        have hd2 : ∀ b, b ∈ f2 → b ∉ f1 := fun b h2 h1 => (List.nodup_append.1 (List.nodup_append.1 hnf').2.1).2.2 b h1 b h2 rfl
        have hon4 : OnlyIn (g :: f) w w3 := (((hon.setCell (by simp) _).setCell (by simp) _)).trans (hon3.mono fun b hb => by rw [h6.out]; simp [hb])
        have hres : OwX w3 (markL m (ks.take (j + 1)) ++ ks.drop (j + 1)) (((cur.setIfInBounds (j * 3) (.int .i64 (m + 2 * sizes (ks.take j)))).setIfInBounds (j * 3 + 1) (.int .i64 (m + 2 * sizes (ks.take j) + 1))).toList.take (ks.length * 3)) f := by
          rw [hset.out, List.take_succ_eq_append_getElem hlt, markL_append, h7.out, markL, markL, List.append_assoc, h6.out, markT]
          refine OwX.join (k0.frame fun b hb => hfr b (by rw [h6.out]; simp [hb]) (hd0 b hb)) (OwT.iff.2 ⟨Aj, cj, ?_, by rw [markL_length]; exact hlj, ?_⟩) (k2.frame fun b hb => hfr b (by rw [h6.out]; simp [hb]) (hd2 b hb))
          · rw [markL_length]
          · rw [show m + 2 * (sizes (ks.take j) : Int) + 2 = m + 2 * sizes (ks.take j) + 1 + 1 from by omega]
            exact hO3
        go_roundw
        case rel => exact ⟨j + 1, _, hlt, by go_num, by rw [h8.out]; push_cast; congr 1; omega, hg3, hide hres, hon4⟩
        case measure => simp [intOf]; omega
      · have hjl : j = ks.length := by omega
        subst hjl
        have hx' := hx.out
        rw [List.take_length, List.drop_length, List.append_nil] at hx'
        go_wp2_with fail
        go_ret
        refine ⟨ret_int (by rw [List.take_length]), .inr ⟨g, cur, ety, f, ?_, rfl, hg, rfl, by rw [markL_length]; exact hx'⟩, hon⟩
        intro e
        have := markL_length ks m
        rw [e] at this
        simp at this
        exact hne (List.eq_nil_of_length_eq_zero this.symm)
end Go.Proofs.Ytgmljpmnfncceaa

namespace Go.Proofs.Ytgmljpmnfncceaa
open Go.ChangeShapes Go.WideShapes Go.ChangeAt Go.RowKit Go.Deep Go.Joins
set_option linter.unusedSimpArgs false
set_option linter.unusedVariables false

section
variable {H : Type} {enc : TypeId × Value → H} {W : World} {base : Nat} {spare : Nat → Bool} {held : Bool}

theorem struct3_down {P : Program} {t : TypeId} {f0 f1 f2 : Field} {fuel : Nat} {cs : List Value} {x : DataW H × List MemPlace} (ht : P.underlying t = some (.struct #[f0, f1, f2])) (h : DataW.trod enc P W base spare held fuel t cs = some x) :
    ∃ y0 y1 y2 n, n < fuel ∧ cs.length = P.cellsOf t ∧ DataW.trod enc P W base spare held n f0.type ((cs.drop f0.offset).take (P.cellsOf f0.type)) = some y0 ∧
      DataW.trod enc P W base spare held n f1.type ((cs.drop f1.offset).take (P.cellsOf f1.type)) = some y1 ∧ DataW.trod enc P W base spare held n f2.type ((cs.drop f2.offset).take (P.cellsOf f2.type)) = some y2 := by
  obtain ⟨xs, n, rfl, rfl, hl, hlen, hf⟩ := DataW.trod_struct ht h
  match xs, hlen with
  | [y0, y1, y2], _ => exact ⟨y0, y1, y2, n, Nat.lt_succ_self _, hl, by simpa using hf 0 f0 rfl, by simpa using hf 1 f1 rfl, by simpa using hf 2 f2 rfl⟩

set_option maxRecDepth 100000 in
theorem open_node {n : Nat} {cs : List Value} {y : DataW H × List MemPlace} (h : DataW.trod enc Try.prog W base spare held n 24 cs = some y) :
    ∃ (k m : Int) (v : Value) (z : DataW H × List MemPlace) (n' : Nat), cs = [.int .i64 k, .int .i64 m, v] ∧ n' < n ∧ DataW.trod enc Try.prog W base spare held n' 22 [v] = some z := by
  obtain ⟨y0, y1, y2, n', hn, hl, h0, h1, h2⟩ := struct3_down Try.underlying24 h
  have hC : Try.prog.cellsOf 24 = 3 := by kernel_rfl
  have hC3 : Try.prog.cellsOf 3 = 1 := by kernel_rfl
  have hC22 : Try.prog.cellsOf 22 = 1 := by kernel_rfl
  rw [hC] at hl
  match cs, hl with
  | [c0, c1, c2], _ =>
    dsimp only at h0 h1 h2
    rw [hC3] at h0 h1
    rw [hC22] at h2
    obtain ⟨k, hk, _⟩ := DataW.trod_int Try.underlying3 h0
    obtain ⟨m, hm, _⟩ := DataW.trod_int Try.underlying3 h1
    simp at hk hm
    subst hk
    subst hm
    exact ⟨k, m, c2, _, n', rfl, hn, by simpa using h2⟩

set_option maxRecDepth 100000 in
theorem open_terms : ∀ (fuel : Nat) (v : Value) (x : DataW H × List MemPlace), DataW.trod enc Try.prog W base spare held fuel 22 [v] = some x →
    ∃ (ks : List Tm) (A : Option Addr) (c : Nat), v = .slice A ks.length c ∧ ks.length ≤ 9223372036854775807 ∧ Rd W A 0 ks := by
  intro fuel
  induction fuel using Nat.strongRecOn with
  | _ fuel ih =>
  intro v x h
  rcases DataW.trod_slice Try.underlying22 h with ⟨hv, _⟩ | ⟨a, len, cap, elems, rest, n, rfl, hv, rfl, hb, hl, hm, hlen, hel, _, _⟩
  · simp at hv
    subst hv
    exact ⟨[], none, 0, rfl, by simp, by rw [Rd]; trivial⟩
  · simp at hv
    subst hv
    have hC : Try.prog.cellsOf 24 = 3 := by kernel_rfl
    simp only [hC] at hel
    have hmax : maxLen ≤ 9223372036854775807 := by decide
    have hat : ∀ i, i < len → ∃ (k m : Int) (u : Value) (z : DataW H × List MemPlace) (n' : Nat), n' < n + 1 ∧ DataW.trod enc Try.prog W base spare held n' 22 [u] = some z ∧
        W.cell? ((a.add (i * 3)).add 0) = some (.int .i64 k) ∧ W.cell? ((a.add (i * 3)).add 1) = some (.int .i64 m) ∧ W.cell? ((a.add (i * 3)).add 2) = some u := by
      intro i hi
      have hx := hel i hi
      rw [List.getElem?_eq_getElem (by omega)] at hx
      obtain ⟨cs', h1, h2⟩ := Option.bind_eq_some_iff.1 hx
      obtain ⟨k, m, u, z, n', rfl, hn, hz⟩ := open_node h2
      obtain ⟨_, _, hc⟩ := World.cells?_some h1
      exact ⟨k, m, u, z, n', by omega, hz, hc 0 (by omega), hc 1 (by omega), hc 2 (by omega)⟩
    obtain ⟨b, off, spot⟩ := a
    by_cases hz : len = 0
    · subst hz
      exact ⟨[], some ⟨b, off, spot⟩, cap, rfl, by simp, by rw [Rd]; trivial⟩
    · have hspot : spot = none := by
        obtain ⟨k, m, u, z, n', _, _, h0, _⟩ := hat 0 (by omega)
        have := World.cell?_spot h0
        simpa [Addr.add] using this
      subst hspot
      have hall : ∀ m i, i + m = len → ∃ ks : List Tm, ks.length = m ∧ Rd W (some ⟨b, off, none⟩) i ks := by
        intro m
        induction m with
        | zero => intro i _; exact ⟨[], rfl, by rw [Rd]; trivial⟩
        | succ m ihm =>
          intro i hi
          obtain ⟨ts, hts, hrs⟩ := ihm (i + 1) (by omega)
          obtain ⟨k, q, u, z, n', hn, hz', h0, h1, h2⟩ := hat i (by omega)
          rw [add_plain, add_plain] at h0 h1 h2
          obtain ⟨ks, A, c, rfl, hlk, hrk⟩ := ih n' hn u z hz'
          exact ⟨.mk k q ks :: ts, by simp [hts], Rd.cons_iff.2 ⟨⟨b, off, rfl, RdC.iff.2 ⟨h0, h1, A, c, h2, hlk, hrk⟩⟩, hrs⟩⟩
      obtain ⟨ks, hks, hrk⟩ := hall len 0 (by omega)
      subst hks
      exact ⟨ks, some ⟨b, off, none⟩, cap, rfl, by omega, hrk⟩

set_option maxRecDepth 100000 in
/-- an argument that is a term -/
theorem open_term {r : Reach} {b0 : Nat} {v : Value} {d : DataW H} {p : List MemPlace} (hv : Value.okWide Try.prog W r b0 24 v) (h : DataW.Trod enc Try.prog W base spare held 24 v d p) :
    ∃ (k n : Int) (ks : List Tm) (A : Option Addr) (c : Nat), v = .agg #[.int .i64 k, .int .i64 n, .slice A ks.length c] ∧ ks.length ≤ 9223372036854775807 ∧ Rd W A 0 ks := by
  obtain ⟨cs, rfl, hsz⟩ := okWide_struct Try.underlying24 hv
  obtain ⟨fuel, hf⟩ := h
  obtain ⟨k, n, u, z, n', hcs, _, hz⟩ := open_node hf
  obtain ⟨ks, A, c, rfl, hl, hr⟩ := open_terms n' u z hz
  refine ⟨k, n, ks, A, c, ?_, hl, hr⟩
  have : cs.toList = [.int .i64 k, .int .i64 n, .slice A ks.length c] := by simpa [Value.cells] using hcs
  cases cs
  simp at this
  rw [this]
end

section
variable {H : Type} {enc : TypeId × Value → H} {P : Program}
/-- the row's last step, where of the world behind the call 'Below' alone is known -/
theorem post_below {f : Func} {s : ChangeSpec} {apart fresh handsOn again : Bool} {W W' : World} {args : Array Value} {v : Value} {ds gs : List (DataW H)} {before pa pv : List MemPlace}
    (hW : DataW.Whole enc P f.params.toList s.vars apart W args.toList ds gs before)
    (hres : ∀ (b : Nat) (sp : Nat → Bool) (hd : Bool), DataW.TrodAll enc P W' b sp hd f.resultTypes.toList (v.resultList f.resultTypes.size) (s.fn H (ds ++ gs)).results [])
    (hargs : ∀ sp : Nat → Bool, (∀ p ∈ before, sp p.block = true) → DataW.TrodAll enc P W' 0 sp true f.params.toList args.toList (s.fn H (ds ++ gs)).args pa)
    (hvars : ∀ sp : Nat → Bool, (∀ p ∈ before, sp p.block = true) → DataW.TrodVars enc P W' sp s.vars (s.fn H (ds ++ gs)).vars pv)
    (hps : before = pa ++ pv) (hb : Below W.heap.size W W')
    (hok : ∀ (j : Nat) (t : TypeId) (r : Value), f.resultTypes[j]? = some t → (v.resultList f.resultTypes.size)[j]? = some r → Value.okWide P W' .any 0 t r) :
    s.post enc P f apart fresh handsOn again W args v W' := by
  have hlt : ∀ p ∈ before, p.block < W.heap.size := fun p hp => hW.lt p hp
  have hold : ∀ p ∈ before, (fun b => decide (b < W.heap.size)) p.block = true := fun p hp => by simpa using hlt p hp
  refine ⟨ds, gs, before, [], pa, pv, hW, hres _ _ _, hargs _ hold, hvars _ hold, World.keptBut_mono (fun p hp => ⟨hp, ?_⟩) (hb.frame (· ∈ before)), fun _ => ?_⟩
  · rw [hps, List.mem_append] at hp
    exact Or.inr hp
  · obtain ⟨_, _, _, _, _, hz, hn⟩ := hW
    refine ⟨hok, _, _, ([] ++ pa) ++ pv, ⟨[] ++ pa, pv, trodAll_append (hargs _ (fun _ _ => rfl)) (hres _ _ _), hvars _ (fun _ _ => rfl), rfl, ?_, ?_⟩, ?_⟩
    · intro b off hp
      have hin : MemPlace.cell b off ∈ before := by rw [hps]; simpa using hp
      rw [hb.frozen (hlt _ hin)]
      exact hz b off hin
    · intro ha
      have := hn ha
      rw [hps] at this
      simpa using this
    · intro p hp _
      rw [hps]
      simpa using hp
end
end Go.Proofs.Ytgmljpmnfncceaa

namespace Go.Proofs.Ytgmljpmnfncceaa
open Go.RowKit
set_option linter.unusedSimpArgs false
set_option linter.unusedVariables false

set_option maxHeartbeats 1000000 in
set_option maxRecDepth 100000 in
theorem markTerm_any (k n : Int) (ks : List Tm) (A : Option Addr) (c : Nat) (fp : List Nat) (m : Int) (w : World) (hM : sizes ks ≤ 1099511627776) (hm0 : 0 ≤ m) (hm1 : m + 2 * sizes ks ≤ 4398046511104) (hO : Ow w A ks fp) (hn : fp.Nodup) :
    Calls Try.prog 11 #[.agg #[.int .i64 k, .int .i64 n, .slice A ks.length c], .int .i64 m] w (MarkPost w A ks fp m) := by
  have hO' : ∀ o : Obj, Ow (w.alloc o) A ks fp := fun o => hO.frame fun b hb => Below.heap_alloc w o b (hO.lt b hb)
  go_enter Try.func11, Try.ntmps11
  go_wp2_with (go_at_call 12; refine (markTermS_any (sizes ks + 1) ks A c fp m _ (by omega) hM hm0 hm1 (hO' _) hn).mono ?_; rintro e w1 ⟨rfl, h1, h2⟩)
  go_ret
  exact ⟨rfl, h1, h2.allocd⟩

mutual
/-- reading marks: what is left, or -1 -/
def held : Int → List Tm → Bool
  | _, [] => true
  | m, t :: ts => heldT m t && held (m + 2 * t.size) ts
def heldT : Int → Tm → Bool | m, .mk k n ks => k == m && n == m + 1 && held (m + 2) ks
end
theorem held_mark : (∀ t m, heldT m (markT m t) = true) ∧ (∀ ts m, held m (markL m ts) = true) := by
  refine Tm.ind2 (fun k n ks ih m => ?_) (fun m => by simp [markL, held]) (fun t ts h1 h2 m => ?_)
  · rw [markT, heldT, ih]; simp
  · rw [markL, held, h1, mark_sizes.1, h2]; rfl
theorem held_append : ∀ (ts us : List Tm) (m : Int), held m (ts ++ us) = (held m ts && held (m + 2 * sizes ts) us)
  | [], us, m => by simp [held, sizes]
  | t :: ts, us, m => by
    rw [List.cons_append, held, held, held_append ts us, sizes, Bool.and_assoc]
    congr 3
    push_cast
    omega

set_option maxHeartbeats 2000000 in
set_option maxRecDepth 100000 in
/-- where the marks are there -/
theorem heldTermS_any (N : Nat) : ∀ (ks : List Tm) (A : Option Addr) (c : Nat) (m : Int) (w : World), sizes ks < N → sizes ks ≤ 1099511627776 → 0 ≤ m → m + 2 * sizes ks ≤ 4398046511104 → Rd w A 0 ks → held m ks = true →
    Calls Try.prog 14 #[.slice A ks.length c, .int .i64 m] w fun e w' => e = .returned (.int .i64 (m + 2 * sizes ks)) ∧ w = w' := by
  induction N with
  | zero => intro ks A c m w hN; exact absurd hN (Nat.not_lt_zero _)
  | succ N ih =>
  intro ks A c m w hN hM hm0 hm1 hr hh
  have hlen := length_le_sizes ks
  have hh' := hide hh
  clear hh
  go_enter Try.func14, Try.ntmps14
  go_wp2_with fail
  go_loopw [1, 5] (fun mv i wr => ∃ (j : Nat), j ≤ ks.length ∧ i = .int .i64 j ∧ mv = .int .i64 (m + 2 * sizes (ks.take j)) ∧ w = wr) (fun _ i _ => ks.length - (intOf i).toNat)
  case atStart => exact ⟨0, Nat.zero_le _, rfl, by simp [sizes], rfl⟩
  case round =>
    obtain ⟨j, hj, rfl, rfl, rfl⟩ := hrel
    have hsl := sizes_take_le ks j
    by_cases hlt : j < ks.length
    · obtain ⟨b, off, k', n', ks', A', c', rfl, hkj, hc1, hc2, hc3, hl', hr'⟩ := hr.at_ hlt
      have hst := sizes_take ks j hlt
      have hsl2 := sizes_take_le ks (j + 1)
      have hht : held m (ks.take (j + 1)) = true := by
        have := hh'.out
        rw [← List.take_append_drop (j + 1) ks, held_append, Bool.and_eq_true] at this
        exact this.1
      rw [List.take_succ_eq_append_getElem hlt, held_append, Bool.and_eq_true, held, Bool.and_eq_true, hkj, heldT, Bool.and_eq_true, Bool.and_eq_true, beq_iff_eq, beq_iff_eq] at hht
      obtain ⟨⟨⟨hk1, hn1⟩, hk2⟩, -⟩ := hht.2
      rw [hkj] at hst
      simp only [Tm.size] at hst
      subst hk1
      subst hn1
      have h8 := hide hst
      have h9 := hide hk2
      have hsz : sizes (ks.take j) + (sizes ks' + 1) ≤ sizes ks := by omega
      clear hkj hst hht hk2
      go_wp2_with (go_at_call 14; refine (ih ks' A' c' (m + 2 * sizes (ks.take j) + 1 + 1) _ (by omega) (by omega) (by omega) (by omega) hr' (by have := h9.out; rw [show m + 2 * (sizes (ks.take j) : Int) + 1 + 1 = m + 2 * sizes (ks.take j) + 2 from by omega]; exact this)).mono ?_; rintro e w3 ⟨rfl, rfl⟩)
      go_roundw
      case rel => exact ⟨j + 1, hlt, by go_num, by rw [h8.out]; push_cast; congr 1; omega, trivial⟩
      case measure => simp [intOf]; omega
    · have hjl : j = ks.length := by omega
      subst hjl
      go_wp2_with fail
      go_ret
      exact ⟨ret_int (by rw [List.take_length]), rfl⟩

set_option maxHeartbeats 1000000 in
set_option maxRecDepth 100000 in
theorem heldTerm_any (k n : Int) (ks : List Tm) (A : Option Addr) (c : Nat) (m : Int) (w : World) (hM : sizes ks ≤ 1099511627776) (hm0 : 0 ≤ m) (hm1 : m + 2 * sizes ks ≤ 4398046511104) (hr : Rd w A 0 ks) (hh : held m ks = true) :
    Calls Try.prog 13 #[.agg #[.int .i64 k, .int .i64 n, .slice A ks.length c], .int .i64 m] w fun e w' => e = .returned (.int .i64 (m + 2 * sizes ks)) ∧ Below w.heap.size w w' := by
  have hh' := hide hh
  clear hh
  go_enter Try.func13, Try.ntmps13
  go_wp2_with (go_at_call 14; refine (heldTermS_any (sizes ks + 1) ks A c m _ (by omega) hM hm0 hm1 (hr.alloc _) hh'.out).mono ?_; rintro e w1 ⟨rfl, rfl⟩)
  go_ret
  exact ⟨rfl, (Below.refl _ _).alloc (Nat.le_refl _) _⟩
end Go.Proofs.Ytgmljpmnfncceaa

namespace Go.Proofs.Ytgmljpmnfncceaa
open Go.RowKit
set_option linter.unusedSimpArgs false
set_option linter.unusedVariables false

/-- a list in blocks of its own, which lie between two numbers -/
structure OwF (w : World) (A : Option Addr) (ks : List Tm) (fp : List Nat) (lo hi : Nat) : Prop where
  ow : Ow w A ks fp
  nodup : fp.Nodup
  lo : ∀ b, b ∈ fp → lo ≤ b
  hi : ∀ b, b ∈ fp → b < hi
theorem Fresh.owf {B : Nat} {w : World} {A : Option Addr} {ks : List Tm} (h : Fresh B w A ks) : ∃ fp, OwF w A ks fp B w.heap.size := by
  obtain ⟨fp, h1, h2, h3⟩ := h; exact ⟨fp, h1, h2, h3, h1.lt⟩
variable {w w' : World} {A : Option Addr} {ks : List Tm} {fp fq : List Nat} {lo hi : Nat}
theorem OwF.rd (h : OwF w A ks fp lo hi) : Rd w A 0 ks := h.ow.rd
theorem OwF.keep (h : OwF w A ks fp lo hi) (hb : Below w.heap.size w w') : OwF w' A ks fp lo hi := ⟨h.ow.frame fun b hm => hb.block b (h.ow.lt b hm), h.nodup, h.lo, h.hi⟩
theorem OwF.alloc (h : OwF w A ks fp lo hi) (o : Obj) : OwF (w.alloc o) A ks fp lo hi := ⟨h.ow.frame fun b hm => Below.heap_alloc w o b (h.ow.lt b hm), h.nodup, h.lo, h.hi⟩
theorem OwF.drew (h : OwF w A ks fp lo hi) : OwF w.drew A ks fp lo hi := ⟨h.ow.frame fun b hm => rfl, h.nodup, h.lo, h.hi⟩
theorem OwF.only (h : OwF w A ks fp lo hi) (ho : OnlyIn fq w w') (hd : ∀ b, b ∈ fp → b ∉ fq) : OwF w' A ks fp lo hi := ⟨h.ow.frame fun b hm => ho.block b (h.ow.lt b hm) (hd b hm), h.nodup, h.lo, h.hi⟩
theorem OwF.marked {m : Int} (h : OwF w A ks fp lo hi) (ho : Ow w' A (markL m ks) fp) : OwF w' A (markL m ks) fp lo hi := ⟨ho, h.nodup, h.lo, h.hi⟩
/-- blocks that end where others begin -/
theorem OwF.apart {A' : Option Addr} {ks' : List Tm} {lo' hi' : Nat} (h : OwF w A ks fp lo hi) (h' : OwF w' A' ks' fq lo' hi') (hh : hi ≤ lo') : ∀ b, b ∈ fp → b ∉ fq := fun b h1 h2 => by have := h.hi b h1; have := h'.lo b h2; omega
theorem OwF.apart' {A' : Option Addr} {ks' : List Tm} {lo' hi' : Nat} (h : OwF w A ks fp lo hi) (h' : OwF w' A' ks' fq lo' hi') (hh : hi' ≤ lo) : ∀ b, b ∈ fp → b ∉ fq := fun b h1 h2 => by have := h.lo b h1; have := h'.hi b h2; omega
theorem OwF.out (h : OwF w A ks fp lo hi) {g : Nat} (hg : g < lo ∨ hi ≤ g) : g ∉ fp := fun h1 => by have := h.lo g h1; have := h.hi g h1; omega
theorem Blk.only {g : Nat} {cs : Array Value} (h : Blk w g cs) (ho : OnlyIn fq w w') (hg : g ∉ fq) : Blk w' g cs := by have hl := h.lt; obtain ⟨t, h⟩ := h; exact ⟨t, (ho.block g hl hg).trans h⟩
theorem OwF.below (h : OwF w A ks fp lo hi) (ho : OnlyIn fp w w') (hlo : lo ≤ w.heap.size) : Below lo w w' := ho.below hlo h.lo

theorem held_again (k n : Int) (ks : List Tm) (A : Option Addr) (c : Nat) (w : World) (hM : sizes ks ≤ 1099511627776) (hr : Rd w A 0 (markL 1 ks)) :
    Calls Try.prog 13 #[.agg #[.int .i64 k, .int .i64 n, .slice A ks.length c], .int .i64 1] w fun e w' => e = .returned (.int .i64 (1 + 2 * sizes ks)) ∧ Below w.heap.size w w' := by
  have h := heldTerm_any k n (markL 1 ks) A c 1 w (by rw [mark_sizes.2]; exact hM) (by omega) (by rw [mark_sizes.2]; omega) hr (held_mark.2 ks 1)
  rwa [markL_length, mark_sizes.2] at h
set_option maxRecDepth 100000 in
/-- an argument that is a list of terms -/
theorem open_list {H : Type} {enc : TypeId × Value → H} {W : World} {base : Nat} {spare : Nat → Bool} {held : Bool} {r : Reach} {b0 : Nat} {v : Value} {d : DataW H} {p : List MemPlace} (hv : Value.okWide Try.prog W r b0 22 v) (h : DataW.Trod enc Try.prog W base spare held 22 v d p) :
    ∃ (ks : List Tm) (A : Option Addr) (c : Nat), v = .slice A ks.length c ∧ ks.length ≤ 9223372036854775807 ∧ Rd W A 0 ks := by
  obtain ⟨a, len, cap, rfl⟩ := Go.WideShapes.okWide_slice Try.underlying22 hv
  obtain ⟨fuel, hf⟩ := h
  exact open_terms fuel _ _ hf
end Go.Proofs.Ytgmljpmnfncceaa

namespace Go.Proofs.Ytgmljpmnfncceaa
open Go.RowKit
set_option linter.unusedSimpArgs false
set_option linter.unusedVariables false

/-- kinds that bind in their second operand -/
def binds (k : Int) : Bool := k == 3 || k == 4 || k == 13
/-- how many variables the operand at a place lies under -/
def under (k : Int) (i : Int) : Int := if i = 1 ∧ binds k = true then 1 else 0
theorem under_le (k i : Int) : 0 ≤ under k i ∧ under k i ≤ 1 := by unfold under; split <;> omega

set_option maxRecDepth 100000 in
set_option maxHeartbeats 1000000 in
theorem isBinder_any (k : Int) (w : World) : Calls Try.prog 77 #[.int .i64 k] w fun e w' => e = .returned (.bool (binds k)) ∧ w = w' := by
  by_cases h3 : k = 3
  · subst h3; go_enter Try.func77, Try.ntmps77; go_wp2_with fail; go_ret; exact ⟨rfl, rfl⟩
  by_cases h4 : k = 4
  · subst h4; go_enter Try.func77, Try.ntmps77; go_wp2_with fail; go_ret; exact ⟨rfl, rfl⟩
  have e3 : (k == 3) = false := by simpa using h3
  have e4 : (k == 4) = false := by simpa using h4
  have hz : binds k = (k == 13) := by simp [binds, e3, e4]
  rw [hz]
  go_enter Try.func77, Try.ntmps77
  go_wp2_with fail
  go_ret
  exact ⟨ret_bool (by simp), rfl⟩

set_option maxRecDepth 100000 in
set_option maxHeartbeats 1000000 in
theorem iUnder_any (k i : Int) (w : World) : Calls Try.prog 55 #[.int .i64 k, .int .i64 i] w fun e w' => e = .returned (.int .i64 (under k i)) ∧ w = w' := by
  by_cases hi : i = 1
  · subst hi
    cases hb : binds k with
    | false =>
      have hz : under k 1 = 0 := by simp [under, hb]
      rw [hz]
      go_enter Try.func55, Try.ntmps55
      go_wp2_with (go_at_call 77; refine (isBinder_any _ _).mono ?_; rw [hb]; rintro e w1 ⟨rfl, rfl⟩)
      go_ret
      exact ⟨rfl, rfl⟩
    | true =>
      have hz : under k 1 = 1 := by simp [under, hb]
      rw [hz]
      go_enter Try.func55, Try.ntmps55
      go_wp2_with (go_at_call 77; refine (isBinder_any _ _).mono ?_; rw [hb]; rintro e w1 ⟨rfl, rfl⟩)
      go_ret
      exact ⟨rfl, rfl⟩
  · have e1 : (i == 1) = false := by simpa using hi
    have hz : under k i = 0 := by simp [under, hi]
    clear hi
    rw [hz]
    go_enter Try.func55, Try.ntmps55
    go_wp2_with fail
    go_ret
    exact ⟨rfl, rfl⟩

set_option maxRecDepth 100000 in
set_option maxHeartbeats 1000000 in
theorem sBinds_any (k i : Int) (w : World) : Calls Try.prog 75 #[.int .i64 k, .int .i64 i] w fun e w' => e = .returned (.bool (i == 1 && binds k)) ∧ w = w' := by
  by_cases hi : i = 1
  · subst hi
    by_cases h3 : k = 3
    · subst h3; go_enter Try.func75, Try.ntmps75; go_wp2_with fail; go_ret; exact ⟨rfl, rfl⟩
    by_cases h4 : k = 4
    · subst h4; go_enter Try.func75, Try.ntmps75; go_wp2_with fail; go_ret; exact ⟨rfl, rfl⟩
    have e3 : (k == 3) = false := by simpa using h3
    have e4 : (k == 4) = false := by simpa using h4
    have hz : ((1 : Int) == 1 && binds k) = (k == 13) := by simp [binds, e3, e4]
    rw [hz]
    go_enter Try.func75, Try.ntmps75
    go_wp2_with fail
    go_ret
    exact ⟨ret_bool (by simp), rfl⟩
  · have e1 : (i == 1) = false := by simpa using hi
    rw [e1, Bool.false_and]
    clear hi
    go_enter Try.func75, Try.ntmps75
    go_wp2_with fail
    go_ret
    exact ⟨rfl, rfl⟩

set_option maxRecDepth 100000 in
set_option maxHeartbeats 1000000 in
theorem sUnder_any (k i : Int) (w : World) : Calls Try.prog 50 #[.int .i64 k, .int .i64 i] w fun e w' => e = .returned (.int .i64 (under k i)) ∧ w = w' := by
  cases hb : (i == 1 && binds k) with
  | false =>
    have hz : under k i = 0 := by
      unfold under; rw [if_neg]; rintro ⟨h1, h2⟩; subst h1; simp [h2] at hb
    rw [hz]
    go_enter Try.func50, Try.ntmps50
    go_wp2_with (go_at_call 75; refine (sBinds_any _ _ _).mono ?_; rw [hb]; rintro e w1 ⟨rfl, rfl⟩)
    go_ret
    exact ⟨rfl, rfl⟩
  | true =>
    have hz : under k i = 1 := by
      unfold under; rw [if_pos]; simpa using hb
    rw [hz]
    go_enter Try.func50, Try.ntmps50
    go_wp2_with (go_at_call 75; refine (sBinds_any _ _ _).mono ?_; rw [hb]; rintro e w1 ⟨rfl, rfl⟩)
    go_ret
    exact ⟨rfl, rfl⟩
end Go.Proofs.Ytgmljpmnfncceaa

namespace Go.Proofs.Ytgmljpmnfncceaa
open Go.RowKit
set_option linter.unusedSimpArgs false
set_option linter.unusedVariables false

mutual
/-- every variable replaced by what f says of it and of how many variables stand between -/
def chg (f : Int → Int → Tm) : Int → Tm → Tm
  | d, .mk k n ks => if k = 1 then f n d else .mk k n (chgs f k d 0 ks)
def chgs (f : Int → Int → Tm) : Int → Int → Nat → List Tm → List Tm
  | _, _, _, [] => []
  | k, d, i, t :: ts => chg f (d + under k i) t :: chgs f k d (i + 1) ts
end
mutual
/-- whether each replacement went well -/
def chgOk (ok : Int → Int → Bool) : Int → Tm → Bool
  | d, .mk k n ks => if k = 1 then ok n d else chgsOk ok k d 0 ks
def chgsOk (ok : Int → Int → Bool) : Int → Int → Nat → List Tm → Bool
  | _, _, _, [] => true
  | k, d, i, t :: ts => chgOk ok (d + under k i) t && chgsOk ok k d (i + 1) ts
end
theorem chgs_append (f : Int → Int → Tm) (k d : Int) (us : List Tm) : ∀ (ts : List Tm) (i : Nat), chgs f k d i (ts ++ us) = chgs f k d i ts ++ chgs f k d (i + ts.length) us
  | [], i => by simp [chgs]
  | t :: ts, i => by rw [List.cons_append, chgs, chgs, chgs_append f k d us ts (i + 1), List.cons_append, List.length_cons, show i + 1 + ts.length = i + (ts.length + 1) from by omega]
theorem chgs_length (f : Int → Int → Tm) (k d : Int) : ∀ (ts : List Tm) (i : Nat), (chgs f k d i ts).length = ts.length
  | [], i => by simp [chgs]
  | t :: ts, i => by rw [chgs, List.length_cons, List.length_cons, chgs_length f k d ts (i + 1)]
theorem chgsOk_append (ok : Int → Int → Bool) (k d : Int) (us : List Tm) : ∀ (ts : List Tm) (i : Nat), chgsOk ok k d i (ts ++ us) = (chgsOk ok k d i ts && chgsOk ok k d (i + ts.length) us)
  | [], i => by simp [chgsOk]
  | t :: ts, i => by rw [List.cons_append, chgsOk, chgsOk, chgsOk_append ok k d us ts (i + 1), List.length_cons, show i + 1 + ts.length = i + (ts.length + 1) from by omega, Bool.and_assoc]
theorem chgs_take (f : Int → Int → Tm) (k d : Int) {ks : List Tm} {j : Nat} (hj : j < ks.length) : chgs f k d 0 (ks.take (j + 1)) = chgs f k d 0 (ks.take j) ++ [chg f (d + under k j) ks[j]] := by
  rw [List.take_succ_eq_append_getElem hj, chgs_append, List.length_take, Nat.min_eq_left (Nat.le_of_lt hj), Nat.zero_add, chgs, chgs]
theorem chgsOk_take (ok : Int → Int → Bool) (k d : Int) {ks : List Tm} {j : Nat} (hj : j < ks.length) : chgsOk ok k d 0 (ks.take (j + 1)) = (chgsOk ok k d 0 (ks.take j) && chgOk ok (d + under k j) ks[j]) := by
  rw [List.take_succ_eq_append_getElem hj, chgsOk_append, List.length_take, Nat.min_eq_left (Nat.le_of_lt hj), Nat.zero_add, chgsOk, chgsOk, Bool.and_true]

theorem tm_eta (t : Tm) : ∃ k n ks, t = .mk k n ks := by cases t; exact ⟨_, _, _, rfl⟩
/-- a term handed back in new memory, a flag's block turned -/
def GotG (g : Nat) (w : World) (t : Tm) (b : Bool) (e : Ending) (w' : World) : Prop :=
  ∃ A c, e = .returned (.agg #[.int .i64 t.k, .int .i64 t.n, .slice A t.ks.length c]) ∧ t.ks.length ≤ 9223372036854775807 ∧ Fresh w.heap.size w' A t.ks ∧ Blk w' g #[.bool b] ∧ w.grownBy w' (some g)
theorem gotG_mk {g : Nat} {w : World} {k n : Int} {ks : List Tm} {b : Bool} {e : Ending} {w' : World} (h : GotG g w (.mk k n ks) b e w') :
    ∃ A c, e = .returned (.agg #[.int .i64 k, .int .i64 n, .slice A ks.length c]) ∧ ks.length ≤ 9223372036854775807 ∧ Fresh w.heap.size w' A ks ∧ Blk w' g #[.bool b] ∧ w.grownBy w' (some g) := h
theorem only_belowB {a w w' : World} {row : Option Nat} {B : Nat} (h : a.grownBy w row) (k : Below B w w') (hB : a.heap.size ≤ B) : a.grownBy w' row :=
  ⟨k.os.trans h.os, k.tape.trans h.tape, k.output.trans h.output, Nat.le_trans h.size k.size, fun i hi hne => (k.block i (by omega)).trans (h.block i hi hne)⟩
/-- what is asked of the function that is handed over -/
def FunOk (F : Nat) (caps : List Value) (W0 : World) (g : Nat) (f : Int → Int → Tm) (ok : Int → Int → Bool) : Prop :=
  ∀ (n d : Int) (w : World) (b : Bool), 0 ≤ n → n ≤ 20 → 0 ≤ d → d ≤ 60 → W0.grownBy w (some g) → Blk w g #[.bool b] → Calls Try.prog F (.int .i64 n :: .int .i64 d :: caps).toArray w (GotG g w (f n d) (b && ok n d))
theorem grown_trans {a w w' : World} {row : Option Nat} (h : a.grownBy w row) (k : w.grownBy w' row) : a.grownBy w' row := only_trans h k
theorem Blk.ruleG {wx : World} {g b : Nat} {cs : Array Value} (h : Blk wx b cs) (hb : b ≠ g) {i : Nat} {v : Value} (hi : cs[i]? = some v) : ∀ w' : World, wx.grownBy w' (some g) → w'.cell? ⟨b, i, none⟩ = some v :=
  fun _ hw => (h.grown hw (by simpa using hb)).at_ hi

theorem run_enter {F : Nat} {fn : Func} (hf : Try.prog.funcs[F]? = some fn) (h1 : (fn.name == "runtime.NumGoroutine") = false) (h2 : fn.body.isNone = false) (args : Array Value) (w : World) : (callFunc F args).run Try.prog w = .ok (.enter F args) w := by
  have h1' : fn.name ≠ "runtime.NumGoroutine" := by simpa using h1
  have h2' : fn.body ≠ none := by intro e; rw [e] at h2; cases h2
  simp [callFunc, go_sem, hf, h1', h2']

set_option maxHeartbeats 2000000 in
set_option maxRecDepth 100000 in
theorem changed_any {F : Nat} {caps : List Value} {W0 : World} {g : Nat} {f : Int → Int → Tm} {ok : Int → Int → Bool} (hF : FunOk F caps W0 g f ok) (hrun : ∀ (args : Array Value) (w : World), (callFunc F args).run Try.prog w = .ok (.enter F args) w) (N : Nat) :
    ∀ (k n : Int) (ks : List Tm) (A : Option Addr) (c : Nat) (d : Int) (q : Nat) (w : World) (b : Bool), sizes ks < N → shape q (.mk k n ks) = true → 0 ≤ d → d + q ≤ 60 → sizes ks ≤ 1099511627776 →
      W0.grownBy w (some g) → Blk w g #[.bool b] → RdP (· ≠ g) w A 0 ks →
      Calls Try.prog 88 #[.agg #[.int .i64 k, .int .i64 n, .slice A ks.length c], .int .i64 d, .func (.func F) #[] caps.toArray] w (GotG g w (chg f d (.mk k n ks)) (b && chgOk ok d (.mk k n ks))) := by
  induction N with
  | zero => intro k n ks A c d q w b hN; exact absurd hN (Nat.not_lt_zero _)
  | succ N ih =>
  intro k n ks A c d q w b hN hsh hd0 hdq hM hW hg hr
  have hlen := length_le_sizes ks
  obtain ⟨q, rfl⟩ : ∃ q', q = q' + 1 := by cases q with | zero => simp [shape] at hsh | succ q => exact ⟨q, rfl⟩
  obtain ⟨ha, hm1, hm2, hkids⟩ := (shape_split q k n ks).1 hsh
  have hgl := hg.lt
  by_cases hk : k = 1
  · subst hk
    have hz : chg f d (.mk 1 n ks) = f n d := by rw [chg, if_pos rfl]
    have hzo : chgOk ok d (.mk 1 n ks) = ok n d := by rw [chgOk, if_pos rfl]
    have hn2 : n ≤ 20 := by simpa [mostN] using hm2
    rw [hz, hzo]
    generalize hft : f n d = ft
    go_enter Try.func88, Try.ntmps88
    go_wp2_with (refine (hF n d _ b hm1 hn2 hd0 (by omega) ((grown_trans hW (only_alloc (only_alloc (World.grownBy.refl _ _) _) _))) ((hg.alloc _).alloc _)).mono ?_; rw [hft]; rintro e w3 ⟨A3, c3, rfl, hl3, hf3, hg3, hgr3⟩; have hT : Blk w3 (w.heap.size + 1) #[.int .i64 0, .int .i64 0, .slice none 0 0] := (Blk.new_ (n := w.heap.size + 1) (w.alloc (.cells #[.int .i64 1, .int .i64 n, .slice A ks.length c] 28)) 28 #[.int .i64 0, .int .i64 0, .slice none 0 0] (by simp)).grown hgr3 (by simp; omega); have d0 := hT.at_ (i := 0) rfl; have d1 := hT.at_ (i := 1) rfl; have d2 := hT.at_ (i := 2) rfl; have e0 := hT.frozen 0; have e1 := hT.frozen 1; have e2 := hT.frozen 2)
    have hgr : w.grownBy w3 (some g) := grown_trans (only_alloc (only_alloc (World.grownBy.refl _ _) _) _) hgr3
    have hsz : w.heap.size + 1 < w3.heap.size := by have := hT.lt; simpa using this
    have hgne : g ≠ w.heap.size + 1 := by omega
    refine bodyPost_ret (v := .agg #[.int .i64 ft.k, .int .i64 ft.n, .slice A3 ft.ks.length c3]) (by simp [results, Try.results88, go_sem, d0, d1, d2]) rfl ⟨A3, c3, rfl, hl3, ?_, ?_, ?_⟩
    · exact (((hf3.setCell (by simp) _).setCell (by simp) _).setCell (by simp) _).mono (by simp; omega)
    · exact ((hg3.far (by simpa using hgne) _).far (by simpa using hgne) _).far (by simpa using hgne) _
    · exact only_setCell (only_setCell (only_setCell hgr (.inr (by simp)) _) (.inr (by simp)) _) (.inr (by simp)) _
  · have hz : chg f d (.mk k n ks) = .mk k n (chgs f k d 0 ks) := by rw [chg, if_neg hk]
    have hzo : chgOk ok d (.mk k n ks) = chgsOk ok k d 0 ks := by rw [chgOk, if_neg hk]
    have q1 : (k == 1) = false := by simpa using hk
    rw [hz, hzo]
    have hkids' := hide hkids
    clear hz hzo hk hkids ha hm1 hm2 hsh
    go_enter Try.func88, Try.ntmps88
    go_wp2_with fail
    go_loopw [26] (fun i wr => ∃ (j : Nat) (v : Value), j ≤ ks.length ∧ i = .int .i64 j ∧ Part (w.heap.size + 3) wr v (chgs f k d 0 (ks.take j)) ∧ Blk wr (w.heap.size + 1 + 1) #[.int .i64 k, .int .i64 n, v] ∧ Blk wr (w.heap.size + 1) #[.int .i64 0, .int .i64 0, .slice none 0 0] ∧ Blk wr w.heap.size #[.int .i64 k, .int .i64 n, .slice A ks.length c] ∧ Blk wr g #[.bool (b && chgsOk ok k d 0 (ks.take j))] ∧ w.grownBy wr (some g))
      (fun i _ => ks.length - (intOf i).toNat)
    case atStart => exact ⟨0, _, Nat.zero_le _, rfl, Part.nil, Blk.new_ _ _ _ (by simp), (Blk.new_ _ _ _ (by simp)).alloc _, ((Blk.new_ _ _ _ rfl).alloc _).alloc _, by simpa [chgsOk] using ((hg.alloc _).alloc _).alloc _, only_alloc (only_alloc (only_alloc (World.grownBy.refl _ _) _) _) _⟩
    case round =>
      obtain ⟨j, v, hj, rfl, hp, hB3, hB2, hB1, hGr, hgr⟩ := hrel
      by_cases hlt : j < ks.length
      · obtain ⟨b1, off, k', n', ks', A', c', rfl, hkj, hc1, hc2, hc3, hl', hr'⟩ := (hr.grown hgr (fun b hb e => hb (by injection e))).at_ hlt
        have hbl := World.block_lt_of_cell? _ _ hc1
        have hsz := sizes_le (List.getElem_mem hlt)
        have hsk := hkids'.out _ (List.getElem_mem hlt)
        rw [hkj] at hsz hsk
        simp only [Tm.size] at hsz
        have H3 := hide hkj
        have H4 := hide hsk
        clear hkj hsk
        have hz3 := hB3.lt
        have c2 : wr.cell? ⟨w.heap.size + 1 + 1, 2, none⟩ = some v := hB3.at_ rfl
        go_wp2_with fail
        refine name_world ?_
        intro wx hwx
        have hXB : Blk wx wr.heap.size #[.int .i64 k', .int .i64 n', .slice A' ks'.length c'] := by rw [hwx]; exact Blk.new_ _ _ _ rfl
        have hpx : Part (w.heap.size + 3) wx v (chgs f k d 0 (ks.take j)) := by rw [hwx]; exact hp.alloc _
        have hrx : RdP (· ≠ g) wx A' 0 ks' := by rw [hwx]; exact hr'.alloc _
        have hB3x : Blk wx (w.heap.size + 1 + 1) #[.int .i64 k, .int .i64 n, v] := by rw [hwx]; exact hB3.alloc _
        have hB2x : Blk wx (w.heap.size + 1) #[.int .i64 0, .int .i64 0, .slice none 0 0] := by rw [hwx]; exact hB2.alloc _
        have hB1x : Blk wx w.heap.size #[.int .i64 k, .int .i64 n, .slice (some ⟨b1, off, none⟩) ks.length c] := by rw [hwx]; exact hB1.alloc _
        have hGx : Blk wx g #[.bool (b && chgsOk ok k d 0 (ks.take j))] := by rw [hwx]; exact hGr.alloc _
        have hgx : w.grownBy wx (some g) := by rw [hwx]; exact only_alloc hgr _
        have hs1 : wr.heap.size < wx.heap.size := by rw [hwx]; simp
        have hs2 : w.heap.size + 1 + 1 < wx.heap.size := by omega
        have x2 := hB3x.ruleG (g := g) (by omega) (i := 2) rfl
        have x0 := hB1x.ruleG (g := g) (by omega) (i := 0) rfl
        have y0 := hXB.ruleG (g := g) (by omega) (i := 0) rfl
        have y1 := hXB.ruleG (g := g) (by omega) (i := 1) rfl
        have y2 := hXB.ruleG (g := g) (by omega) (i := 2) rfl
        have hun := under_le k j
        clear hwx
        refine wp_region_firstY (fun w' => wx.grownBy w' (some g)) [0, 1, 2, 3, 4, 5, 6, 7, 8, 9] [10, 11] [12, 13, 14] [_, _, _, _, _, _, _, _, _, _] [_, _] [_, _, _] (by kernel_rfl) (by kernel_rfl) rfl rfl rfl (fun _ _ d _ _ h => by cases d <;> exact h) (only_drew (World.grownBy.refl _ _)) ?_
        repeat (first | ((refine takeY_skip (a' := ?_) ?_ ?_ ?_); (rotate_left); (· (simp [Region.wanted, yielded]; done)); (· (simp only [Act.put, List.setIfInBounds_toArray, List.set_cons_zero, List.set_cons_succ]; exact rfl))) | ((refine takeY_step (v := ?_) (a' := ?_) ?_ ?_ ?_ ?_); (rotate_left 2); (· (simp [Region.wanted, yielded]; done)); (· (intro w' hS'; go_simp; try (with_reducible rfl))); (· (simp only [Act.put, List.setIfInBounds_toArray, List.set_cons_zero, List.set_cons_succ]; exact rfl))) | ((refine takeY_call (v := ?_) (a' := ?_) 55 ?_ ?_ ?_ ?_ ?_ ?_); (rotate_left 3); (· (simp [Region.wanted, yielded]; done)); (· (intro w' hS'; go_simp; try (with_reducible rfl))); (· (intro w' hS'; exact iUnder_any _ _ _)); (· (simp only [Act.put, List.setIfInBounds_toArray, List.set_cons_zero, List.set_cons_succ]; exact rfl))))
        obtain ⟨k2, n2, ks2, hct⟩ : ∃ k2 n2 ks2, chg f (d + under k j) (.mk k' n' ks') = .mk k2 n2 ks2 := tm_eta _
        have hct' := hide hct
        clear hct
        refine takeY_nil (then_cons ?_)
        go_wp2_with (go_at_call 88; refine (ih k' n' ks' A' c' (d + under k j) q _ (b && chgsOk ok k d 0 (ks.take j)) (by omega) H4.out (by omega) (by omega) (by omega) (grown_trans hW (grown_trans hgx (only_drew (World.grownBy.refl _ _)))) hGx.drew hrx.drew).mono ?_; rw [hct'.out]; intro e w1 hpost; obtain ⟨A1, c1, rfl, hl1, hf1, hG1, hg1⟩ := gotG_mk hpost; clear hpost)
        have hx1 : wx.grownBy w1 (some g) := grown_trans (only_drew (World.grownBy.refl _ _)) hg1
        have hw1 : wx.heap.size ≤ w1.heap.size := hx1.size
        refine mid_intro hx1 (then_cons ?_)
        go_wp2_with fail
        refine mid_intro (only_alloc hx1 _) (then_nil ?_)
        refine wpList_append_builtG (B := w.heap.size + 3) (m := j) hpx.drew (fun b h1 h2 => hg1.block b h2 (by simp; omega)) hw1 (by simp; omega) hf1 hl1 (by rw [chgs_length]; simp; omega) (by omega) rfl (.tmp 32) (.tmp 42) rfl rfl rfl ?_
        intro A2 c2 w2 hp2 hb2 hg2
        have q3 : Blk w2 (w.heap.size + 1 + 1) #[.int .i64 k, .int .i64 n, v] := (hB3x.grown hx1 (by simp; omega)).below hb2 (by omega)
        have q2 : Blk w2 (w.heap.size + 1) #[.int .i64 0, .int .i64 0, .slice none 0 0] := (hB2x.grown hx1 (by simp; omega)).below hb2 (by omega)
        have q1 : Blk w2 w.heap.size #[.int .i64 k, .int .i64 n, .slice (some ⟨b1, off, none⟩) ks.length c] := (hB1x.grown hx1 (by simp; omega)).below hb2 (by omega)
        have qg := hG1.below hb2 (by omega)
        have c3 : w2.cell? ⟨w.heap.size + 1 + 1, 2, none⟩ = some v := q3.at_ rfl
        have z3 := q3.frozen 2
        have hgf : w.grownBy w2 (some g) := only_belowB (grown_trans hgx hx1) hb2 (by omega)
        clear x2 y0 y1 y2 x0 hpx hrx hB3x hB2x hB1x hGx
        go_wp2_with fail
        go_roundw
        case rel =>
          refine ⟨j + 1, _, by omega, by go_num, ?_, q3.set_ 2 _, q2.far (by simp) _, q1.far (by simp; omega) _, ?_, only_setCell hgf (.inr (by simp; omega)) _⟩
          · rw [chgs_take f k d hlt, H3.out, hct'.out]
            exact hp2.setCell (by simp) _
          · rw [chgsOk_take ok k d hlt, H3.out, ← Bool.and_assoc]
            exact qg.far (by simp; omega) _
        case measure => simp [intOf]; omega
      · have hjl : j = ks.length := by omega
        subst hjl
        rw [List.take_length] at hp hGr
        obtain ⟨Ar, cr, rfl, hfr⟩ := hp.fresh
        have c0 : wr.cell? ⟨w.heap.size + 1 + 1, 0, none⟩ = some (.int .i64 k) := hB3.at_ rfl
        have c1 : wr.cell? ⟨w.heap.size + 1 + 1, 1, none⟩ = some (.int .i64 n) := hB3.at_ rfl
        have c2 : wr.cell? ⟨w.heap.size + 1 + 1, 2, none⟩ = some (.slice Ar (chgs f k d 0 ks).length cr) := hB3.at_ rfl
        have d0 : wr.cell? ⟨w.heap.size + 1, 0, none⟩ = some (.int .i64 0) := hB2.at_ rfl
        have d1 : wr.cell? ⟨w.heap.size + 1, 1, none⟩ = some (.int .i64 0) := hB2.at_ rfl
        have d2 : wr.cell? ⟨w.heap.size + 1, 2, none⟩ = some (.slice none 0 0) := hB2.at_ rfl
        have e0 := hB2.frozen 0
        have e1 := hB2.frozen 1
        have e2 := hB2.frozen 2
        have hgne : g ≠ w.heap.size + 1 := by omega
        go_wp2_with fail
        refine bodyPost_ret (v := .agg #[.int .i64 k, .int .i64 n, .slice Ar (chgs f k d 0 ks).length cr]) (by simp [results, Try.results88, go_sem, d0, d1, d2]) rfl ⟨Ar, cr, rfl, by rw [show (Tm.mk k n (chgs f k d 0 ks)).ks = chgs f k d 0 ks from rfl, chgs_length]; omega, ?_, ?_, ?_⟩
        · exact (((hfr.setCell (by simp) _).setCell (by simp) _).setCell (by simp) _).mono (by omega)
        · exact ((hGr.far (by simpa using hgne) _).far (by simpa using hgne) _).far (by simpa using hgne) _
        · exact only_setCell (only_setCell (only_setCell hgr (.inr (by simp)) _) (.inr (by simp)) _) (.inr (by simp)) _
end Go.Proofs.Ytgmljpmnfncceaa

namespace Go.Proofs.Ytgmljpmnfncceaa
open Go.RowKit
set_option linter.unusedSimpArgs false
set_option linter.unusedVariables false

/-- what a scan answers -/
def scanB (d : Nat) (c0 : Int) (k n : Int) (ks : List Tm) : Bool := shape d (.mk k n ks) && decide (c0 + 1 + sizes ks ≤ 400)
theorem scan_no {d : Nat} {c0 k n : Int} {ks : List Tm} (h : ¬ (0 < d ∧ arity k = (ks.length : Int) ∧ 0 ≤ n ∧ n ≤ mostN k ∧ c0 + 1 ≤ 400)) : false = scanB d c0 k n ks := by
  cases e : scanB d c0 k n ks with
  | false => rfl
  | true =>
    simp only [scanB, Bool.and_eq_true, decide_eq_true_eq] at e
    cases d with
    | zero => simp [shape] at e
    | succ d =>
      have := (shape_split d k n ks).1 e.1
      exact absurd ⟨by omega, this.1, this.2.1, this.2.2.1, by omega⟩ h
theorem scan_yes {d : Nat} {c0 k n : Int} {ks : List Tm} (h : shape d (.mk k n ks) = true) (h2 : c0 + 1 + (sizes ks : Int) ≤ 400) : true = scanB d c0 k n ks := by
  simp only [scanB, h, decide_eq_true h2, Bool.and_self]
theorem scan_child_yes {d : Nat} {c0 k1 n1 : Int} {ks ks1 : List Tm} {j : Nat} (hj : j < ks.length) (hk : ks[j] = .mk k1 n1 ks1) (hst : sizes (ks.take (j + 1)) = sizes (ks.take j) + (sizes ks1 + 1))
    (hb : true = scanB d (c0 + 1 + (sizes (ks.take j) : Int)) k1 n1 ks1) : shape d ks[j] = true ∧ c0 + 1 + (sizes (ks.take (j + 1)) : Int) ≤ 400 := by
  simp only [scanB] at hb
  have hb := hb.symm
  rw [Bool.and_eq_true, decide_eq_true_eq] at hb
  rw [hk]
  refine ⟨hb.1, ?_⟩
  have := hb.2
  rw [hst]
  push_cast
  omega
theorem scan_child_no {d : Nat} {c0 k n k1 n1 : Int} {ks ks1 : List Tm} {j : Nat} (hj : j < ks.length) (hk : ks[j] = .mk k1 n1 ks1) (hst : sizes (ks.take (j + 1)) = sizes (ks.take j) + (sizes ks1 + 1))
    (hb : false = scanB d (c0 + 1 + (sizes (ks.take j) : Int)) k1 n1 ks1) : false = scanB (d + 1) c0 k n ks := by
  cases e : scanB (d + 1) c0 k n ks with
  | false => rfl
  | true =>
    simp only [scanB, Bool.and_eq_true, decide_eq_true_eq] at e
    have h1 := (shape_split d k n ks).1 e.1
    have h2 := h1.2.2.2 _ (List.getElem_mem hj)
    have h3 := sizes_take_le ks (j + 1)
    rw [hk] at h2
    simp only [scanB, h2, Bool.true_and] at hb
    have := of_decide_eq_false hb.symm
    omega
theorem all_take {ks : List Tm} {j : Nat} {p : Tm → Prop} (hj : j < ks.length) (h : ∀ t, t ∈ ks.take j → p t) (h1 : p ks[j]) : ∀ t, t ∈ ks.take (j + 1) → p t := by
  intro t ht
  rw [List.take_succ_eq_append_getElem hj, List.mem_append] at ht
  rcases ht with ht | ht
  · exact h t ht
  · simp at ht; rw [ht]; exact h1
theorem only_alloc_drop {w w' : World} {o : Obj} {m : Option Nat} (h : (w.alloc o).grownBy w' m) : w.grownBy w' m := only_trans (only_alloc (World.grownBy.refl _ _) o) h
def ScanPost (d : Nat) (c0 : Int) (k n : Int) (ks : List Tm) (g : Nat) (w : World) (e : Ending) (w' : World) : Prop :=
  ∃ (b : Bool) (c1 : Int), e = .returned (.bool b) ∧ b = scanB d c0 k n ks ∧ (b = true → c1 = c0 + 1 + sizes ks) ∧ 0 ≤ c1 ∧ c1 ≤ 1000 ∧ Blk w' g #[.int .i64 c1] ∧ w.grownBy w' (some g)

set_option maxRecDepth 100000 in
set_option maxHeartbeats 2000000 in
theorem scan_any (N : Nat) : ∀ (k n : Int) (ks : List Tm) (A : Option Addr) (c : Nat) (deep : Int) (d : Nat) (c0 : Int) (g : Nat) (w : World), sizes ks < N → ks.length ≤ 9223372036854775807 → 1 ≤ deep → deep + d ≤ 31 → 31 ≤ deep + d → 0 ≤ c0 → c0 ≤ 900 →
    Blk w g #[.int .i64 c0] → RdP (· ≠ g) w A 0 ks →
    Calls Try.prog 47 #[.agg #[.int .i64 k, .int .i64 n, .slice A ks.length c], .int .i64 deep, .pointer (some ⟨g, 0, none⟩)] w (ScanPost d c0 k n ks g w) := by
  induction N with
  | zero => intro k n ks A c deep d c0 g w hN; exact absurd hN (Nat.not_lt_zero _)
  | succ N ih =>
  intro k n ks A c deep d c0 g w hN hl hd1 hd2 hd3 hc1 hc2 hcb hr
  have hgl := hcb.lt
  have hgc := hcb.at_ (i := 0) rfl
  have hgf := hcb.frozen 0
  by_cases h0 : c0 + 1 ≤ 400
  · by_cases h1 : deep ≤ 30
    · by_cases h2 : arity k = (ks.length : Int)
      · have q2 : (arity k != (ks.length : Int)) = false := by simpa using h2
        by_cases h3 : 0 ≤ n ∧ n ≤ mostN k
        · have q0 : decide (400 < c0 + 1) = false := by simp; omega
          have q1 : decide (30 < deep) = false := by simp; omega
          have q3 : (decide (0 ≤ n) && decide (n ≤ mostN k)) = true := by simp [h3.1, h3.2]
          have H := hide (And.intro h2 h3)
          clear h2 h3
          go_enter Try.func47, Try.ntmps47
          go_wp2_with fail
          refine name_world ?_
          intro wx hwx
          have hg0 : w.grownBy wx (some g) := by rw [hwx]; exact only_alloc (only_setCell (World.grownBy.refl _ _) (.inl rfl) _) _
          have hB : Blk wx w.heap.size #[.int .i64 k, .int .i64 n, .slice A ks.length c] := by rw [hwx]; exact Blk.new_ _ _ _ (by simp)
          have hG : Blk wx g #[.int .i64 (c0 + 1)] := by rw [hwx]; exact (hcb.set_ 0 _).alloc _
          have hrx : RdP (· ≠ g) wx A 0 ks := hr.grown hg0 (fun b hb e => hb (by injection e))
          have hsx : w.heap.size < wx.heap.size := by rw [hwx]; simp
          have r0 := hB.rule (i := 0) rfl
          have r1 := hB.rule (i := 1) rfl
          have r2 := hB.rule (i := 2) rfl
          have r3 := hG.rule (i := 0) rfl
          clear hwx
          refine wp_region_class (fun w' => Below wx.heap.size wx w') (by kernel_rfl) (by kernel_rfl) (Below.refl _ _).drew ?_
          repeat (first | ((refine quiet_skip (a' := ?_) ?_ ?_ ?_); (rotate_left); (· (simp [Region.wanted, yielded]; done)); (· (simp only [Act.put, List.setIfInBounds_toArray, List.set_cons_zero, List.set_cons_succ]; exact rfl))) | ((refine quiet_one (v := ?_) (a' := ?_) ?_ ?_ ?_ ?_); (rotate_left 2); (· (simp [Region.wanted, yielded]; done)); (· (intro w' hS'; go_simp; try (with_reducible rfl))); (· (simp only [Act.put, List.setIfInBounds_toArray, List.set_cons_zero, List.set_cons_succ]; exact rfl))) | ((refine quiet_below (v := ?_) (a' := ?_) 71 ?_ ?_ ?_ ?_ ?_ ?_); (rotate_left 3); (· (simp [Region.wanted, yielded]; done)); (· (intro w' hS'; go_simp; try (with_reducible rfl))); (· (intro w' hS'; exact operands_any _ _)); (· (simp only [Act.put, List.setIfInBounds_toArray, List.set_cons_zero, List.set_cons_succ]; exact rfl))) | ((refine quiet_same (v := ?_) (a' := ?_) 72 ?_ ?_ ?_ ?_ ?_ ?_); (rotate_left 3); (· (simp [Region.wanted, yielded]; done)); (· (intro w' hS'; go_simp; try (with_reducible rfl))); (· (intro w' hS'; exact most_any _ _)); (· (simp only [Act.put, List.setIfInBounds_toArray, List.set_cons_zero, List.set_cons_succ]; exact rfl))) | ((refine quiet_same (v := ?_) (a' := ?_) 57 ?_ ?_ ?_ ?_ ?_ ?_); (rotate_left 3); (· (simp [Region.wanted, yielded]; done)); (· (intro w' hS'; go_simp; try (with_reducible rfl))); (· (intro w' hS'; exact within_any _ _ _ _)); (· (simp only [Act.put, List.setIfInBounds_toArray, List.set_cons_zero, List.set_cons_succ]; exact rfl))))
          refine quiet_nil ?_
          intro w2 hb2
          replace hB := hB.keep hb2
          replace hG := hG.keep hb2
          replace hrx := hrx.below hb2
          replace hg0 := only_below hg0 hb2
          clear r0 r1 r2 r3 hb2
          obtain ⟨d, rfl⟩ : ∃ d', d = d' + 1 := ⟨d - 1, by omega⟩
          have hz := hide (shape_split d k n ks)
          have c2 := hB.at_ (i := 2) rfl
          go_wp2_with fail
          go_loopw [43] (fun i wr => ∃ j : Nat, j ≤ ks.length ∧ i = .int .i64 j ∧ Hid (∀ t, t ∈ ks.take j → shape d t = true) ∧ c0 + 1 + sizes (ks.take j) ≤ 400 ∧ Blk wr g #[.int .i64 (c0 + 1 + sizes (ks.take j))] ∧ w.grownBy wr (some g)) (fun i _ => ks.length - (intOf i).toNat)
          case atStart => exact ⟨0, Nat.zero_le _, rfl, hide (by simp), by simp [sizes]; omega, by simpa [sizes] using hG, hg0⟩
          case round =>
            obtain ⟨j, hj, rfl, hall, hle, hGr, hgr⟩ := hrel
            by_cases hlt : j < ks.length
            · obtain ⟨b, off, k1, n1, ks1, A1, c1, rfl, hkj, hc1, hc2, hc3, hl1, hr1⟩ := (hr.grown hgr (fun b hb e => hb (by injection e))).at_ hlt
              have hst := sizes_take ks j hlt
              have hsz := sizes_le (List.getElem_mem hlt)
              rw [hkj] at hsz hst
              simp only [Tm.size] at hsz hst
              have H3 := hide hkj
              have H4 := hide hst
              clear hkj hst
              go_wp2_with (go_at_call 47; refine (ih k1 n1 ks1 A1 c1 (deep + 1) d (c0 + 1 + sizes (ks.take j)) g _ (by omega) hl1 (by omega) (by omega) (by omega) (by omega) (by omega) (hGr.alloc _) (hr1.alloc _)).mono ?_; rintro e w3 ⟨b, cx, rfl, hbe, hcx, hx0, hx1, hG3, hg3⟩; have hbe' := hide hbe; have hcx' := hide hcx; clear hbe hcx)
              · rename_i hbx
                cases b with
                | true => simp at hbx
                | false =>
                go_ret
                exact ⟨false, cx, rfl, scan_child_no hlt H3.out H4.out hbe'.out, (fun h => (by cases h)), hx0, hx1, hG3, only_trans hgr (only_alloc_drop hg3)⟩
              · rename_i hbx
                cases b with
                | false => simp at hbx
                | true =>
                have hcx2 := hcx'.out rfl
                obtain ⟨hs1, hs2⟩ := scan_child_yes hlt H3.out H4.out hbe'.out
                have h4 := H4.out
                refine ⟨?_, by simp [intOf]; omega⟩
                repeat apply Exists.intro
                refine ⟨⟨j + 1, hlt, by rfl, hide (all_take hlt hall.out hs1), hs2, ?_, only_trans hgr (only_alloc_drop hg3)⟩, by rw [q3]; rfl⟩
                rw [show c0 + 1 + (sizes (ks.take (j+1)) : Int) = cx from by rw [hcx2, h4]; push_cast; omega]
                exact hG3
            · go_wp2_with fail
              go_ret
              have hje : j = ks.length := by omega
              have ha := hall.out
              rw [hje, List.take_length] at ha hle hGr
              exact ⟨true, _, rfl, scan_yes (hz.out.2 ⟨H.out.1, H.out.2.1, H.out.2.2, ha⟩) hle, (fun _ => rfl), by omega, by omega, hGr, hgr⟩
        · have q0 : decide (400 < c0 + 1) = false := by simp; omega
          have q1 : decide (30 < deep) = false := by simp; omega
          have q3 : (decide (0 ≤ n) && decide (n ≤ mostN k)) = false := by
            rw [Bool.and_eq_false_iff, decide_eq_false_iff_not, decide_eq_false_iff_not]; omega
          have H := hide h3
          clear h2 h3
          go_enter Try.func47, Try.ntmps47
          go_wp2_with fail
          refine name_world ?_
          intro wx hwx
          have hg0 : w.grownBy wx (some g) := by rw [hwx]; exact only_alloc (only_setCell (World.grownBy.refl _ _) (.inl rfl) _) _
          have hB : Blk wx w.heap.size #[.int .i64 k, .int .i64 n, .slice A ks.length c] := by rw [hwx]; exact Blk.new_ _ _ _ (by simp)
          have hG : Blk wx g #[.int .i64 (c0 + 1)] := by rw [hwx]; exact (hcb.set_ 0 _).alloc _
          have hrx : RdP (· ≠ g) wx A 0 ks := hr.grown hg0 (fun b hb e => hb (by injection e))
          have hsx : w.heap.size < wx.heap.size := by rw [hwx]; simp
          have r0 := hB.rule (i := 0) rfl
          have r1 := hB.rule (i := 1) rfl
          have r2 := hB.rule (i := 2) rfl
          have r3 := hG.rule (i := 0) rfl
          clear hwx
          refine wp_region_class (fun w' => Below wx.heap.size wx w') (by kernel_rfl) (by kernel_rfl) (Below.refl _ _).drew ?_
          repeat (first | ((refine quiet_skip (a' := ?_) ?_ ?_ ?_); (rotate_left); (· (simp [Region.wanted, yielded]; done)); (· (simp only [Act.put, List.setIfInBounds_toArray, List.set_cons_zero, List.set_cons_succ]; exact rfl))) | ((refine quiet_one (v := ?_) (a' := ?_) ?_ ?_ ?_ ?_); (rotate_left 2); (· (simp [Region.wanted, yielded]; done)); (· (intro w' hS'; go_simp; try (with_reducible rfl))); (· (simp only [Act.put, List.setIfInBounds_toArray, List.set_cons_zero, List.set_cons_succ]; exact rfl))) | ((refine quiet_below (v := ?_) (a' := ?_) 71 ?_ ?_ ?_ ?_ ?_ ?_); (rotate_left 3); (· (simp [Region.wanted, yielded]; done)); (· (intro w' hS'; go_simp; try (with_reducible rfl))); (· (intro w' hS'; exact operands_any _ _)); (· (simp only [Act.put, List.setIfInBounds_toArray, List.set_cons_zero, List.set_cons_succ]; exact rfl))) | ((refine quiet_same (v := ?_) (a' := ?_) 72 ?_ ?_ ?_ ?_ ?_ ?_); (rotate_left 3); (· (simp [Region.wanted, yielded]; done)); (· (intro w' hS'; go_simp; try (with_reducible rfl))); (· (intro w' hS'; exact most_any _ _)); (· (simp only [Act.put, List.setIfInBounds_toArray, List.set_cons_zero, List.set_cons_succ]; exact rfl))) | ((refine quiet_same (v := ?_) (a' := ?_) 57 ?_ ?_ ?_ ?_ ?_ ?_); (rotate_left 3); (· (simp [Region.wanted, yielded]; done)); (· (intro w' hS'; go_simp; try (with_reducible rfl))); (· (intro w' hS'; exact within_any _ _ _ _)); (· (simp only [Act.put, List.setIfInBounds_toArray, List.set_cons_zero, List.set_cons_succ]; exact rfl))))
          refine quiet_nil ?_
          intro w2 hb2
          replace hB := hB.keep hb2
          replace hG := hG.keep hb2
          replace hrx := hrx.below hb2
          replace hg0 := only_below hg0 hb2
          clear r0 r1 r2 r3 hb2
          go_wp2_with fail
          go_ret
          exact ⟨_, c0 + 1, rfl, scan_no (by have := H.out; omega), (fun h => (by cases h)), by omega, by omega, hG, hg0⟩
      · have q0 : decide (400 < c0 + 1) = false := by simp; omega
        have q1 : decide (30 < deep) = false := by simp; omega
        have q2 : (arity k != (ks.length : Int)) = true := by simpa using h2
        have H := hide h2
        clear h2
        go_enter Try.func47, Try.ntmps47
        go_wp2_with fail
        refine name_world ?_
        intro wx hwx
        have hg0 : w.grownBy wx (some g) := by rw [hwx]; exact only_alloc (only_setCell (World.grownBy.refl _ _) (.inl rfl) _) _
        have hB : Blk wx w.heap.size #[.int .i64 k, .int .i64 n, .slice A ks.length c] := by rw [hwx]; exact Blk.new_ _ _ _ (by simp)
        have hG : Blk wx g #[.int .i64 (c0 + 1)] := by rw [hwx]; exact (hcb.set_ 0 _).alloc _
        have hrx : RdP (· ≠ g) wx A 0 ks := hr.grown hg0 (fun b hb e => hb (by injection e))
        have hsx : w.heap.size < wx.heap.size := by rw [hwx]; simp
        have r0 := hB.rule (i := 0) rfl
        have r1 := hB.rule (i := 1) rfl
        have r2 := hB.rule (i := 2) rfl
        have r3 := hG.rule (i := 0) rfl
        clear hwx
        refine wp_region_class (fun w' => Below wx.heap.size wx w') (by kernel_rfl) (by kernel_rfl) (Below.refl _ _).drew ?_
        repeat (first | ((refine quiet_skip (a' := ?_) ?_ ?_ ?_); (rotate_left); (· (simp [Region.wanted, yielded]; done)); (· (simp only [Act.put, List.setIfInBounds_toArray, List.set_cons_zero, List.set_cons_succ]; exact rfl))) | ((refine quiet_one (v := ?_) (a' := ?_) ?_ ?_ ?_ ?_); (rotate_left 2); (· (simp [Region.wanted, yielded]; done)); (· (intro w' hS'; go_simp; try (with_reducible rfl))); (· (simp only [Act.put, List.setIfInBounds_toArray, List.set_cons_zero, List.set_cons_succ]; exact rfl))) | ((refine quiet_below (v := ?_) (a' := ?_) 71 ?_ ?_ ?_ ?_ ?_ ?_); (rotate_left 3); (· (simp [Region.wanted, yielded]; done)); (· (intro w' hS'; go_simp; try (with_reducible rfl))); (· (intro w' hS'; exact operands_any _ _)); (· (simp only [Act.put, List.setIfInBounds_toArray, List.set_cons_zero, List.set_cons_succ]; exact rfl))) | ((refine quiet_same (v := ?_) (a' := ?_) 72 ?_ ?_ ?_ ?_ ?_ ?_); (rotate_left 3); (· (simp [Region.wanted, yielded]; done)); (· (intro w' hS'; go_simp; try (with_reducible rfl))); (· (intro w' hS'; exact most_any _ _)); (· (simp only [Act.put, List.setIfInBounds_toArray, List.set_cons_zero, List.set_cons_succ]; exact rfl))) | ((refine quiet_same (v := ?_) (a' := ?_) 57 ?_ ?_ ?_ ?_ ?_ ?_); (rotate_left 3); (· (simp [Region.wanted, yielded]; done)); (· (intro w' hS'; go_simp; try (with_reducible rfl))); (· (intro w' hS'; exact within_any _ _ _ _)); (· (simp only [Act.put, List.setIfInBounds_toArray, List.set_cons_zero, List.set_cons_succ]; exact rfl))))
        refine quiet_nil ?_
        intro w2 hb2
        replace hB := hB.keep hb2
        replace hG := hG.keep hb2
        replace hrx := hrx.below hb2
        replace hg0 := only_below hg0 hb2
        clear r0 r1 r2 r3 hb2
        go_wp2_with fail
        go_ret
        exact ⟨_, c0 + 1, rfl, scan_no (by have := H.out; omega), (fun h => (by cases h)), by omega, by omega, hG, hg0⟩
    · have q0 : decide (400 < c0 + 1) = false := by simp; omega
      have q1 : decide (30 < deep) = true := by simp; omega
      have H := hide h1
      go_enter Try.func47, Try.ntmps47
      go_wp2_with fail
      refine name_world ?_
      intro wx hwx
      have hg0 : w.grownBy wx (some g) := by rw [hwx]; exact only_alloc (only_setCell (World.grownBy.refl _ _) (.inl rfl) _) _
      have hB : Blk wx w.heap.size #[.int .i64 k, .int .i64 n, .slice A ks.length c] := by rw [hwx]; exact Blk.new_ _ _ _ (by simp)
      have hG : Blk wx g #[.int .i64 (c0 + 1)] := by rw [hwx]; exact (hcb.set_ 0 _).alloc _
      have hrx : RdP (· ≠ g) wx A 0 ks := hr.grown hg0 (fun b hb e => hb (by injection e))
      have hsx : w.heap.size < wx.heap.size := by rw [hwx]; simp
      have r0 := hB.rule (i := 0) rfl
      have r1 := hB.rule (i := 1) rfl
      have r2 := hB.rule (i := 2) rfl
      have r3 := hG.rule (i := 0) rfl
      clear hwx
      refine wp_region_class (fun w' => Below wx.heap.size wx w') (by kernel_rfl) (by kernel_rfl) (Below.refl _ _).drew ?_
      repeat (first | ((refine quiet_skip (a' := ?_) ?_ ?_ ?_); (rotate_left); (· (simp [Region.wanted, yielded]; done)); (· (simp only [Act.put, List.setIfInBounds_toArray, List.set_cons_zero, List.set_cons_succ]; exact rfl))) | ((refine quiet_one (v := ?_) (a' := ?_) ?_ ?_ ?_ ?_); (rotate_left 2); (· (simp [Region.wanted, yielded]; done)); (· (intro w' hS'; go_simp; try (with_reducible rfl))); (· (simp only [Act.put, List.setIfInBounds_toArray, List.set_cons_zero, List.set_cons_succ]; exact rfl))) | ((refine quiet_below (v := ?_) (a' := ?_) 71 ?_ ?_ ?_ ?_ ?_ ?_); (rotate_left 3); (· (simp [Region.wanted, yielded]; done)); (· (intro w' hS'; go_simp; try (with_reducible rfl))); (· (intro w' hS'; exact operands_any _ _)); (· (simp only [Act.put, List.setIfInBounds_toArray, List.set_cons_zero, List.set_cons_succ]; exact rfl))) | ((refine quiet_same (v := ?_) (a' := ?_) 72 ?_ ?_ ?_ ?_ ?_ ?_); (rotate_left 3); (· (simp [Region.wanted, yielded]; done)); (· (intro w' hS'; go_simp; try (with_reducible rfl))); (· (intro w' hS'; exact most_any _ _)); (· (simp only [Act.put, List.setIfInBounds_toArray, List.set_cons_zero, List.set_cons_succ]; exact rfl))) | ((refine quiet_same (v := ?_) (a' := ?_) 57 ?_ ?_ ?_ ?_ ?_ ?_); (rotate_left 3); (· (simp [Region.wanted, yielded]; done)); (· (intro w' hS'; go_simp; try (with_reducible rfl))); (· (intro w' hS'; exact within_any _ _ _ _)); (· (simp only [Act.put, List.setIfInBounds_toArray, List.set_cons_zero, List.set_cons_succ]; exact rfl))))
      refine quiet_nil ?_
      intro w2 hb2
      replace hB := hB.keep hb2
      replace hG := hG.keep hb2
      replace hrx := hrx.below hb2
      replace hg0 := only_below hg0 hb2
      clear r0 r1 r2 r3 hb2
      go_wp2_with fail
      go_ret
      exact ⟨_, c0 + 1, rfl, scan_no (by have := H.out; omega), (fun h => (by cases h)), by omega, by omega, hG, hg0⟩
  · have q0 : decide (400 < c0 + 1) = true := by simp; omega
    have H := hide h0
    go_enter Try.func47, Try.ntmps47
    go_wp2_with fail
    refine name_world ?_
    intro wx hwx
    have hg0 : w.grownBy wx (some g) := by rw [hwx]; exact only_alloc (only_setCell (World.grownBy.refl _ _) (.inl rfl) _) _
    have hB : Blk wx w.heap.size #[.int .i64 k, .int .i64 n, .slice A ks.length c] := by rw [hwx]; exact Blk.new_ _ _ _ (by simp)
    have hG : Blk wx g #[.int .i64 (c0 + 1)] := by rw [hwx]; exact (hcb.set_ 0 _).alloc _
    have hrx : RdP (· ≠ g) wx A 0 ks := hr.grown hg0 (fun b hb e => hb (by injection e))
    have hsx : w.heap.size < wx.heap.size := by rw [hwx]; simp
    have r0 := hB.rule (i := 0) rfl
    have r1 := hB.rule (i := 1) rfl
    have r2 := hB.rule (i := 2) rfl
    have r3 := hG.rule (i := 0) rfl
    clear hwx
    refine wp_region_class (fun w' => Below wx.heap.size wx w') (by kernel_rfl) (by kernel_rfl) (Below.refl _ _).drew ?_
    repeat (first | ((refine quiet_skip (a' := ?_) ?_ ?_ ?_); (rotate_left); (· (simp [Region.wanted, yielded]; done)); (· (simp only [Act.put, List.setIfInBounds_toArray, List.set_cons_zero, List.set_cons_succ]; exact rfl))) | ((refine quiet_one (v := ?_) (a' := ?_) ?_ ?_ ?_ ?_); (rotate_left 2); (· (simp [Region.wanted, yielded]; done)); (· (intro w' hS'; go_simp; try (with_reducible rfl))); (· (simp only [Act.put, List.setIfInBounds_toArray, List.set_cons_zero, List.set_cons_succ]; exact rfl))) | ((refine quiet_below (v := ?_) (a' := ?_) 71 ?_ ?_ ?_ ?_ ?_ ?_); (rotate_left 3); (· (simp [Region.wanted, yielded]; done)); (· (intro w' hS'; go_simp; try (with_reducible rfl))); (· (intro w' hS'; exact operands_any _ _)); (· (simp only [Act.put, List.setIfInBounds_toArray, List.set_cons_zero, List.set_cons_succ]; exact rfl))) | ((refine quiet_same (v := ?_) (a' := ?_) 72 ?_ ?_ ?_ ?_ ?_ ?_); (rotate_left 3); (· (simp [Region.wanted, yielded]; done)); (· (intro w' hS'; go_simp; try (with_reducible rfl))); (· (intro w' hS'; exact most_any _ _)); (· (simp only [Act.put, List.setIfInBounds_toArray, List.set_cons_zero, List.set_cons_succ]; exact rfl))) | ((refine quiet_same (v := ?_) (a' := ?_) 57 ?_ ?_ ?_ ?_ ?_ ?_); (rotate_left 3); (· (simp [Region.wanted, yielded]; done)); (· (intro w' hS'; go_simp; try (with_reducible rfl))); (· (intro w' hS'; exact within_any _ _ _ _)); (· (simp only [Act.put, List.setIfInBounds_toArray, List.set_cons_zero, List.set_cons_succ]; exact rfl))))
    refine quiet_nil ?_
    intro w2 hb2
    replace hB := hB.keep hb2
    replace hG := hG.keep hb2
    replace hrx := hrx.below hb2
    replace hg0 := only_below hg0 hb2
    clear r0 r1 r2 r3 hb2
    go_wp2_with fail
    go_ret
    exact ⟨_, c0 + 1, rfl, scan_no (by have := H.out; omega), (fun h => (by cases h)), by omega, by omega, hG, hg0⟩
end Go.Proofs.Ytgmljpmnfncceaa

namespace Go.Proofs.Ytgmljpmnfncceaa
open Go.RowKit
set_option linter.unusedSimpArgs false
set_option linter.unusedVariables false

set_option maxRecDepth 100000 in
set_option maxHeartbeats 1000000 in
theorem iTermValid_any (k n : Int) (ks : List Tm) (A : Option Addr) (c : Nat) (w : World) (hM : sizes ks ≤ 1099511627775) (hr : Rd w A 0 ks) :
    Calls Try.prog 19 #[.agg #[.int .i64 k, .int .i64 n, .slice A ks.length c]] w fun e w' => e = .returned (.bool (validT (.mk k n ks))) ∧ Below w.heap.size w w' := by
  have hlen := length_le_sizes ks
  have hrp : RdP (· ≠ w.heap.size + 1) w A 0 ks := hr.rdp.mono (fun b hb => by have hb : b < w.heap.size := hb; show b ≠ _; omega)
  go_enter Try.func19, Try.ntmps19
  go_wp2_with (go_at_call 47; refine (scan_any (sizes ks + 1) k n ks A c 1 30 0 (w.heap.size + 1) _ (by omega) (by omega) (by omega) (by omega) (by omega) (by omega) (by omega) (Blk.new_ _ _ _ (by simp)) ((hrp.alloc _).alloc _)).mono ?_; rintro e w3 ⟨b, cx, rfl, hbe, hcx, hx0, hx1, hG3, hg3⟩; clear hcx hG3)
  go_ret
  refine ⟨ret_bool ?_, (((Below.refl _ _).alloc (Nat.le_refl _) _).alloc (by simp) _).grown hg3 (by simp; omega) (fun k e => by cases e; omega)⟩
  show scanB 30 0 k n ks = _
  unfold scanB validT
  rw [Tm.size]
  by_cases h : sizes ks + 1 ≤ 400
  · rw [decide_eq_true h, decide_eq_true (by omega)]
  · rw [decide_eq_false h, decide_eq_false (by omega)]

/-- which form of type a kind is -/
def formK (k : Int) : Int := if k = 2 then 1 else if k = 3 then 2 else if k = 6 then 3 else if k = 10 then 4 else if k = 13 then 5 else 0
/-- what TypeForm answers -/
def formT (t : Tm) : Int := if validT t = true then formK t.k else 0

end Go.Proofs.Ytgmljpmnfncceaa
