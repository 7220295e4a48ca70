/-
  Texts of this claim, merged: contracts of the functions that the law reaches. No condition.
-/
import Derived.Test.YthgmofdfecioaaaGreatDoorK1
import Derived.WalkSpells
import Derived.WalkLawsBesides
import Derived.Maps.AppendAt
import Derived.OwnWalk

namespace Go.Proofs.YthgmofdfecioaaaGreatDoor
open Go.RowKit
set_option linter.unusedSimpArgs false
set_option linter.unusedVariables false

/-- kinds that bind in their second operand -/
def binds (k : Int) : Bool := k == 3 || k == 4 || k == 13
/-- how many variables the operand at a place lies under -/
def under (k : Int) (i : Int) : Int := if i = 1 ∧ binds k = true then 1 else 0
theorem under_le (k i : Int) : 0 ≤ under k i ∧ under k i ≤ 1 := by unfold under; split <;> omega

set_option maxRecDepth 100000 in
set_option maxHeartbeats 1000000 in
theorem isBinder_any (k : Int) (w : World) : Calls Tryz.prog 101 #[.int .i64 k] w fun e w' => e = .returned (.bool (binds k)) ∧ w = w' := by
  by_cases h3 : k = 3
  · subst h3; go_enter Tryz.func101, Tryz.ntmps101; go_wp2_with fail; go_ret; exact ⟨rfl, rfl⟩
  by_cases h4 : k = 4
  · subst h4; go_enter Tryz.func101, Tryz.ntmps101; go_wp2_with fail; go_ret; exact ⟨rfl, rfl⟩
  have e3 : (k == 3) = false := by simpa using h3
  have e4 : (k == 4) = false := by simpa using h4
  have hz : binds k = (k == 13) := by simp [binds, e3, e4]
  rw [hz]
  go_enter Tryz.func101, Tryz.ntmps101
  go_wp2_with fail
  go_ret
  exact ⟨ret_bool (by simp), rfl⟩

set_option maxRecDepth 100000 in
set_option maxHeartbeats 1000000 in
theorem iUnder_any (k i : Int) (w : World) : Calls Tryz.prog 76 #[.int .i64 k, .int .i64 i] w fun e w' => e = .returned (.int .i64 (under k i)) ∧ w = w' := by
  by_cases hi : i = 1
  · subst hi
    cases hb : binds k with
    | false =>
      have hz : under k 1 = 0 := by simp [under, hb]
      rw [hz]
      go_enter Tryz.func76, Tryz.ntmps76
      go_wp2_with (go_at_call 101; refine (isBinder_any _ _).mono ?_; rw [hb]; rintro e w1 ⟨rfl, rfl⟩)
      go_ret
      exact ⟨rfl, rfl⟩
    | true =>
      have hz : under k 1 = 1 := by simp [under, hb]
      rw [hz]
      go_enter Tryz.func76, Tryz.ntmps76
      go_wp2_with (go_at_call 101; refine (isBinder_any _ _).mono ?_; rw [hb]; rintro e w1 ⟨rfl, rfl⟩)
      go_ret
      exact ⟨rfl, rfl⟩
  · have e1 : (i == 1) = false := by simpa using hi
    have hz : under k i = 0 := by simp [under, hi]
    clear hi
    rw [hz]
    go_enter Tryz.func76, Tryz.ntmps76
    go_wp2_with fail
    go_ret
    exact ⟨rfl, rfl⟩

set_option maxRecDepth 100000 in
set_option maxHeartbeats 1000000 in
theorem sBinds_any (k i : Int) (w : World) : Calls Tryz.prog 138 #[.int .i64 k, .int .i64 i] w fun e w' => e = .returned (.bool (i == 1 && binds k)) ∧ w = w' := by
  by_cases hi : i = 1
  · subst hi
    by_cases h3 : k = 3
    · subst h3; go_enter Tryz.func138, Tryz.ntmps138; go_wp2_with fail; go_ret; exact ⟨rfl, rfl⟩
    by_cases h4 : k = 4
    · subst h4; go_enter Tryz.func138, Tryz.ntmps138; go_wp2_with fail; go_ret; exact ⟨rfl, rfl⟩
    have e3 : (k == 3) = false := by simpa using h3
    have e4 : (k == 4) = false := by simpa using h4
    have hz : ((1 : Int) == 1 && binds k) = (k == 13) := by simp [binds, e3, e4]
    rw [hz]
    go_enter Tryz.func138, Tryz.ntmps138
    go_wp2_with fail
    go_ret
    exact ⟨ret_bool (by simp), rfl⟩
  · have e1 : (i == 1) = false := by simpa using hi
    rw [e1, Bool.false_and]
    clear hi
    go_enter Tryz.func138, Tryz.ntmps138
    go_wp2_with fail
    go_ret
    exact ⟨rfl, rfl⟩

set_option maxRecDepth 100000 in
set_option maxHeartbeats 1000000 in
theorem sUnder_any (k i : Int) (w : World) : Calls Tryz.prog 105 #[.int .i64 k, .int .i64 i] w fun e w' => e = .returned (.int .i64 (under k i)) ∧ w = w' := by
  cases hb : (i == 1 && binds k) with
  | false =>
    have hz : under k i = 0 := by
      unfold under; rw [if_neg]; rintro ⟨h1, h2⟩; subst h1; simp [h2] at hb
    rw [hz]
    go_enter Tryz.func105, Tryz.ntmps105
    go_wp2_with (go_at_call 138; refine (sBinds_any _ _ _).mono ?_; rw [hb]; rintro e w1 ⟨rfl, rfl⟩)
    go_ret
    exact ⟨rfl, rfl⟩
  | true =>
    have hz : under k i = 1 := by
      unfold under; rw [if_pos]; simpa using hb
    rw [hz]
    go_enter Tryz.func105, Tryz.ntmps105
    go_wp2_with (go_at_call 138; refine (sBinds_any _ _ _).mono ?_; rw [hb]; rintro e w1 ⟨rfl, rfl⟩)
    go_ret
    exact ⟨rfl, rfl⟩
end Go.Proofs.YthgmofdfecioaaaGreatDoor

namespace Go.Proofs.YthgmofdfecioaaaGreatDoor
open Go.RowKit
set_option linter.unusedSimpArgs false
set_option linter.unusedVariables false

/-- well formed, down to a depth -/
def shape : Nat → Tm → Bool
  | 0, _ => false
  | d + 1, .mk k n ks => arity k == (ks.length : Int) && decide (0 ≤ n) && decide (n ≤ mostN k) && ks.all (shape d)

theorem shape_split (d : Nat) (k n : Int) (ks : List Tm) : shape (d + 1) (.mk k n ks) = true ↔ arity k = (ks.length : Int) ∧ 0 ≤ n ∧ n ≤ mostN k ∧ ∀ t, t ∈ ks → shape d t = true := by
  simp only [shape, Bool.and_eq_true, beq_iff_eq, decide_eq_true_eq, List.all_eq_true, and_assoc]
theorem shape_no (d : Nat) (k n : Int) (ks : List Tm) (h : ¬ (arity k = (ks.length : Int) ∧ 0 ≤ n ∧ n ≤ mostN k)) : shape (d + 1) (.mk k n ks) = false := by
  cases e : shape (d + 1) (.mk k n ks) with
  | false => rfl
  | true => have := (shape_split d k n ks).1 e; exact absurd ⟨this.1, this.2.1, this.2.2.1⟩ h

set_option maxRecDepth 100000 in
set_option maxHeartbeats 1000000 in
theorem l1Shape_any (d : Nat) : ∀ (k n : Int) (ks : List Tm) (A : Option Addr) (c : Nat) (w : World), d ≤ 1000 → ks.length ≤ 9223372036854775807 → Rd w A 0 ks →
    Calls Tryz.prog 79 #[.agg #[.int .i64 k, .int .i64 n, .slice A ks.length c], .int .i64 d] w fun e w' => e = .returned (.bool (shape d (.mk k n ks))) ∧ Below w.heap.size w w' := by
  induction d with
  | zero =>
    intro k n ks A c w hd hl hr
    go_enter Tryz.func79, Tryz.ntmps79
    go_wp2_with fail
    refine name_world ?_
    intro wx hwx
    have hb0 : Below w.heap.size w wx := by rw [hwx]; exact (Below.refl _ _).alloc (Nat.le_refl _) _
    clear hwx
    refine wp_region_class (fun w' => Below wx.heap.size wx w') (by kernel_rfl) (by kernel_rfl) (Below.refl _ _).drew ?_
    repeat (first | ((refine quiet_skip (a' := ?_) ?_ ?_ ?_); (rotate_left); (· (simp [Region.wanted, yielded]; done)); (· (simp only [Act.put, List.setIfInBounds_toArray, List.set_cons_zero, List.set_cons_succ]; exact rfl))) | ((refine quiet_one (v := ?_) (a' := ?_) ?_ ?_ ?_ ?_); (rotate_left 2); (· (simp [Region.wanted, yielded]; done)); (· (intro w' hS'; go_simp; try (with_reducible rfl))); (· (simp only [Act.put, List.setIfInBounds_toArray, List.set_cons_zero, List.set_cons_succ]; exact rfl))))
    refine quiet_nil ?_
    intro w2 hb2
    go_wp2_with fail
    go_ret
    exact ⟨rfl, hb0.trans (hb2.mono hb0.size)⟩
  | succ d ih =>
    intro k n ks A c w hd hl hr
    have hz := hide (shape_split d k n ks)
    rw [show ((d + 1 : Nat) : Int) = (d : Int) + 1 from by omega]
    have q0 : decide ((d : Int) + 1 < 1) = false := by simp; omega
    by_cases h1 : arity k = (ks.length : Int)
    · have q1 : (arity k != (ks.length : Int)) = false := by simpa using h1
      by_cases h2 : 0 ≤ n
      · by_cases h3 : n ≤ mostN k
        · have H := hide (And.intro h1 (And.intro h2 h3))
          have q2 : decide (n < 0) = false := by simp; omega
          have q3 : decide (mostN k < n) = false := by simp; omega
          clear h1
          go_enter Tryz.func79, Tryz.ntmps79
          go_wp2_with fail
          refine name_world ?_
          intro wx hwx
          have hb0 : Below w.heap.size w wx := by rw [hwx]; exact (Below.refl _ _).alloc (Nat.le_refl _) _
          have hB : Blk wx w.heap.size #[.int .i64 k, .int .i64 n, .slice A ks.length c] := by rw [hwx]; exact Blk.new _ _ _
          have hrx : Rd wx A 0 ks := by rw [hwx]; exact hr.alloc _
          have r0 := hB.rule (i := 0) rfl
          have r1 := hB.rule (i := 1) rfl
          have r2 := hB.rule (i := 2) rfl
          clear hwx
          refine wp_region_class (fun w' => Below wx.heap.size wx w') (by kernel_rfl) (by kernel_rfl) (Below.refl _ _).drew ?_
          repeat (first | ((refine quiet_skip (a' := ?_) ?_ ?_ ?_); (rotate_left); (· (simp [Region.wanted, yielded]; done)); (· (simp only [Act.put, List.setIfInBounds_toArray, List.set_cons_zero, List.set_cons_succ]; exact rfl))) | ((refine quiet_one (v := ?_) (a' := ?_) ?_ ?_ ?_ ?_); (rotate_left 2); (· (simp [Region.wanted, yielded]; done)); (· (intro w' hS'; go_simp; try (with_reducible rfl))); (· (simp only [Act.put, List.setIfInBounds_toArray, List.set_cons_zero, List.set_cons_succ]; exact rfl))) | ((refine quiet_same (v := ?_) (a' := ?_) 102 ?_ ?_ ?_ ?_ ?_ ?_); (rotate_left 3); (· (simp [Region.wanted, yielded]; done)); (· (intro w' hS'; go_simp; try (with_reducible rfl))); (· (intro w' hS'; exact l1Kids_any _ _)); (· (simp only [Act.put, List.setIfInBounds_toArray, List.set_cons_zero, List.set_cons_succ]; exact rfl))) | ((refine quiet_same (v := ?_) (a' := ?_) 103 ?_ ?_ ?_ ?_ ?_ ?_); (rotate_left 3); (· (simp [Region.wanted, yielded]; done)); (· (intro w' hS'; go_simp; try (with_reducible rfl))); (· (intro w' hS'; exact l1Most_any _ _)); (· (simp only [Act.put, List.setIfInBounds_toArray, List.set_cons_zero, List.set_cons_succ]; exact rfl))))
          refine quiet_nil ?_
          intro w2 hb2
          replace hB := hB.keep hb2
          replace hrx := hrx.below hb2
          replace hb0 := hb0.trans (hb2.mono hb0.size)
          clear r0 r1 r2 hb2
          go_wp2_with fail
          go_loopw [5] (fun i wr => ∃ j : Nat, j ≤ ks.length ∧ i = .int .i64 j ∧ Hid (∀ t, t ∈ ks.take j → shape d t = true) ∧ Below w2.heap.size w2 wr) (fun i _ => ks.length - (intOf i).toNat)
          case atStart => exact ⟨0, Nat.zero_le _, rfl, hide (by simp), Below.refl _ _⟩
          case round =>
            obtain ⟨j, hj, rfl, hall, hb⟩ := hrel
            replace hB := hB.keep hb
            have c2 := hB.at_ (i := 2) rfl
            by_cases hlt : j < ks.length
            · obtain ⟨b, off, k1, n1, ks1, A1, c1, rfl, hkj, hc1, hc2, hc3, hl1, hr1⟩ := (hrx.below hb).at_ hlt
              have H3 := hide hkj
              clear hkj
              go_wp2_with (go_at_call 79; refine (ih k1 n1 ks1 A1 c1 _ (by omega) hl1 hr1).mono ?_; rintro e w3 ⟨rfl, hb3⟩)
              · go_ret
                have hne : (!shape d (.mk k1 n1 ks1)) = true := by assumption
                refine ⟨ret_bool ?_, hb0.trans ((hb.trans (hb3.mono hb.size)).mono hb0.size)⟩
                cases e : shape (d + 1) (.mk k n ks) with
                | false => rfl
                | true =>
                  have := (hz.out.1 e).2.2.2 ks[j] (List.getElem_mem hlt)
                  rw [H3.out] at this
                  rw [this] at hne
                  cases hne
              · have hne : (!shape d (.mk k1 n1 ks1)) = false := by assumption
                go_roundw
                case rel =>
                  refine ⟨j + 1, by omega, by go_num, hide ?_, hb.trans (hb3.mono hb.size)⟩
                  rw [List.take_succ_eq_append_getElem hlt, H3.out]
                  intro t ht
                  rcases List.mem_append.1 ht with ht | ht
                  · exact hall.out t ht
                  · simp only [List.mem_singleton] at ht
                    subst ht
                    simpa using hne
                case measure => simp [intOf]; omega
            · go_wp2_with fail
              go_ret
              have hjl : j = ks.length := by omega
              have hall' := hall.out
              rw [hjl, List.take_length] at hall'
              exact ⟨ret_bool (hz.out.2 ⟨H.out.1, H.out.2.1, H.out.2.2, hall'⟩).symm, hb0.trans (hb.mono hb0.size)⟩
        · have H := hide h3
          have q2 : decide (n < 0) = false := by simp; omega
          have q3 : decide (mostN k < n) = true := by simp; omega
          clear h1
          go_enter Tryz.func79, Tryz.ntmps79
          go_wp2_with fail
          refine name_world ?_
          intro wx hwx
          have hb0 : Below w.heap.size w wx := by rw [hwx]; exact (Below.refl _ _).alloc (Nat.le_refl _) _
          have hB : Blk wx w.heap.size #[.int .i64 k, .int .i64 n, .slice A ks.length c] := by rw [hwx]; exact Blk.new _ _ _
          have hrx : Rd wx A 0 ks := by rw [hwx]; exact hr.alloc _
          have r0 := hB.rule (i := 0) rfl
          have r1 := hB.rule (i := 1) rfl
          have r2 := hB.rule (i := 2) rfl
          clear hwx
          refine wp_region_class (fun w' => Below wx.heap.size wx w') (by kernel_rfl) (by kernel_rfl) (Below.refl _ _).drew ?_
          repeat (first | ((refine quiet_skip (a' := ?_) ?_ ?_ ?_); (rotate_left); (· (simp [Region.wanted, yielded]; done)); (· (simp only [Act.put, List.setIfInBounds_toArray, List.set_cons_zero, List.set_cons_succ]; exact rfl))) | ((refine quiet_one (v := ?_) (a' := ?_) ?_ ?_ ?_ ?_); (rotate_left 2); (· (simp [Region.wanted, yielded]; done)); (· (intro w' hS'; go_simp; try (with_reducible rfl))); (· (simp only [Act.put, List.setIfInBounds_toArray, List.set_cons_zero, List.set_cons_succ]; exact rfl))) | ((refine quiet_same (v := ?_) (a' := ?_) 102 ?_ ?_ ?_ ?_ ?_ ?_); (rotate_left 3); (· (simp [Region.wanted, yielded]; done)); (· (intro w' hS'; go_simp; try (with_reducible rfl))); (· (intro w' hS'; exact l1Kids_any _ _)); (· (simp only [Act.put, List.setIfInBounds_toArray, List.set_cons_zero, List.set_cons_succ]; exact rfl))) | ((refine quiet_same (v := ?_) (a' := ?_) 103 ?_ ?_ ?_ ?_ ?_ ?_); (rotate_left 3); (· (simp [Region.wanted, yielded]; done)); (· (intro w' hS'; go_simp; try (with_reducible rfl))); (· (intro w' hS'; exact l1Most_any _ _)); (· (simp only [Act.put, List.setIfInBounds_toArray, List.set_cons_zero, List.set_cons_succ]; exact rfl))))
          refine quiet_nil ?_
          intro w2 hb2
          replace hB := hB.keep hb2
          replace hrx := hrx.below hb2
          replace hb0 := hb0.trans (hb2.mono hb0.size)
          clear r0 r1 r2 hb2
          go_wp2_with fail
          go_ret
          exact ⟨ret_bool (shape_no _ _ _ _ (by have := H.out; omega)).symm, hb0⟩
      · have H := hide h2
        have q2 : decide (n < 0) = true := by simp; omega
        clear h1
        go_enter Tryz.func79, Tryz.ntmps79
        go_wp2_with fail
        refine name_world ?_
        intro wx hwx
        have hb0 : Below w.heap.size w wx := by rw [hwx]; exact (Below.refl _ _).alloc (Nat.le_refl _) _
        have hB : Blk wx w.heap.size #[.int .i64 k, .int .i64 n, .slice A ks.length c] := by rw [hwx]; exact Blk.new _ _ _
        have hrx : Rd wx A 0 ks := by rw [hwx]; exact hr.alloc _
        have r0 := hB.rule (i := 0) rfl
        have r1 := hB.rule (i := 1) rfl
        have r2 := hB.rule (i := 2) rfl
        clear hwx
        refine wp_region_class (fun w' => Below wx.heap.size wx w') (by kernel_rfl) (by kernel_rfl) (Below.refl _ _).drew ?_
        repeat (first | ((refine quiet_skip (a' := ?_) ?_ ?_ ?_); (rotate_left); (· (simp [Region.wanted, yielded]; done)); (· (simp only [Act.put, List.setIfInBounds_toArray, List.set_cons_zero, List.set_cons_succ]; exact rfl))) | ((refine quiet_one (v := ?_) (a' := ?_) ?_ ?_ ?_ ?_); (rotate_left 2); (· (simp [Region.wanted, yielded]; done)); (· (intro w' hS'; go_simp; try (with_reducible rfl))); (· (simp only [Act.put, List.setIfInBounds_toArray, List.set_cons_zero, List.set_cons_succ]; exact rfl))) | ((refine quiet_same (v := ?_) (a' := ?_) 102 ?_ ?_ ?_ ?_ ?_ ?_); (rotate_left 3); (· (simp [Region.wanted, yielded]; done)); (· (intro w' hS'; go_simp; try (with_reducible rfl))); (· (intro w' hS'; exact l1Kids_any _ _)); (· (simp only [Act.put, List.setIfInBounds_toArray, List.set_cons_zero, List.set_cons_succ]; exact rfl))) | ((refine quiet_same (v := ?_) (a' := ?_) 103 ?_ ?_ ?_ ?_ ?_ ?_); (rotate_left 3); (· (simp [Region.wanted, yielded]; done)); (· (intro w' hS'; go_simp; try (with_reducible rfl))); (· (intro w' hS'; exact l1Most_any _ _)); (· (simp only [Act.put, List.setIfInBounds_toArray, List.set_cons_zero, List.set_cons_succ]; exact rfl))))
        refine quiet_nil ?_
        intro w2 hb2
        replace hB := hB.keep hb2
        replace hrx := hrx.below hb2
        replace hb0 := hb0.trans (hb2.mono hb0.size)
        clear r0 r1 r2 hb2
        go_wp2_with fail
        go_ret
        exact ⟨ret_bool (shape_no _ _ _ _ (by have := H.out; omega)).symm, hb0⟩
    · have q1 : (arity k != (ks.length : Int)) = true := by simpa using h1
      have H := hide h1
      clear h1
      go_enter Tryz.func79, Tryz.ntmps79
      go_wp2_with fail
      refine name_world ?_
      intro wx hwx
      have hb0 : Below w.heap.size w wx := by rw [hwx]; exact (Below.refl _ _).alloc (Nat.le_refl _) _
      have hB : Blk wx w.heap.size #[.int .i64 k, .int .i64 n, .slice A ks.length c] := by rw [hwx]; exact Blk.new _ _ _
      have hrx : Rd wx A 0 ks := by rw [hwx]; exact hr.alloc _
      have r0 := hB.rule (i := 0) rfl
      have r1 := hB.rule (i := 1) rfl
      have r2 := hB.rule (i := 2) rfl
      clear hwx
      refine wp_region_class (fun w' => Below wx.heap.size wx w') (by kernel_rfl) (by kernel_rfl) (Below.refl _ _).drew ?_
      repeat (first | ((refine quiet_skip (a' := ?_) ?_ ?_ ?_); (rotate_left); (· (simp [Region.wanted, yielded]; done)); (· (simp only [Act.put, List.setIfInBounds_toArray, List.set_cons_zero, List.set_cons_succ]; exact rfl))) | ((refine quiet_one (v := ?_) (a' := ?_) ?_ ?_ ?_ ?_); (rotate_left 2); (· (simp [Region.wanted, yielded]; done)); (· (intro w' hS'; go_simp; try (with_reducible rfl))); (· (simp only [Act.put, List.setIfInBounds_toArray, List.set_cons_zero, List.set_cons_succ]; exact rfl))) | ((refine quiet_same (v := ?_) (a' := ?_) 102 ?_ ?_ ?_ ?_ ?_ ?_); (rotate_left 3); (· (simp [Region.wanted, yielded]; done)); (· (intro w' hS'; go_simp; try (with_reducible rfl))); (· (intro w' hS'; exact l1Kids_any _ _)); (· (simp only [Act.put, List.setIfInBounds_toArray, List.set_cons_zero, List.set_cons_succ]; exact rfl))) | ((refine quiet_same (v := ?_) (a' := ?_) 103 ?_ ?_ ?_ ?_ ?_ ?_); (rotate_left 3); (· (simp [Region.wanted, yielded]; done)); (· (intro w' hS'; go_simp; try (with_reducible rfl))); (· (intro w' hS'; exact l1Most_any _ _)); (· (simp only [Act.put, List.setIfInBounds_toArray, List.set_cons_zero, List.set_cons_succ]; exact rfl))))
      refine quiet_nil ?_
      intro w2 hb2
      replace hB := hB.keep hb2
      replace hrx := hrx.below hb2
      replace hb0 := hb0.trans (hb2.mono hb0.size)
      clear r0 r1 r2 hb2
      go_wp2_with fail
      go_ret
      exact ⟨ret_bool (shape_no _ _ _ _ (by have := H.out; omega)).symm, hb0⟩
end Go.Proofs.YthgmofdfecioaaaGreatDoor

namespace Go.Proofs.YthgmofdfecioaaaGreatDoor
open Go.RowKit
set_option linter.unusedSimpArgs false
set_option linter.unusedVariables false

section
variable {P : Program} {ops : Array Oper} {Q : Exit → Act → World → Prop} {S : World → Prop} {need : Nat → Bool}

/-- one operation yields one value, or calls what hands back one value and leaves the world, in every world that meets S -/
def OneV (P : Program) (o : Oper) (a : Act) (S : World → Prop) (v : Value) : Prop :=
  (∀ w, S w → (execOp a.eval o).run P w = .ok (.value v) w) ∨
  ∃ f args, (∀ w, S w → (execOp a.eval o).run P w = .ok (.enter f args) w) ∧ ∀ w, S w → Calls P f args w fun e w' => e = .returned v ∧ w = w'
def YIf (P : Program) (ops : Array Oper) (S : World → Prop) (o : Oper) (v : Value) (a : Act) : Prop :=
  (Region.wanted o (yielded ops a.tmps) = true ∧ OneV P o a S v) ∨ (Region.wanted o (yielded ops a.tmps) = false ∧ v = undef) ∨ False
theorem OneV.yif {o : Oper} {v : Value} {a : Act} (h : OneV P o a S v) (hw : Region.wanted o (yielded ops a.tmps) = true) : YIf P ops S o v a := .inl ⟨hw, h⟩
theorem YIf.wpOp {i : Nat} {o : Oper} {v : Value} {a : Act} (hi : ops[i]? = some o) (hy : YIf P ops S o v a)
    {K : Act → World → Prop} {w : World} (hS : S w) (h : K (a.put o.dst v) w) : wpOp P ops Q i K a w := by
  unfold Go.wpOp
  simp only [hi]
  rcases hy with ⟨hw, hv | ⟨f, args, hv, hc⟩⟩ | ⟨hw, rfl⟩ | hF
  · simp only [hw, if_true, Oper.wp, hv w hS, Oper.upon]; exact .inl h
  · simp only [hw, if_true, Oper.wp, hv w hS, Oper.upon]
    refine .inl ((hc w hS).mono fun e w' ⟨he, hww⟩ => ?_)
    subst he
    subst hww
    exact h
  · simp only [hw, Bool.false_eq_true, if_false]; exact h
  · exact hF.elim
theorem YIf.of_same {o : Oper} {v : Value} {a a' : Act} (hy : YIf P ops S o v a) (he : execOp a'.eval o = execOp a.eval o)
    (hw : Region.wanted o (yielded ops a'.tmps) = Region.wanted o (yielded ops a.tmps)) : YIf P ops S o v a' := by
  unfold YIf OneV at *
  rw [he, hw]
  exact hy
theorem wpOp_putY {j : Nat} {oi oj : Oper} {v : Value} (hj : ops[j]? = some oj) (hap : oi.apart ops oj = true)
    (hsi : ∀ cs b, oi.op ≠ .select cs b) (hsj : ∀ cs b, oj.op ≠ .select cs b)
    (hQ : ∀ c a w, Q (.panic c) (a.put oi.dst v) w → Q (.panic c) a w) {K : Act → World → Prop} {a : Act} {w : World}
    (hy : YIf P ops S oi v a) (h : wpOp P ops Q j K (a.put oi.dst v) w) :
    wpOp P ops Q j (fun a' w' => YIf P ops S oi v a' ∧ K (a'.put oi.dst v) w') a w := by
  obtain ⟨h1, h2, h3⟩ := Oper.apart_spec hap
  have keep : ∀ (a : Act), YIf P ops S oi v a → ∀ u, YIf P ops S oi v (a.put oj.dst u) := fun a hy u =>
    hy.of_same (execOp_put oi hsi a oj.dst u h3) (wanted_put oi a oj.dst u h3)
  have keepD : ∀ d, YIf P ops S oi v { a with defers := d :: a.defers } := fun d => hy.of_same rfl rfl
  unfold wpOp at *
  simp only [hj] at *
  rw [wanted_put oj a oi.dst v h1] at h
  split
  · rename_i hw
    simp only [hw, if_true] at h
    rcases h with h | ⟨hasks, hlets⟩
    case inr => exact .inr ⟨by unfold Oper.asks at *; rw [execOp_put oj hsj a oi.dst v h1] at hasks; exact hasks, hlets⟩
    refine .inl ?_
    unfold Oper.wp at *
    rw [execOp_put oj hsj a oi.dst v h1] at h
    generalize (execOp a.eval oj).run P w = r at *
    cases r with
    | ok n w' =>
      cases n <;> simp only [Oper.upon] at h ⊢
      case value u => exact ⟨keep a hy u, by rw [← Act.put_comm a v u h2]; exact h⟩
      case skip => exact ⟨keep a hy _, by rw [← Act.put_comm a v undef h2]; exact h⟩
      case defer d =>
        refine ⟨keep _ (keepD d) _, ?_⟩
        rw [← Act.put_comm _ v undef h2, ← Act.put_defers]
        exact h
      case enter f args =>
        refine Calls.mono h fun e w'' he => ?_
        cases e with
        | returned u => exact ⟨keep a hy u, by rw [← Act.put_comm a v u h2]; exact he⟩
        | panicked c => exact hQ _ _ _ he
        | outgrown => exact he
      case row row args => exact Rows.mono h fun u w'' he => ⟨keep a hy u, by rw [← Act.put_comm a v u h2]; exact he⟩
    | halt x w' =>
      cases x <;> simp only [Oper.upon] at h ⊢
      case panic u => exact hQ _ _ _ h
  · rename_i hw
    simp only [hw] at h
    exact ⟨keep a hy _, by rw [← Act.put_comm a v undef h2]; exact h⟩

theorem wpAnyN_firstY {i : Nat} {oi : Oper} {v : Value} (hi : ops[i]? = some oi) (hsel : ∀ (j : Nat) (o : Oper) cs b, ops[j]? = some o → o.op ≠ .select cs b)
    (hQ : ∀ c a w, Q (.panic c) (a.put oi.dst v) w → Q (.panic c) a w)
    (hneed : ∀ listed, Closed ops listed → i ∈ Region.ready .any ops listed → ∀ j, j ∈ Region.ready .any ops listed → j ≠ i → need j = true) :
    ∀ (fuel : Nat) (listed : Array Bool) (a : Act) (w : World), Closed ops listed →
      (∀ j oj, ops[j]? = some oj → j ≠ i → listed.getD j true = false → (∀ e ∈ oj.after, Region.binds .any e = true → e.on ≠ i) → oi.apart ops oj = true) →
      i ∈ Region.ready .any ops listed → YIf P ops S oi v a → S w →
      wpAnyN P ops Q S need fuel (listed.setIfInBounds i true) (a.put oi.dst v) w → wpAnyN P ops Q S need (fuel + 1) listed a w := by
  intro fuel
  induction fuel with
  | zero =>
    intro listed a w hcl _ hr hy hS H
    refine ⟨fun h => (by rw [h] at hr; cases hr), fun j hj => ?_⟩
    by_cases hji : j = i
    · subst hji; exact hy.wpOp hi hS ⟨fun _ => hS, H⟩
    · have := ready_mono hj hji
      rw [H.1] at this
      cases this
  | succ fuel ih =>
    intro listed a w hcl hfree hr hy hS H
    refine ⟨fun h => (by rw [h] at hr; cases hr), fun j hj => ?_⟩
    by_cases hji : j = i
    · subst hji; exact hy.wpOp hi hS ⟨fun _ => hS, H⟩
    · have h1 := H.2 j (ready_mono hj hji)
      have hnj := hneed listed hcl hr j hj hji
      obtain ⟨hjun, oj, hoj, hall⟩ := mem_ready.1 hj
      have hnot : ∀ e ∈ oj.after, Region.binds .any e = true → e.on ≠ i := fun e he hb heq => by
        have h1 := hall e he hb
        have h0 := (mem_ready.1 hr).1
        rw [heq] at h1
        rcases Nat.lt_or_ge i listed.size with h' | h'
        · simp [h'] at h0 h1; rw [h0] at h1; cases h1
        · simp [Array.getElem?_eq_none h'] at h1
      have h2 := wpOp_putY hoj (hfree j oj hoj hji hjun hnot) (fun cs b => hsel i oi cs b hi) (fun cs b => hsel j oj cs b hoj) hQ hy h1
      have hfree' : ∀ k ok, ops[k]? = some ok → k ≠ i → (listed.setIfInBounds j true).getD k true = false →
          (∀ e ∈ ok.after, Region.binds .any e = true → e.on ≠ i) → oi.apart ops ok = true := fun k ok hk hki hun hno => by
        refine hfree k ok hk hki ?_ hno
        by_cases hjk : j = k
        · subst hjk; exact hjun
        · rw [getD_set_ne true hjk] at hun; exact hun
      refine wpOp_mono (fun a' w' h3 => ⟨h3.2.1, ih (listed.setIfInBounds j true) a' w' (hcl.step hj) hfree' (ready_mono hr (Ne.symm hji)) h3.1 (h3.2.1 hnj) ?_⟩) h2
      rw [Array.setIfInBounds_comm _ _ hji]
      exact h3.2.2


/-- operations that are taken first, one behind the other -/
def wpTakeY (P : Program) (ops : Array Oper) (S : World → Prop) (K : Act → Prop) : List Oper → Act → Prop
  | [], a => K a
  | o :: rest, a => if Region.wanted o (yielded ops a.tmps) then ∃ v, OneV P o a S v ∧ wpTakeY P ops S K rest (a.put o.dst v) else wpTakeY P ops S K rest (a.put o.dst undef)

theorem takesY_ok (hsel : Region.noSelect ops = true) (hQ : ∀ c (a : Act) d v w, Q (.panic c) (a.put d v) w → Q (.panic c) a w) {w : World} (hS : S w) : ∀ (T : List Nat) (fuel : Nat) (listed l' : Array Bool) (a : Act),
    (∀ i, i ∈ T → ∀ listed, Closed ops listed → i ∈ Region.ready .any ops listed → ∀ j, j ∈ Region.ready .any ops listed → j ≠ i → need j = true) →
    Closed ops listed → simT ops T listed = some l' → wpTakeY P ops S (fun a' => Closed ops l' → wpAnyN P ops Q S need fuel l' a' w) (sel ops T) a → wpAnyN P ops Q S need (T.length + fuel) listed a w := by
  intro T
  induction T with
  | nil =>
    intro fuel listed l' a _ hcl hs h
    simp only [simT, Option.some.injEq] at hs
    subst hs
    rw [List.length_nil, Nat.zero_add]
    exact (by simpa [sel, wpTakeY] using h : Closed ops listed → _) hcl
  | cons i T ih =>
    intro fuel listed l' a hn hcl hs h
    rw [simT] at hs
    split at hs
    case isFalse => cases hs
    rename_i hc
    rw [Bool.and_eq_true] at hc
    have hm : i ∈ Region.ready .any ops listed := by simpa using hc.1
    obtain ⟨_, o, ho, _⟩ := mem_ready.1 hm
    rw [sel_cons ho, wpTakeY] at h
    rw [List.length_cons, Nat.add_right_comm]
    split at h
    · rename_i hw
      obtain ⟨v, hv, hnext⟩ := h
      exact wpAnyN_firstY ho (Region.noSelect_spec hsel) (fun c a w hh => hQ c a _ _ w hh) (hn i (by simp)) _ _ _ _ hcl (Region.free_spec ho hc.2) hm (hv.yif hw) hS
        (ih _ _ _ _ (fun k hk => hn k (by simp [hk])) (hcl.step hm) hs hnext)
    · rename_i hw
      exact wpAnyN_firstY ho (Region.noSelect_spec hsel) (fun c a w hh => hQ c a _ _ w hh) (hn i (by simp)) _ _ _ _ hcl (Region.free_spec ho hc.2) hm (.inr (.inl ⟨by simpa using hw, rfl⟩)) hS
        (ih _ _ _ _ (fun k hk => hn k (by simp [hk])) (hcl.step hm) hs h)

theorem wpTakeY_mono {K K' : Act → Prop} (hK : ∀ a, K a → K' a) : ∀ (l : List Oper) (a : Act), wpTakeY P ops S K l a → wpTakeY P ops S K' l a
  | [], a, h => hK a h
  | o :: r, a, h => by
    rw [wpTakeY] at h ⊢
    split
    · rename_i hw
      simp only [hw, if_true] at h
      obtain ⟨v, hv, hn⟩ := h
      exact ⟨v, hv, wpTakeY_mono hK r _ hn⟩
    · rename_i hw
      simp only [hw] at h
      exact wpTakeY_mono hK r _ h

/-- **a region that draws its order**: the operations T first, each of which yields one value in every world that meets S; then A, behind each of which S holds; then B -/
theorem wp_region_firstY {id : Nat} {a : Act} {w : World} (S : World → Prop) (T A B : List Nat) (lT lA lB : List Oper) (hm : P.follows .mixedOrders = true) (hk : firstOk ops T A B = true)
    (hT : sel ops T = lT) (hA : sel ops A = lA) (hB : sel ops B = lB) (hQ : ∀ c (a : Act) d v w, Q (.panic c) (a.put d v) w → Q (.panic c) a w) (hS : S w.drew)
    (h : wpTakeY P ops S (fun a' => wpThen P ops Q S lA lB a' w.drew) lT a) : (Code.region id ops true).wp P Q a w := by
  subst hT hA hB
  refine wp_region_any hm (wpAny_of_N (S := S) (need := fun j => !B.contains j) _ _ _ _ ?_)
  simp only [firstOk, Bool.and_eq_true, beq_iff_eq] at hk
  obtain ⟨⟨⟨⟨hsel, hsim⟩, hpre⟩, hAB⟩, hlen⟩ := hk
  cases hl : simT ops T (Array.replicate ops.size false) with
  | none => rw [hl] at hsim; cases hsim
  | some l' =>
  rw [hl] at hsim
  rw [show ops.size = T.length + (A.length + B.length) from hlen.symm]
  rw [show Array.replicate (T.length + (A.length + B.length)) false = Array.replicate ops.size false from by rw [hlen]]
  refine takesY_ok hsel hQ (w := w.drew) hS T _ _ l' a (fun i hi listed hcl hr j hj hne => ?_) Closed.start hl (wpTakeY_mono (fun a' h' _ => rest_ok (fun j hj => ?_) A _ _ _ _ (Nat.le_refl _) hsim h') _ _ h)
  · rw [Bool.not_eq_true', List.contains_eq_mem, decide_eq_false_iff_not]
    intro hjB
    have h1 := List.all_eq_true.1 (List.all_eq_true.1 hpre j hjB) i hi
    have h2 := hcl.ready hj h1
    have h3 := (mem_ready.1 hr).1
    rcases Nat.lt_or_ge i listed.size with h' | h'
    · simp [h'] at h2 h3; rw [h3] at h2; cases h2
    · simp [Array.getElem?_eq_none h'] at h2
  · simp [hj]


theorem takeY_step {o : Oper} {rest : List Oper} {a a' : Act} {K : Act → Prop} {v : Value} (hw : Region.wanted o (yielded ops a.tmps) = true) (hv : ∀ w, S w → (execOp a.eval o).run P w = .ok (.value v) w)
    (ha : a.put o.dst v = a') (h : wpTakeY P ops S K rest a') : wpTakeY P ops S K (o :: rest) a := by
  subst ha; rw [wpTakeY, if_pos hw]; exact ⟨v, .inl hv, h⟩
theorem takeY_call {o : Oper} {rest : List Oper} {a a' : Act} {K : Act → Prop} {v : Value} (f : FuncId) (args : Array Value) (hw : Region.wanted o (yielded ops a.tmps) = true)
    (hv : ∀ w, S w → (execOp a.eval o).run P w = .ok (.enter f args) w) (hc : ∀ w, S w → Calls P f args w fun e w' => e = .returned v ∧ w = w')
    (ha : a.put o.dst v = a') (h : wpTakeY P ops S K rest a') : wpTakeY P ops S K (o :: rest) a := by
  subst ha; rw [wpTakeY, if_pos hw]; exact ⟨v, .inr ⟨f, args, hv, hc⟩, h⟩
theorem takeY_skip {o : Oper} {rest : List Oper} {a a' : Act} {K : Act → Prop} (hw : Region.wanted o (yielded ops a.tmps) = false) (ha : a.put o.dst undef = a') (h : wpTakeY P ops S K rest a') : wpTakeY P ops S K (o :: rest) a := by
  subst ha; rw [wpTakeY, if_neg (by rw [hw]; exact Bool.false_ne_true)]; exact h
theorem takeY_nil {a : Act} {K : Act → Prop} (h : K a) : wpTakeY P ops S K [] a := h
end
attribute [irreducible] wpTakeY
end Go.Proofs.YthgmofdfecioaaaGreatDoor

namespace Go.Proofs.YthgmofdfecioaaaGreatDoor
open Go.RowKit
set_option linter.unusedSimpArgs false
set_option linter.unusedVariables false

/-- what append of one term does, at a world in which the term's three cells lie at an address -/
theorem run_append_tmG {B : Nat} {w0 w : World} {v : Value} {ts : List Tm} {t : Tm} {x1 : List Value} {f1 : List Nat} (hp : Part B w0 v ts) (hb : ∀ b, B ≤ b → b < w0.heap.size → w.heap[b]? = w0.heap[b]?) (hsz : w0.heap.size ≤ w.heap.size) (hB : B ≤ w0.heap.size)
    (ht : OwT w t x1 f1) (hn : f1.Nodup) (hf : ∀ b, b ∈ f1 → w0.heap.size ≤ b) (hlen : ts.length ≤ 1099511627776) (ad : Addr) (c : Nat) (hc : ∀ j u, x1[j]? = some u → w.cell? (ad.add j) = some u) (ty : TypeId) :
    ∃ v' w', (Builtin.append_ #[25, 25] ty #[v, .slice (some ad) 1 c]).run Tryz.prog w = .ok v' w' ∧ Part B w' v' (ts ++ [t]) ∧ Below B w w' ∧ w.grownBy w' v.ownBlock := by
  obtain ⟨i, hi, hz, hz1, hz2⟩ := info_parts tm_info
  obtain ⟨xs, f, h1, h2, h3, h4, h5⟩ := hp
  have hlt : ∀ g, v.ownBlock = some g → g < w0.heap.size := fun g hg => (h1.lt g hg).2
  have hge : ∀ g, v.ownBlock = some g → B ≤ g := fun g hg => (h1.lt g hg).1
  have hfl := h2.lt
  have k1 : w.ownsRow B 27 3 v ts.length xs := by
    refine ⟨h1.1, ?_⟩
    rcases h1.2 with hn | ⟨g, cap, cur, rfl, hb', hg, r⟩
    · exact .inl hn
    · exact .inr ⟨g, cap, cur, rfl, hb', (hb g hb' (hlt g rfl)).trans hg, r⟩
  have k2 : OwX w ts xs f := h2.frame fun b hbf => hb b (h4 b hbf) (hfl b hbf)
  obtain ⟨v', w', hrun, hown, hg, _, hat⟩ := run_append_own_at (P := Tryz.prog) w B 25 ty 27 i _ 3 40 Tryz.underlying25 hi hz hz1 hz2 rfl (by omega) v ts.length xs k1 ad 1 c x1 ht.length hc ht.oneCell
    (by simp only [maxLen]; omega) (by omega) (by omega)
  have e1 : ∀ b, b ∈ f → w'.heap[b]? = w.heap[b]? := fun b hbf => hg.block b (by have := hfl b hbf; omega) (fun e => h5 b e.symm hbf)
  have e2 : ∀ b, b ∈ f1 → w'.heap[b]? = w.heap[b]? := fun b hbf => hg.block b (ht.lt b hbf) (fun e => by have := hlt b e.symm; have := hf b hbf; omega)
  refine ⟨v', w', hrun, ⟨xs ++ x1, f ++ f1, by simpa using hown, (k2.frame e1).append (OwX.one (ht.frame e2)), ?_, ?_, ?_⟩, ⟨hg.os, hg.tape, hg.output, hg.size, fun k hk => hg.block k (by omega) (fun e => by have := hge k e.symm; omega)⟩, hg⟩
  · refine List.nodup_append.2 ⟨h3, hn, fun x hx y hy e => ?_⟩
    have := hfl x hx; have := hf y hy; omega
  · intro b hbm
    rcases List.mem_append.1 hbm with hbm | hbm
    · exact h4 b hbm
    · have := hf b hbm; omega
  · intro g hgo hgm
    rcases hat with e | e <;> rw [e] at hgo
    · rcases List.mem_append.1 hgm with hgm | hgm
      · exact h5 g hgo hgm
      · have := hlt g hgo; have := hf g hgm; omega
    · injection hgo with hgo
      subst hgo
      rcases List.mem_append.1 hgm with hgm | hgm
      · have := hfl _ hgm; omega
      · have := ht.lt _ hgm; omega

section
variable {B : Nat} {w0 w1 : World} {v : Value} {ts : List Tm} {k n : Int} {ks : List Tm} {A : Option Addr} {c : Nat}
/-- the same behind the one-element slice that the translation lays for the term -/
theorem run_append_builtG (hp : Part B w0 v ts) (hb : ∀ b, B ≤ b → b < w0.heap.size → w1.heap[b]? = w0.heap[b]?) (hs : w0.heap.size ≤ w1.heap.size) (hB : B ≤ w0.heap.size) (hfr : Fresh w0.heap.size w1 A ks) (hl : ks.length ≤ 9223372036854775807) (hlen : ts.length ≤ 1099511627776) (ty : TypeId) :
    ∃ v' w', (Builtin.append_ #[25, 25] ty #[v, .slice (some ⟨w1.heap.size, 0, none⟩) 1 1]).run Tryz.prog (w1.alloc (.cells #[.int .i64 k, .int .i64 n, .slice A ks.length c] 27)) = .ok v' w' ∧
      Part B w' v' (ts ++ [.mk k n ks]) ∧ Below B w1 w' ∧ w1.grownBy w' v.ownBlock := by
  obtain ⟨fp, h1, h2, h3⟩ := (hfr.alloc (.cells #[.int .i64 k, .int .i64 n, .slice A ks.length c] 27))
  obtain ⟨v', w', r1, r2, r3, r4⟩ := run_append_tmG (t := .mk k n ks) (x1 := [.int .i64 k, .int .i64 n, .slice A ks.length c]) (f1 := fp) (c := 1) (ty := ty) hp (fun b h1 h2 => (Below.heap_alloc w1 _ b (by omega)).trans (hb b h1 h2)) (by simp; omega) hB (OwT.iff.2 ⟨A, c, rfl, hl, h1⟩) h2 h3 hlen ⟨w1.heap.size, 0, none⟩ (by
    intro j u hj
    match j, hj with
    | 0, hj => simp only [List.getElem?_cons_zero, Option.some.injEq] at hj; subst hj; simp [Addr.add]
    | 1, hj => simp only [List.getElem?_cons_succ, List.getElem?_cons_zero, Option.some.injEq] at hj; subst hj; simp [Addr.add]
    | 2, hj => simp only [List.getElem?_cons_succ, List.getElem?_cons_zero, Option.some.injEq] at hj; subst hj; simp [Addr.add])
  exact ⟨v', w', r1, r2, ((Below.refl _ _).alloc (by omega) _).trans r3, grownBy_trans (grownBy_alloc_ (World.grownBy.refl _ _) _) r4⟩

/-- in a plain region -/
theorem wpList_append_builtG (hp : Part B w0 v ts) (hb : ∀ b, B ≤ b → b < w0.heap.size → w1.heap[b]? = w0.heap[b]?) (hs : w0.heap.size ≤ w1.heap.size) (hB : B ≤ w0.heap.size) (hfr : Fresh w0.heap.size w1 A ks) (hl : ks.length ≤ 9223372036854775807) {m : Nat} (hm : ts.length = m) (hlen : m ≤ 1099511627776)
    {ops : Array Oper} {rest : List Oper} {o : Oper} {a : Act} {Q : Exit → Act → World → Prop} (hgd : o.guard = none) (s x : Operand)
    (ho : o.op = .call { callee := .builtin .append, args := #[s, x], argTypes := #[25, 25] }) (hse : a.eval s = v) (hx : a.eval x = .slice (some ⟨w1.heap.size, 0, none⟩) 1 1)
    (h : ∀ A' c' w', Part B w' (.slice A' (m + 1) c') (ts ++ [.mk k n ks]) → Below B w1 w' → w1.grownBy w' v.ownBlock → wpList Tryz.prog ops Q rest (a.put o.dst (.slice A' (m + 1) c')) w') :
    wpList Tryz.prog ops Q (o :: rest) a (w1.alloc (.cells #[.int .i64 k, .int .i64 n, .slice A ks.length c] 27)) := by
  subst hm
  refine wpList_plain hgd fun K hK => ?_
  obtain ⟨v', w', hrun, h2, h3, h4⟩ := run_append_builtG (k := k) (n := n) (c := c) hp hb hs hB hfr hl hlen o.type
  unfold Oper.wp execOp
  simp only [ho, resolve, invoke, builtin, Sem.run_bind, Sem.run_pure, Result.andThen_ok, List.map_toArray, List.map_cons, List.map_nil, hse, hx, hrun]
  obtain ⟨A', c', rfl⟩ := h2.shape
  rw [List.length_append] at h2 ⊢
  exact hK _ _ (h A' c' w' h2 h3 h4)
end
end Go.Proofs.YthgmofdfecioaaaGreatDoor

namespace Go.Proofs.YthgmofdfecioaaaGreatDoor
open Go.RowKit
set_option linter.unusedSimpArgs false
set_option linter.unusedVariables false

mutual
def shS (by_ : Int) : Int → Tm → Tm | cut, .mk k n ks => .mk k (if k = 1 ∧ cut ≤ n then n + by_ else n) (shSL by_ k cut 0 ks)
def shSL (by_ : Int) : Int → Int → Nat → List Tm → List Tm | _, _, _, [] => [] | k, cut, i, t :: ts => shS by_ (cut + under k i) t :: shSL by_ k cut (i + 1) ts
end

theorem shSL_append (by_ k d : Int) (us : List Tm) : ∀ (ts : List Tm) (i : Nat), shSL by_ k d i (ts ++ us) = shSL by_ k d i ts ++ shSL by_ k d (i + ts.length) us
  | [], i => by simp [shSL]
  | t :: ts, i => by rw [List.cons_append, shSL, shSL, shSL_append by_ k d us ts (i + 1), List.cons_append, List.length_cons, show i + 1 + ts.length = i + (ts.length + 1) from by omega]
theorem shSL_length (by_ k d : Int) : ∀ (ts : List Tm) (i : Nat), (shSL by_ k d i ts).length = ts.length
  | [], i => by simp [shSL]
  | t :: ts, i => by rw [shSL, List.length_cons, List.length_cons, shSL_length by_ k d ts (i + 1)]
theorem shSL_take (by_ k d : Int) {ks : List Tm} {j : Nat} (hj : j < ks.length) : shSL by_ k d 0 (ks.take (j + 1)) = shSL by_ k d 0 (ks.take j) ++ [shS by_ (d + under k j) ks[j]] := by
  rw [List.take_succ_eq_append_getElem hj, shSL_append, List.length_take, Nat.min_eq_left (Nat.le_of_lt hj), Nat.zero_add, shSL, shSL]

set_option maxHeartbeats 2000000 in
set_option maxRecDepth 100000 in
theorem sShift_any (N : Nat) : ∀ (k n : Int) (ks : List Tm) (A : Option Addr) (c : Nat) (by_ cut : Int) (q : Nat) (w : World), sizes ks < N → sizes ks ≤ 1000000000 → shape q (.mk k n ks) = true → -1000 ≤ by_ ∧ by_ ≤ 1000 → 0 ≤ cut → cut + q ≤ 1000 → Rd w A 0 ks →
    Calls Tryz.prog 104 #[.agg #[.int .i64 k, .int .i64 n, .slice A ks.length c], .int .i64 by_, .int .i64 cut] w (GotT w k (if k = 1 ∧ cut ≤ n then n + by_ else n) (shSL by_ k cut 0 ks)) := by
  induction N with
  | zero => intro k n ks A c by_ cut q w hN; exact absurd hN (Nat.not_lt_zero _)
  | succ N ih =>
  intro k n ks A c by_ cut q w hN hM hsh hby hc0 hcq hr
  have hlen := length_le_sizes ks
  obtain ⟨q, rfl⟩ : ∃ q', q = q' + 1 := by cases q with | zero => simp [shape] at hsh | succ q => exact ⟨q, rfl⟩
  obtain ⟨ha, hm1, hm2, hkids⟩ := (shape_split q k n ks).1 hsh
  by_cases hk : k = 1
  · subst hk
    have hks : ks = [] := by
      have h0 : arity 1 = 0 := rfl
      rw [h0] at ha
      exact List.eq_nil_of_length_eq_zero (by omega)
    subst hks
    have h20 : mostN 1 = 20 := rfl
    rw [h20] at hm2
    clear hkids hsh ha h20
    by_cases hcn : cut ≤ n
    · rw [if_pos ⟨rfl, hcn⟩]
      have q0 : decide (cut ≤ n) = true := by simpa using hcn
      go_enter Tryz.func104, Tryz.ntmps104
      go_wp2_with fail
      go_loopw [8] (fun i wr => i = .int .i64 0 ∧ Blk wr (w.heap.size + 1 + 1) #[.int .i64 1, .int .i64 (n + by_), .slice none 0 0] ∧ Blk wr (w.heap.size + 1) #[.int .i64 0, .int .i64 0, .slice none 0 0] ∧ Blk wr w.heap.size #[.int .i64 1, .int .i64 n, .slice A 0 c] ∧ Below w.heap.size w wr)
        (fun _ _ => 0)
      case atStart => exact ⟨rfl, Blk.new_ _ _ _ (by simp), (Blk.new_ _ _ _ (by simp)).alloc _, ((Blk.new_ _ _ _ rfl).alloc _).alloc _, (((Below.refl _ _).alloc (by simp) _).alloc (by simp) _).alloc (by simp; omega) _⟩
      case round =>
        obtain ⟨rfl, hB3, hB2, hB1, hb⟩ := hrel
        have b2 := hB1.at_ (i := 2) rfl
        have c0 : wr.cell? ⟨w.heap.size + 1 + 1, 0, none⟩ = some (.int .i64 1) := hB3.at_ rfl
        have c1 : wr.cell? ⟨w.heap.size + 1 + 1, 1, none⟩ = some (.int .i64 (n + by_)) := hB3.at_ rfl
        have c2 : wr.cell? ⟨w.heap.size + 1 + 1, 2, none⟩ = some (.slice none 0 0) := hB3.at_ rfl
        have d0 : wr.cell? ⟨w.heap.size + 1, 0, none⟩ = some (.int .i64 0) := hB2.at_ rfl
        have d1 : wr.cell? ⟨w.heap.size + 1, 1, none⟩ = some (.int .i64 0) := hB2.at_ rfl
        have d2 : wr.cell? ⟨w.heap.size + 1, 2, none⟩ = some (.slice none 0 0) := hB2.at_ rfl
        have e0 := hB2.frozen 0
        have e1 := hB2.frozen 1
        have e2 := hB2.frozen 2
        go_wp2_with fail
        refine bodyPost_ret (v := .agg #[.int .i64 1, .int .i64 (n + by_), .slice none 0 0]) (by simp [results, Tryz.results104, go_sem, d0, d1, d2]) rfl ⟨none, 0, by simp [shSL], by simp [shSL], ?_, ?_⟩
        · simpa [shSL] using (Fresh.nil : Fresh w.heap.size _ none [])
        · exact ((hb.setCell (by simp) _).setCell (by simp) _).setCell (by simp) _
    · rw [if_neg (by rintro ⟨-, h⟩; exact hcn h)]
      have q0 : decide (cut ≤ n) = false := by simpa using hcn
      go_enter Tryz.func104, Tryz.ntmps104
      go_wp2_with fail
      go_loopw [8] (fun i wr => i = .int .i64 0 ∧ Blk wr (w.heap.size + 1 + 1) #[.int .i64 1, .int .i64 (n), .slice none 0 0] ∧ Blk wr (w.heap.size + 1) #[.int .i64 0, .int .i64 0, .slice none 0 0] ∧ Blk wr w.heap.size #[.int .i64 1, .int .i64 n, .slice A 0 c] ∧ Below w.heap.size w wr)
        (fun _ _ => 0)
      case atStart => exact ⟨rfl, Blk.new_ _ _ _ (by simp), (Blk.new_ _ _ _ (by simp)).alloc _, ((Blk.new_ _ _ _ rfl).alloc _).alloc _, (((Below.refl _ _).alloc (by simp) _).alloc (by simp) _).alloc (by simp; omega) _⟩
      case round =>
        obtain ⟨rfl, hB3, hB2, hB1, hb⟩ := hrel
        have b2 := hB1.at_ (i := 2) rfl
        have c0 : wr.cell? ⟨w.heap.size + 1 + 1, 0, none⟩ = some (.int .i64 1) := hB3.at_ rfl
        have c1 : wr.cell? ⟨w.heap.size + 1 + 1, 1, none⟩ = some (.int .i64 (n)) := hB3.at_ rfl
        have c2 : wr.cell? ⟨w.heap.size + 1 + 1, 2, none⟩ = some (.slice none 0 0) := hB3.at_ rfl
        have d0 : wr.cell? ⟨w.heap.size + 1, 0, none⟩ = some (.int .i64 0) := hB2.at_ rfl
        have d1 : wr.cell? ⟨w.heap.size + 1, 1, none⟩ = some (.int .i64 0) := hB2.at_ rfl
        have d2 : wr.cell? ⟨w.heap.size + 1, 2, none⟩ = some (.slice none 0 0) := hB2.at_ rfl
        have e0 := hB2.frozen 0
        have e1 := hB2.frozen 1
        have e2 := hB2.frozen 2
        go_wp2_with fail
        refine bodyPost_ret (v := .agg #[.int .i64 1, .int .i64 (n), .slice none 0 0]) (by simp [results, Tryz.results104, go_sem, d0, d1, d2]) rfl ⟨none, 0, by simp [shSL], by simp [shSL], ?_, ?_⟩
        · simpa [shSL] using (Fresh.nil : Fresh w.heap.size _ none [])
        · exact ((hb.setCell (by simp) _).setCell (by simp) _).setCell (by simp) _
  have hkids' := hide hkids
  have hm2' := hide hm2
  clear hkids ha hsh hm2
  have hk' := hk
  by_cases hk : k = 1
  · exact absurd hk hk'
  · have hn : (if k = 1 ∧ cut ≤ n then n + by_ else n) = n := by rw [if_neg]; rintro ⟨h, -⟩; exact hk h
    have q1 : (k == 1) = false := by simpa using hk
    rw [hn]
    clear hn hk
    go_enter Tryz.func104, Tryz.ntmps104
    go_wp2_with fail
    go_loopw [8] (fun i wr => ∃ (j : Nat) (v : Value), j ≤ ks.length ∧ i = .int .i64 j ∧ Part (w.heap.size + 3) wr v (shSL by_ k cut 0 (ks.take j)) ∧ Blk wr (w.heap.size + 1 + 1) #[.int .i64 k, .int .i64 (n), v] ∧ Blk wr (w.heap.size + 1) #[.int .i64 0, .int .i64 0, .slice none 0 0] ∧ Blk wr w.heap.size #[.int .i64 k, .int .i64 n, .slice A ks.length c] ∧ Below w.heap.size w wr)
      (fun i _ => ks.length - (intOf i).toNat)
    case atStart => exact ⟨0, _, Nat.zero_le _, rfl, Part.nil, Blk.new_ _ _ _ (by simp), (Blk.new_ _ _ _ (by simp)).alloc _, ((Blk.new_ _ _ _ rfl).alloc _).alloc _, (((Below.refl _ _).alloc (by simp) _).alloc (by simp) _).alloc (by simp; omega) _⟩
    case round =>
      obtain ⟨j, v, hj, rfl, hp, hB3, hB2, hB1, hb⟩ := hrel
      have c12 := hB1.at_ (i := 2) rfl
      by_cases hlt : j < ks.length
      · obtain ⟨b, off, k', n', ks', A', c', rfl, hkj, hc1, hc2, hc3, hl', hr'⟩ := (hr.below hb).at_ hlt
        have hsz := sizes_le (List.getElem_mem hlt)
        have hsk := hkids'.out _ (List.getElem_mem hlt)
        rw [hkj] at hsz hsk
        simp only [Tm.size] at hsz
        have H3 := hide hkj
        have H4 := hide hsk
        clear hkj hsk
        have hz := hB3.lt
        go_wp2_with fail
        have x2 := hB3.rule (i := 2) rfl
        have b0 := hB1.rule (i := 0) rfl
        have b2 := hB1.rule (i := 2) rfl
        have y0 := rule_of hc1
        have y1 := rule_of hc2
        have y2 := rule_of hc3
        have hun := under_le k j
        refine wp_region_firstY (fun w' => Below wr.heap.size wr w') [0, 1, 2, 3, 4, 5, 6, 7, 8, 9, 10, 11, 12, 13] [14, 15] [16, 17, 18] [_, _, _, _, _, _, _, _, _, _, _, _, _, _] [_, _] [_, _, _] (by kernel_rfl) (by kernel_rfl) rfl rfl rfl (fun _ _ d _ _ h => by cases d <;> exact h) (Below.refl _ _).drew ?_
        repeat (first | ((refine takeY_skip (a' := ?_) ?_ ?_ ?_); (rotate_left); (· (simp [Region.wanted, yielded]; done)); (· (simp only [List.getElem_toArray, List.getElem_cons_zero, List.getElem_cons_succ, Act.put, List.setIfInBounds_toArray, List.set_cons_zero, List.set_cons_succ]; exact rfl))) | ((refine takeY_step (v := ?_) (a' := ?_) ?_ ?_ ?_ ?_); (rotate_left 2); (· (simp [Region.wanted, yielded]; done)); (· (intro w' hS'; go_simp; try (with_reducible rfl))); (· (simp only [List.getElem_toArray, List.getElem_cons_zero, List.getElem_cons_succ, Act.put, List.setIfInBounds_toArray, List.set_cons_zero, List.set_cons_succ]; exact rfl))) | ((refine takeY_call (v := ?_) (a' := ?_) 105 ?_ ?_ ?_ ?_ ?_ ?_); (rotate_left 3); (· (simp [Region.wanted, yielded]; done)); (· (intro w' hS'; go_simp; try (with_reducible rfl))); (· (intro w' hS'; exact sUnder_any _ _ _)); (· (simp only [List.getElem_toArray, List.getElem_cons_zero, List.getElem_cons_succ, Act.put, List.setIfInBounds_toArray, List.set_cons_zero, List.set_cons_succ]; exact rfl))))
        refine takeY_nil (then_cons ?_)
        obtain ⟨n2, hn2⟩ : ∃ n2, (if k' = 1 ∧ cut + under k j ≤ n' then n' + by_ else n') = n2 := ⟨_, rfl⟩
        have hn2' := hide hn2
        clear hn2
        go_wp2_with (go_at_call 104; refine (ih k' n' ks' A' c' by_ (cut + under k j) q _ (by omega) (by omega) H4.out hby (by omega) (by omega) hr'.drew).mono ?_; rw [hn2'.out]; rintro e w1 ⟨A1, c1, rfl, hl1, hf1, hb1⟩)
        have hx1 : Below wr.heap.size wr w1 := (Below.refl _ _).drew.trans hb1
        refine mid_intro hx1 (then_cons ?_)
        go_wp2_with fail
        refine mid_intro (hx1.alloc hx1.size _) (then_nil ?_)
        refine wpList_append_built (B := w.heap.size + 3) (m := j) hp.drew hb1 (by simp; omega) hf1 hl1 (by rw [shSL_length]; simp; omega) (by omega) rfl (.tmp 36) (.tmp 50) rfl rfl rfl ?_
        intro A2 c2 w2 hp2 hb2 hg2
        have q3 : Blk w2 (w.heap.size + 1 + 1) #[.int .i64 k, .int .i64 (n), v] := (hB3.below hx1 (by omega)).below hb2 (by omega)
        have q2 : Blk w2 (w.heap.size + 1) #[.int .i64 0, .int .i64 0, .slice none 0 0] := (hB2.below hx1 (by omega)).below hb2 (by omega)
        have q1' : Blk w2 w.heap.size #[.int .i64 k, .int .i64 n, .slice (some ⟨b, off, none⟩) ks.length c] := (hB1.below hx1 (by omega)).below hb2 (by omega)
        have c3 : w2.cell? ⟨w.heap.size + 1 + 1, 2, none⟩ = some v := q3.at_ rfl
        have z3 := q3.frozen 2
        have hbf : Below w.heap.size w w2 := (hb.trans (hx1.mono (by omega))).trans (hb2.mono (by omega))
        clear x2 y0 y1 y2 b0 b2
        go_wp2_with fail
        go_roundw
        case rel => exact ⟨j + 1, _, by omega, by go_num, by rw [shSL_take by_ k cut hlt, H3.out, shS, hn2'.out]; exact hp2.setCell (by simp) _, q3.set_ 2 _, q2.far (by simp) _, q1'.far (by simp; omega) _, hbf.setCell (by simp; omega) _⟩
        case measure => simp [intOf]; omega
      · have hjl : j = ks.length := by omega
        subst hjl
        rw [List.take_length] at hp
        obtain ⟨Ar, cr, rfl, hfr⟩ := hp.fresh
        have c0 : wr.cell? ⟨w.heap.size + 1 + 1, 0, none⟩ = some (.int .i64 k) := hB3.at_ rfl
        have c1 : wr.cell? ⟨w.heap.size + 1 + 1, 1, none⟩ = some (.int .i64 (n)) := hB3.at_ rfl
        have c2 : wr.cell? ⟨w.heap.size + 1 + 1, 2, none⟩ = some (.slice Ar (shSL by_ k cut 0 ks).length cr) := hB3.at_ rfl
        have d0 : wr.cell? ⟨w.heap.size + 1, 0, none⟩ = some (.int .i64 0) := hB2.at_ rfl
        have d1 : wr.cell? ⟨w.heap.size + 1, 1, none⟩ = some (.int .i64 0) := hB2.at_ rfl
        have d2 : wr.cell? ⟨w.heap.size + 1, 2, none⟩ = some (.slice none 0 0) := hB2.at_ rfl
        have e0 := hB2.frozen 0
        have e1 := hB2.frozen 1
        have e2 := hB2.frozen 2
        go_wp2_with fail
        refine bodyPost_ret (v := .agg #[.int .i64 k, .int .i64 (n), .slice Ar (shSL by_ k cut 0 ks).length cr]) (by simp [results, Tryz.results104, go_sem, d0, d1, d2]) rfl ⟨Ar, cr, rfl, by rw [shSL_length]; omega, ?_, ?_⟩
        · exact (((hfr.setCell (by simp) _).setCell (by simp) _).setCell (by simp) _).mono (by omega)
        · exact ((hb.setCell (by simp) _).setCell (by simp) _).setCell (by simp) _
end Go.Proofs.YthgmofdfecioaaaGreatDoor

namespace Go.Proofs.YthgmofdfecioaaaGreatDoor
open Go.RowKit
set_option linter.unusedSimpArgs false
set_option linter.unusedVariables false

mutual
/-- every variable replaced by what f says of it and of how many variables stand between -/
def chg (f : Int → Int → Tm) : Int → Tm → Tm
  | d, .mk k n ks => if k = 1 then f n d else .mk k n (chgs f k d 0 ks)
def chgs (f : Int → Int → Tm) : Int → Int → Nat → List Tm → List Tm
  | _, _, _, [] => []
  | k, d, i, t :: ts => chg f (d + under k i) t :: chgs f k d (i + 1) ts
end
mutual
/-- whether each replacement went well -/
def chgOk (ok : Int → Int → Bool) : Int → Tm → Bool
  | d, .mk k n ks => if k = 1 then ok n d else chgsOk ok k d 0 ks
def chgsOk (ok : Int → Int → Bool) : Int → Int → Nat → List Tm → Bool
  | _, _, _, [] => true
  | k, d, i, t :: ts => chgOk ok (d + under k i) t && chgsOk ok k d (i + 1) ts
end
theorem chgs_append (f : Int → Int → Tm) (k d : Int) (us : List Tm) : ∀ (ts : List Tm) (i : Nat), chgs f k d i (ts ++ us) = chgs f k d i ts ++ chgs f k d (i + ts.length) us
  | [], i => by simp [chgs]
  | t :: ts, i => by rw [List.cons_append, chgs, chgs, chgs_append f k d us ts (i + 1), List.cons_append, List.length_cons, show i + 1 + ts.length = i + (ts.length + 1) from by omega]
theorem chgs_length (f : Int → Int → Tm) (k d : Int) : ∀ (ts : List Tm) (i : Nat), (chgs f k d i ts).length = ts.length
  | [], i => by simp [chgs]
  | t :: ts, i => by rw [chgs, List.length_cons, List.length_cons, chgs_length f k d ts (i + 1)]
theorem chgsOk_append (ok : Int → Int → Bool) (k d : Int) (us : List Tm) : ∀ (ts : List Tm) (i : Nat), chgsOk ok k d i (ts ++ us) = (chgsOk ok k d i ts && chgsOk ok k d (i + ts.length) us)
  | [], i => by simp [chgsOk]
  | t :: ts, i => by rw [List.cons_append, chgsOk, chgsOk, chgsOk_append ok k d us ts (i + 1), List.length_cons, show i + 1 + ts.length = i + (ts.length + 1) from by omega, Bool.and_assoc]
theorem chgs_take (f : Int → Int → Tm) (k d : Int) {ks : List Tm} {j : Nat} (hj : j < ks.length) : chgs f k d 0 (ks.take (j + 1)) = chgs f k d 0 (ks.take j) ++ [chg f (d + under k j) ks[j]] := by
  rw [List.take_succ_eq_append_getElem hj, chgs_append, List.length_take, Nat.min_eq_left (Nat.le_of_lt hj), Nat.zero_add, chgs, chgs]
theorem chgsOk_take (ok : Int → Int → Bool) (k d : Int) {ks : List Tm} {j : Nat} (hj : j < ks.length) : chgsOk ok k d 0 (ks.take (j + 1)) = (chgsOk ok k d 0 (ks.take j) && chgOk ok (d + under k j) ks[j]) := by
  rw [List.take_succ_eq_append_getElem hj, chgsOk_append, List.length_take, Nat.min_eq_left (Nat.le_of_lt hj), Nat.zero_add, chgsOk, chgsOk, Bool.and_true]

theorem tm_eta (t : Tm) : ∃ k n ks, t = .mk k n ks := by cases t; exact ⟨_, _, _, rfl⟩
/-- a term handed back in new memory, a flag's block turned -/
def GotG (g : Nat) (w : World) (t : Tm) (b : Bool) (e : Ending) (w' : World) : Prop :=
  ∃ A c, e = .returned (.agg #[.int .i64 t.k, .int .i64 t.n, .slice A t.ks.length c]) ∧ t.ks.length ≤ 9223372036854775807 ∧ Fresh w.heap.size w' A t.ks ∧ Blk w' g #[.bool b] ∧ w.grownBy w' (some g)
theorem gotG_mk {g : Nat} {w : World} {k n : Int} {ks : List Tm} {b : Bool} {e : Ending} {w' : World} (h : GotG g w (.mk k n ks) b e w') :
    ∃ A c, e = .returned (.agg #[.int .i64 k, .int .i64 n, .slice A ks.length c]) ∧ ks.length ≤ 9223372036854775807 ∧ Fresh w.heap.size w' A ks ∧ Blk w' g #[.bool b] ∧ w.grownBy w' (some g) := h
theorem only_belowB {a w w' : World} {row : Option Nat} {B : Nat} (h : a.grownBy w row) (k : Below B w w') (hB : a.heap.size ≤ B) : a.grownBy w' row :=
  ⟨k.os.trans h.os, k.tape.trans h.tape, k.output.trans h.output, Nat.le_trans h.size k.size, fun i hi hne => (k.block i (by omega)).trans (h.block i hi hne)⟩
/-- what is asked of the function that is handed over -/
def FunOk (F : Nat) (caps : List Value) (W0 : World) (g : Nat) (f : Int → Int → Tm) (ok : Int → Int → Bool) : Prop :=
  ∀ (n d : Int) (w : World) (b : Bool), 0 ≤ n → n ≤ 20 → 0 ≤ d → d ≤ 60 → W0.grownBy w (some g) → Blk w g #[.bool b] → Calls Tryz.prog F (.int .i64 n :: .int .i64 d :: caps).toArray w (GotG g w (f n d) (b && ok n d))
theorem grown_trans {a w w' : World} {row : Option Nat} (h : a.grownBy w row) (k : w.grownBy w' row) : a.grownBy w' row := only_trans h k
theorem Blk.ruleG {wx : World} {g b : Nat} {cs : Array Value} (h : Blk wx b cs) (hb : b ≠ g) {i : Nat} {v : Value} (hi : cs[i]? = some v) : ∀ w' : World, wx.grownBy w' (some g) → w'.cell? ⟨b, i, none⟩ = some v :=
  fun _ hw => (h.grown hw (by simpa using hb)).at_ hi

theorem run_enter {F : Nat} {fn : Func} (hf : Tryz.prog.funcs[F]? = some fn) (h1 : (fn.name == "runtime.NumGoroutine") = false) (h2 : fn.body.isNone = false) (args : Array Value) (w : World) : (callFunc F args).run Tryz.prog w = .ok (.enter F args) w := by
  have h1' : fn.name ≠ "runtime.NumGoroutine" := by simpa using h1
  have h2' : fn.body ≠ none := by intro e; rw [e] at h2; cases h2
  simp [callFunc, go_sem, hf, h1', h2']

set_option maxHeartbeats 2000000 in
set_option maxRecDepth 100000 in
theorem changed_any {F : Nat} {caps : List Value} {W0 : World} {g : Nat} {f : Int → Int → Tm} {ok : Int → Int → Bool} (hF : FunOk F caps W0 g f ok) (hrun : ∀ (args : Array Value) (w : World), (callFunc F args).run Tryz.prog w = .ok (.enter F args) w) (N : Nat) :
    ∀ (k n : Int) (ks : List Tm) (A : Option Addr) (c : Nat) (d : Int) (q : Nat) (w : World) (b : Bool), sizes ks < N → shape q (.mk k n ks) = true → 0 ≤ d → d + q ≤ 60 → sizes ks ≤ 1099511627776 →
      W0.grownBy w (some g) → Blk w g #[.bool b] → RdP (· ≠ g) w A 0 ks →
      Calls Tryz.prog 50 #[.agg #[.int .i64 k, .int .i64 n, .slice A ks.length c], .int .i64 d, .func (.func F) #[] caps.toArray] w (GotG g w (chg f d (.mk k n ks)) (b && chgOk ok d (.mk k n ks))) := by
  induction N with
  | zero => intro k n ks A c d q w b hN; exact absurd hN (Nat.not_lt_zero _)
  | succ N ih =>
  intro k n ks A c d q w b hN hsh hd0 hdq hM hW hg hr
  have hlen := length_le_sizes ks
  obtain ⟨q, rfl⟩ : ∃ q', q = q' + 1 := by cases q with | zero => simp [shape] at hsh | succ q => exact ⟨q, rfl⟩
  obtain ⟨ha, hm1, hm2, hkids⟩ := (shape_split q k n ks).1 hsh
  have hgl := hg.lt
  by_cases hk : k = 1
  · subst hk
    have hz : chg f d (.mk 1 n ks) = f n d := by rw [chg, if_pos rfl]
    have hzo : chgOk ok d (.mk 1 n ks) = ok n d := by rw [chgOk, if_pos rfl]
    have hn2 : n ≤ 20 := by simpa [mostN] using hm2
    rw [hz, hzo]
    generalize hft : f n d = ft
    go_enter Tryz.func50, Tryz.ntmps50
    go_wp2_with (refine (hF n d _ b hm1 hn2 hd0 (by omega) ((grown_trans hW (only_alloc (only_alloc (World.grownBy.refl _ _) _) _))) ((hg.alloc _).alloc _)).mono ?_; rw [hft]; rintro e w3 ⟨A3, c3, rfl, hl3, hf3, hg3, hgr3⟩; have hT : Blk w3 (w.heap.size + 1) #[.int .i64 0, .int .i64 0, .slice none 0 0] := (Blk.new_ (n := w.heap.size + 1) (w.alloc (.cells #[.int .i64 1, .int .i64 n, .slice A ks.length c] 27)) 27 #[.int .i64 0, .int .i64 0, .slice none 0 0] (by simp)).grown hgr3 (by simp; omega); have d0 := hT.at_ (i := 0) rfl; have d1 := hT.at_ (i := 1) rfl; have d2 := hT.at_ (i := 2) rfl; have e0 := hT.frozen 0; have e1 := hT.frozen 1; have e2 := hT.frozen 2)
    have hgr : w.grownBy w3 (some g) := grown_trans (only_alloc (only_alloc (World.grownBy.refl _ _) _) _) hgr3
    have hsz : w.heap.size + 1 < w3.heap.size := by have := hT.lt; simpa using this
    have hgne : g ≠ w.heap.size + 1 := by omega
    refine bodyPost_ret (v := .agg #[.int .i64 ft.k, .int .i64 ft.n, .slice A3 ft.ks.length c3]) (by simp [results, Tryz.results50, go_sem, d0, d1, d2]) rfl ⟨A3, c3, rfl, hl3, ?_, ?_, ?_⟩
    · exact (((hf3.setCell (by simp) _).setCell (by simp) _).setCell (by simp) _).mono (by simp; omega)
    · exact ((hg3.far (by simpa using hgne) _).far (by simpa using hgne) _).far (by simpa using hgne) _
    · exact only_setCell (only_setCell (only_setCell hgr (.inr (by simp)) _) (.inr (by simp)) _) (.inr (by simp)) _
  · have hz : chg f d (.mk k n ks) = .mk k n (chgs f k d 0 ks) := by rw [chg, if_neg hk]
    have hzo : chgOk ok d (.mk k n ks) = chgsOk ok k d 0 ks := by rw [chgOk, if_neg hk]
    have q1 : (k == 1) = false := by simpa using hk
    rw [hz, hzo]
    have hkids' := hide hkids
    clear hz hzo hk hkids ha hm1 hm2 hsh
    go_enter Tryz.func50, Tryz.ntmps50
    go_wp2_with fail
    go_loopw [26] (fun i wr => ∃ (j : Nat) (v : Value), j ≤ ks.length ∧ i = .int .i64 j ∧ Part (w.heap.size + 3) wr v (chgs f k d 0 (ks.take j)) ∧ Blk wr (w.heap.size + 1 + 1) #[.int .i64 k, .int .i64 n, v] ∧ Blk wr (w.heap.size + 1) #[.int .i64 0, .int .i64 0, .slice none 0 0] ∧ Blk wr w.heap.size #[.int .i64 k, .int .i64 n, .slice A ks.length c] ∧ Blk wr g #[.bool (b && chgsOk ok k d 0 (ks.take j))] ∧ w.grownBy wr (some g))
      (fun i _ => ks.length - (intOf i).toNat)
    case atStart => exact ⟨0, _, Nat.zero_le _, rfl, Part.nil, Blk.new_ _ _ _ (by simp), (Blk.new_ _ _ _ (by simp)).alloc _, ((Blk.new_ _ _ _ rfl).alloc _).alloc _, by simpa [chgsOk] using ((hg.alloc _).alloc _).alloc _, only_alloc (only_alloc (only_alloc (World.grownBy.refl _ _) _) _) _⟩
    case round =>
      obtain ⟨j, v, hj, rfl, hp, hB3, hB2, hB1, hGr, hgr⟩ := hrel
      by_cases hlt : j < ks.length
      · obtain ⟨b1, off, k', n', ks', A', c', rfl, hkj, hc1, hc2, hc3, hl', hr'⟩ := (hr.grown hgr (fun b hb e => hb (by injection e))).at_ hlt
        have hbl := World.block_lt_of_cell? _ _ hc1
        have hsz := sizes_le (List.getElem_mem hlt)
        have hsk := hkids'.out _ (List.getElem_mem hlt)
        rw [hkj] at hsz hsk
        simp only [Tm.size] at hsz
        have H3 := hide hkj
        have H4 := hide hsk
        clear hkj hsk
        have hz3 := hB3.lt
        have c2 : wr.cell? ⟨w.heap.size + 1 + 1, 2, none⟩ = some v := hB3.at_ rfl
        go_wp2_with fail
        refine name_world ?_
        intro wx hwx
        have hXB : Blk wx wr.heap.size #[.int .i64 k', .int .i64 n', .slice A' ks'.length c'] := by rw [hwx]; exact Blk.new_ _ _ _ rfl
        have hpx : Part (w.heap.size + 3) wx v (chgs f k d 0 (ks.take j)) := by rw [hwx]; exact hp.alloc _
        have hrx : RdP (· ≠ g) wx A' 0 ks' := by rw [hwx]; exact hr'.alloc _
        have hB3x : Blk wx (w.heap.size + 1 + 1) #[.int .i64 k, .int .i64 n, v] := by rw [hwx]; exact hB3.alloc _
        have hB2x : Blk wx (w.heap.size + 1) #[.int .i64 0, .int .i64 0, .slice none 0 0] := by rw [hwx]; exact hB2.alloc _
        have hB1x : Blk wx w.heap.size #[.int .i64 k, .int .i64 n, .slice (some ⟨b1, off, none⟩) ks.length c] := by rw [hwx]; exact hB1.alloc _
        have hGx : Blk wx g #[.bool (b && chgsOk ok k d 0 (ks.take j))] := by rw [hwx]; exact hGr.alloc _
        have hgx : w.grownBy wx (some g) := by rw [hwx]; exact only_alloc hgr _
        have hs1 : wr.heap.size < wx.heap.size := by rw [hwx]; simp
        have hs2 : w.heap.size + 1 + 1 < wx.heap.size := by omega
        have x2 := hB3x.ruleG (g := g) (by omega) (i := 2) rfl
        have x0 := hB1x.ruleG (g := g) (by omega) (i := 0) rfl
        have y0 := hXB.ruleG (g := g) (by omega) (i := 0) rfl
        have y1 := hXB.ruleG (g := g) (by omega) (i := 1) rfl
        have y2 := hXB.ruleG (g := g) (by omega) (i := 2) rfl
        have hun := under_le k j
        clear hwx
        refine wp_region_firstY (fun w' => wx.grownBy w' (some g)) [0, 1, 2, 3, 4, 5, 6, 7, 8, 9] [10, 11] [12, 13, 14] [_, _, _, _, _, _, _, _, _, _] [_, _] [_, _, _] (by kernel_rfl) (by kernel_rfl) rfl rfl rfl (fun _ _ d _ _ h => by cases d <;> exact h) (only_drew (World.grownBy.refl _ _)) ?_
        repeat (first | ((refine takeY_skip (a' := ?_) ?_ ?_ ?_); (rotate_left); (· (simp [Region.wanted, yielded]; done)); (· (simp only [Act.put, List.setIfInBounds_toArray, List.set_cons_zero, List.set_cons_succ]; exact rfl))) | ((refine takeY_step (v := ?_) (a' := ?_) ?_ ?_ ?_ ?_); (rotate_left 2); (· (simp [Region.wanted, yielded]; done)); (· (intro w' hS'; go_simp; try (with_reducible rfl))); (· (simp only [Act.put, List.setIfInBounds_toArray, List.set_cons_zero, List.set_cons_succ]; exact rfl))) | ((refine takeY_call (v := ?_) (a' := ?_) 76 ?_ ?_ ?_ ?_ ?_ ?_); (rotate_left 3); (· (simp [Region.wanted, yielded]; done)); (· (intro w' hS'; go_simp; try (with_reducible rfl))); (· (intro w' hS'; exact iUnder_any _ _ _)); (· (simp only [Act.put, List.setIfInBounds_toArray, List.set_cons_zero, List.set_cons_succ]; exact rfl))))
        obtain ⟨k2, n2, ks2, hct⟩ : ∃ k2 n2 ks2, chg f (d + under k j) (.mk k' n' ks') = .mk k2 n2 ks2 := tm_eta _
        have hct' := hide hct
        clear hct
        refine takeY_nil (then_cons ?_)
        go_wp2_with (go_at_call 50; refine (ih k' n' ks' A' c' (d + under k j) q _ (b && chgsOk ok k d 0 (ks.take j)) (by omega) H4.out (by omega) (by omega) (by omega) (grown_trans hW (grown_trans hgx (only_drew (World.grownBy.refl _ _)))) hGx.drew hrx.drew).mono ?_; rw [hct'.out]; intro e w1 hpost; obtain ⟨A1, c1, rfl, hl1, hf1, hG1, hg1⟩ := gotG_mk hpost; clear hpost)
        have hx1 : wx.grownBy w1 (some g) := grown_trans (only_drew (World.grownBy.refl _ _)) hg1
        have hw1 : wx.heap.size ≤ w1.heap.size := hx1.size
        refine mid_intro hx1 (then_cons ?_)
        go_wp2_with fail
        refine mid_intro (only_alloc hx1 _) (then_nil ?_)
        refine wpList_append_builtG (B := w.heap.size + 3) (m := j) hpx.drew (fun b h1 h2 => hg1.block b h2 (by simp; omega)) hw1 (by simp; omega) hf1 hl1 (by rw [chgs_length]; simp; omega) (by omega) rfl (.tmp 32) (.tmp 42) rfl rfl rfl ?_
        intro A2 c2 w2 hp2 hb2 hg2
        have q3 : Blk w2 (w.heap.size + 1 + 1) #[.int .i64 k, .int .i64 n, v] := (hB3x.grown hx1 (by simp; omega)).below hb2 (by omega)
        have q2 : Blk w2 (w.heap.size + 1) #[.int .i64 0, .int .i64 0, .slice none 0 0] := (hB2x.grown hx1 (by simp; omega)).below hb2 (by omega)
        have q1 : Blk w2 w.heap.size #[.int .i64 k, .int .i64 n, .slice (some ⟨b1, off, none⟩) ks.length c] := (hB1x.grown hx1 (by simp; omega)).below hb2 (by omega)
        have qg := hG1.below hb2 (by omega)
        have c3 : w2.cell? ⟨w.heap.size + 1 + 1, 2, none⟩ = some v := q3.at_ rfl
        have z3 := q3.frozen 2
        have hgf : w.grownBy w2 (some g) := only_belowB (grown_trans hgx hx1) hb2 (by omega)
        clear x2 y0 y1 y2 x0 hpx hrx hB3x hB2x hB1x hGx
        go_wp2_with fail
        go_roundw
        case rel =>
          refine ⟨j + 1, _, by omega, by go_num, ?_, q3.set_ 2 _, q2.far (by simp) _, q1.far (by simp; omega) _, ?_, only_setCell hgf (.inr (by simp; omega)) _⟩
          · rw [chgs_take f k d hlt, H3.out, hct'.out]
            exact hp2.setCell (by simp) _
          · rw [chgsOk_take ok k d hlt, H3.out, ← Bool.and_assoc]
            exact qg.far (by simp; omega) _
        case measure => simp [intOf]; omega
      · have hjl : j = ks.length := by omega
        subst hjl
        rw [List.take_length] at hp hGr
        obtain ⟨Ar, cr, rfl, hfr⟩ := hp.fresh
        have c0 : wr.cell? ⟨w.heap.size + 1 + 1, 0, none⟩ = some (.int .i64 k) := hB3.at_ rfl
        have c1 : wr.cell? ⟨w.heap.size + 1 + 1, 1, none⟩ = some (.int .i64 n) := hB3.at_ rfl
        have c2 : wr.cell? ⟨w.heap.size + 1 + 1, 2, none⟩ = some (.slice Ar (chgs f k d 0 ks).length cr) := hB3.at_ rfl
        have d0 : wr.cell? ⟨w.heap.size + 1, 0, none⟩ = some (.int .i64 0) := hB2.at_ rfl
        have d1 : wr.cell? ⟨w.heap.size + 1, 1, none⟩ = some (.int .i64 0) := hB2.at_ rfl
        have d2 : wr.cell? ⟨w.heap.size + 1, 2, none⟩ = some (.slice none 0 0) := hB2.at_ rfl
        have e0 := hB2.frozen 0
        have e1 := hB2.frozen 1
        have e2 := hB2.frozen 2
        have hgne : g ≠ w.heap.size + 1 := by omega
        go_wp2_with fail
        refine bodyPost_ret (v := .agg #[.int .i64 k, .int .i64 n, .slice Ar (chgs f k d 0 ks).length cr]) (by simp [results, Tryz.results50, go_sem, d0, d1, d2]) rfl ⟨Ar, cr, rfl, by rw [show (Tm.mk k n (chgs f k d 0 ks)).ks = chgs f k d 0 ks from rfl, chgs_length]; omega, ?_, ?_, ?_⟩
        · exact (((hfr.setCell (by simp) _).setCell (by simp) _).setCell (by simp) _).mono (by omega)
        · exact ((hGr.far (by simpa using hgne) _).far (by simpa using hgne) _).far (by simpa using hgne) _
        · exact only_setCell (only_setCell (only_setCell hgr (.inr (by simp)) _) (.inr (by simp)) _) (.inr (by simp)) _
end Go.Proofs.YthgmofdfecioaaaGreatDoor

namespace Go.Proofs.YthgmofdfecioaaaGreatDoor
open Go.RowKit
set_option linter.unusedSimpArgs false
set_option linter.unusedVariables false

/-- a count that stops early -/
def CountR (m : Nat) (most r : Int) : Prop := 1 ≤ r ∧ r ≤ m ∧ (r = m ∨ most < r)
def CountPost (m : Nat) (most : Int) (w : World) (e : Ending) (w' : World) : Prop := ∃ r : Int, e = .returned (.int .i64 r) ∧ CountR m most r ∧ Below w.heap.size w w'

theorem sizes_take (ks : List Tm) (j : Nat) (hj : j < ks.length) : sizes (ks.take (j + 1)) = sizes (ks.take j) + ks[j].size := by
  rw [List.take_succ_eq_append_getElem hj, sizes_append]; simp [sizes]
theorem sizes_take_le (ks : List Tm) (j : Nat) : sizes (ks.take j) ≤ sizes ks := by
  have := sizes_append (ks.take j) (ks.drop j); rw [List.take_append_drop] at this; omega

set_option maxRecDepth 100000 in
set_option maxHeartbeats 1000000 in
theorem l1Count_any (N : Nat) : ∀ (k n : Int) (ks : List Tm) (A : Option Addr) (c : Nat) (most : Int) (w : World), sizes ks < N → sizes ks ≤ 1099511627776 → -1099511627776 ≤ most → most ≤ 1099511627776 → Rd w A 0 ks →
    Calls Tryz.prog 80 #[.agg #[.int .i64 k, .int .i64 n, .slice A ks.length c], .int .i64 most] w (CountPost (sizes ks + 1) most w) := by
  induction N with
  | zero => intro k n ks A c most w hN; exact absurd hN (Nat.not_lt_zero _)
  | succ N ih =>
  intro k n ks A c most w hN hM hlo hhi hr
  have hlen := length_le_sizes ks
  go_enter Tryz.func80, Tryz.ntmps80
  go_wp2_with fail
  go_loopw [5, 6] (fun a i wr => ∃ (j : Nat) (acc : Int), j ≤ ks.length ∧ i = .int .i64 j ∧ a = .int .i64 acc ∧ 1 ≤ acc ∧ acc ≤ 1 + sizes (ks.take j) ∧ Hid (acc = 1 + sizes (ks.take j) ∨ most < acc) ∧ Blk wr w.heap.size #[.int .i64 k, .int .i64 n, .slice A ks.length c] ∧ Below w.heap.size w wr)
    (fun _ i _ => ks.length - (intOf i).toNat)
  case atStart => exact ⟨0, 1, Nat.zero_le _, rfl, rfl, by omega, by simp [sizes], hide (by simp [sizes]), Blk.new _ _ _, (Below.refl _ _).alloc (Nat.le_refl _) _⟩
  case round =>
    obtain ⟨j, acc, hj, rfl, rfl, ha1, ha2, ha3, hB, hb⟩ := hrel
    have c2 := hB.at_ (i := 2) rfl
    have hsl := sizes_take_le ks j
    by_cases hlt : j < ks.length
    · by_cases hm : acc ≤ most
      · obtain ⟨b, off, k1, n1, ks1, A1, c1, rfl, hkj, hc1, hc2, hc3, hl1, hr1⟩ := (hr.below hb).at_ hlt
        have hst := sizes_take ks j hlt
        have hsz := sizes_le (List.getElem_mem hlt)
        rw [hkj] at hsz hst
        simp only [Tm.size] at hsz hst
        have H3 := hide hst
        clear hkj hst
        go_wp2_with (go_at_call 80; refine (ih k1 n1 ks1 A1 c1 _ _ (by omega) (by omega) (by omega) (by omega) hr1).mono ?_; rintro e w3 ⟨r, rfl, ⟨hr1, hr2, hr3⟩, hb3⟩; have hr3' := hide hr3; clear hr3)
        go_roundw
        case rel =>
          refine ⟨j + 1, acc + r, by omega, by go_num, rfl, by omega, by rw [H3.out]; have := ha3.out; omega, hide ?_, hB.keep hb3, hb.trans (hb3.mono hb.size)⟩
          rw [H3.out]
          have h1 := ha3.out
          have h2 := hr3'.out
          omega
        case measure => simp [intOf]; omega
      · go_wp2_with fail
        go_ret
        exact ⟨acc, rfl, ⟨ha1, by omega, Or.inr (by omega)⟩, hb⟩
    · go_wp2_with fail
      go_ret
      have h1 := ha3.out
      have hjl : j = ks.length := by omega
      rw [hjl, List.take_length] at h1 ha2
      exact ⟨acc, rfl, ⟨ha1, by omega, by omega⟩, hb⟩

/-- a valid term -/
def validT (t : Tm) : Bool := shape 30 t && decide (t.size ≤ 400)

set_option maxRecDepth 100000 in
set_option maxHeartbeats 1000000 in
theorem sTermValid_any (k n : Int) (ks : List Tm) (A : Option Addr) (c : Nat) (w : World) (hM : sizes ks ≤ 1099511627775) (hr : Rd w A 0 ks) :
    Calls Tryz.prog 55 #[.agg #[.int .i64 k, .int .i64 n, .slice A ks.length c]] w fun e w' => e = .returned (.bool (validT (.mk k n ks))) ∧ Below w.heap.size w w' := by
  have hlen := length_le_sizes ks
  cases hs : shape 30 (.mk k n ks) with
  | false =>
    have hv : validT (.mk k n ks) = false := by simp [validT, hs]
    rw [hv]
    go_enter Tryz.func55, Tryz.ntmps55
    go_wp2_with (go_at_call 79; refine (l1Shape_any 30 k n ks A c _ (by omega) (by omega) (hr.alloc _)).mono ?_; rintro e w1 ⟨rfl, hb1⟩; obtain ⟨hc, hf⟩ := bcell hb1)
    go_ret
    exact ⟨rfl, ((Below.refl _ _).alloc (Nat.le_refl _) _).trans (hb1.mono (by simp))⟩
  | true =>
    have hv : validT (.mk k n ks) = decide (sizes ks + 1 ≤ 400) := by simp [validT, hs, Tm.size]
    rw [hv]
    go_enter Tryz.func55, Tryz.ntmps55
    go_wp2_with (first | (go_at_call 79; refine (l1Shape_any 30 k n ks A c _ (by omega) (by omega) (hr.alloc _)).mono ?_; rintro e w1 ⟨rfl, hb1⟩; obtain ⟨hc, hf⟩ := bcell hb1) | (go_at_call 80; refine (l1Count_any (sizes ks + 1) k n ks A c 400 _ (by omega) (by omega) (by omega) (by omega) ((hr.alloc _).below hb1)).mono ?_; rintro e w2 ⟨r, rfl, ⟨hr1, hr2, hr3⟩, hb2⟩; have hr3' := hide hr3; clear hr3))
    go_ret
    have h3 := hr3'.out
    exact ⟨ret_bool (by rw [decide_eq_decide]; omega), ((Below.refl _ _).alloc (Nat.le_refl _) _).trans ((hb1.trans (hb2.mono hb1.size)).mono (by simp))⟩
end Go.Proofs.YthgmofdfecioaaaGreatDoor

namespace Go.Proofs.YthgmofdfecioaaaGreatDoor
open Go.RowKit
set_option linter.unusedSimpArgs false
set_option linter.unusedVariables false

/-- what a scan answers -/
def scanB (d : Nat) (c0 : Int) (k n : Int) (ks : List Tm) : Bool := shape d (.mk k n ks) && decide (c0 + 1 + sizes ks ≤ 400)
theorem scan_no {d : Nat} {c0 k n : Int} {ks : List Tm} (h : ¬ (0 < d ∧ arity k = (ks.length : Int) ∧ 0 ≤ n ∧ n ≤ mostN k ∧ c0 + 1 ≤ 400)) : false = scanB d c0 k n ks := by
  cases e : scanB d c0 k n ks with
  | false => rfl
  | true =>
    simp only [scanB, Bool.and_eq_true, decide_eq_true_eq] at e
    cases d with
    | zero => simp [shape] at e
    | succ d =>
      have := (shape_split d k n ks).1 e.1
      exact absurd ⟨by omega, this.1, this.2.1, this.2.2.1, by omega⟩ h
theorem scan_yes {d : Nat} {c0 k n : Int} {ks : List Tm} (h : shape d (.mk k n ks) = true) (h2 : c0 + 1 + (sizes ks : Int) ≤ 400) : true = scanB d c0 k n ks := by
  simp only [scanB, h, decide_eq_true h2, Bool.and_self]
theorem scan_child_yes {d : Nat} {c0 k1 n1 : Int} {ks ks1 : List Tm} {j : Nat} (hj : j < ks.length) (hk : ks[j] = .mk k1 n1 ks1) (hst : sizes (ks.take (j + 1)) = sizes (ks.take j) + (sizes ks1 + 1))
    (hb : true = scanB d (c0 + 1 + (sizes (ks.take j) : Int)) k1 n1 ks1) : shape d ks[j] = true ∧ c0 + 1 + (sizes (ks.take (j + 1)) : Int) ≤ 400 := by
  simp only [scanB] at hb
  have hb := hb.symm
  rw [Bool.and_eq_true, decide_eq_true_eq] at hb
  rw [hk]
  refine ⟨hb.1, ?_⟩
  have := hb.2
  rw [hst]
  push_cast
  omega
theorem scan_child_no {d : Nat} {c0 k n k1 n1 : Int} {ks ks1 : List Tm} {j : Nat} (hj : j < ks.length) (hk : ks[j] = .mk k1 n1 ks1) (hst : sizes (ks.take (j + 1)) = sizes (ks.take j) + (sizes ks1 + 1))
    (hb : false = scanB d (c0 + 1 + (sizes (ks.take j) : Int)) k1 n1 ks1) : false = scanB (d + 1) c0 k n ks := by
  cases e : scanB (d + 1) c0 k n ks with
  | false => rfl
  | true =>
    simp only [scanB, Bool.and_eq_true, decide_eq_true_eq] at e
    have h1 := (shape_split d k n ks).1 e.1
    have h2 := h1.2.2.2 _ (List.getElem_mem hj)
    have h3 := sizes_take_le ks (j + 1)
    rw [hk] at h2
    simp only [scanB, h2, Bool.true_and] at hb
    have := of_decide_eq_false hb.symm
    omega
theorem all_take {ks : List Tm} {j : Nat} {p : Tm → Prop} (hj : j < ks.length) (h : ∀ t, t ∈ ks.take j → p t) (h1 : p ks[j]) : ∀ t, t ∈ ks.take (j + 1) → p t := by
  intro t ht
  rw [List.take_succ_eq_append_getElem hj, List.mem_append] at ht
  rcases ht with ht | ht
  · exact h t ht
  · simp at ht; rw [ht]; exact h1
theorem only_alloc_drop {w w' : World} {o : Obj} {m : Option Nat} (h : (w.alloc o).grownBy w' m) : w.grownBy w' m := only_trans (only_alloc (World.grownBy.refl _ _) o) h
def ScanPost (d : Nat) (c0 : Int) (k n : Int) (ks : List Tm) (g : Nat) (w : World) (e : Ending) (w' : World) : Prop :=
  ∃ (b : Bool) (c1 : Int), e = .returned (.bool b) ∧ b = scanB d c0 k n ks ∧ (b = true → c1 = c0 + 1 + sizes ks) ∧ 0 ≤ c1 ∧ c1 ≤ 1000 ∧ Blk w' g #[.int .i64 c1] ∧ w.grownBy w' (some g)

set_option maxRecDepth 100000 in
set_option maxHeartbeats 2000000 in
theorem scan_any (N : Nat) : ∀ (k n : Int) (ks : List Tm) (A : Option Addr) (c : Nat) (deep : Int) (d : Nat) (c0 : Int) (g : Nat) (w : World), sizes ks < N → ks.length ≤ 9223372036854775807 → 1 ≤ deep → deep + d ≤ 31 → 31 ≤ deep + d → 0 ≤ c0 → c0 ≤ 900 →
    Blk w g #[.int .i64 c0] → RdP (· ≠ g) w A 0 ks →
    Calls Tryz.prog 57 #[.agg #[.int .i64 k, .int .i64 n, .slice A ks.length c], .int .i64 deep, .pointer (some ⟨g, 0, none⟩)] w (ScanPost d c0 k n ks g w) := by
  induction N with
  | zero => intro k n ks A c deep d c0 g w hN; exact absurd hN (Nat.not_lt_zero _)
  | succ N ih =>
  intro k n ks A c deep d c0 g w hN hl hd1 hd2 hd3 hc1 hc2 hcb hr
  have hgl := hcb.lt
  have hgc := hcb.at_ (i := 0) rfl
  have hgf := hcb.frozen 0
  by_cases h0 : c0 + 1 ≤ 400
  · by_cases h1 : deep ≤ 30
    · by_cases h2 : arity k = (ks.length : Int)
      · have q2 : (arity k != (ks.length : Int)) = false := by simpa using h2
        by_cases h3 : 0 ≤ n ∧ n ≤ mostN k
        · have q0 : decide (400 < c0 + 1) = false := by simp; omega
          have q1 : decide (30 < deep) = false := by simp; omega
          have q3 : (decide (0 ≤ n) && decide (n ≤ mostN k)) = true := by simp [h3.1, h3.2]
          have H := hide (And.intro h2 h3)
          clear h2 h3
          go_enter Tryz.func57, Tryz.ntmps57
          go_wp2_with fail
          refine name_world ?_
          intro wx hwx
          have hg0 : w.grownBy wx (some g) := by rw [hwx]; exact only_alloc (only_setCell (World.grownBy.refl _ _) (.inl rfl) _) _
          have hB : Blk wx w.heap.size #[.int .i64 k, .int .i64 n, .slice A ks.length c] := by rw [hwx]; exact Blk.new_ _ _ _ (by simp)
          have hG : Blk wx g #[.int .i64 (c0 + 1)] := by rw [hwx]; exact (hcb.set_ 0 _).alloc _
          have hrx : RdP (· ≠ g) wx A 0 ks := hr.grown hg0 (fun b hb e => hb (by injection e))
          have hsx : w.heap.size < wx.heap.size := by rw [hwx]; simp
          have r0 := hB.rule (i := 0) rfl
          have r1 := hB.rule (i := 1) rfl
          have r2 := hB.rule (i := 2) rfl
          have r3 := hG.rule (i := 0) rfl
          clear hwx
          refine wp_region_class (fun w' => Below wx.heap.size wx w') (by kernel_rfl) (by kernel_rfl) (Below.refl _ _).drew ?_
          repeat (first | ((refine quiet_skip (a' := ?_) ?_ ?_ ?_); (rotate_left); (· (simp [Region.wanted, yielded]; done)); (· (simp only [Act.put, List.setIfInBounds_toArray, List.set_cons_zero, List.set_cons_succ]; exact rfl))) | ((refine quiet_one (v := ?_) (a' := ?_) ?_ ?_ ?_ ?_); (rotate_left 2); (· (simp [Region.wanted, yielded]; done)); (· (intro w' hS'; go_simp; try (with_reducible rfl))); (· (simp only [Act.put, List.setIfInBounds_toArray, List.set_cons_zero, List.set_cons_succ]; exact rfl))) | ((refine quiet_below (v := ?_) (a' := ?_) 83 ?_ ?_ ?_ ?_ ?_ ?_); (rotate_left 3); (· (simp [Region.wanted, yielded]; done)); (· (intro w' hS'; go_simp; try (with_reducible rfl))); (· (intro w' hS'; exact operands_any _ _)); (· (simp only [Act.put, List.setIfInBounds_toArray, List.set_cons_zero, List.set_cons_succ]; exact rfl))) | ((refine quiet_same (v := ?_) (a' := ?_) 84 ?_ ?_ ?_ ?_ ?_ ?_); (rotate_left 3); (· (simp [Region.wanted, yielded]; done)); (· (intro w' hS'; go_simp; try (with_reducible rfl))); (· (intro w' hS'; exact most_any _ _)); (· (simp only [Act.put, List.setIfInBounds_toArray, List.set_cons_zero, List.set_cons_succ]; exact rfl))) | ((refine quiet_same (v := ?_) (a' := ?_) 36 ?_ ?_ ?_ ?_ ?_ ?_); (rotate_left 3); (· (simp [Region.wanted, yielded]; done)); (· (intro w' hS'; go_simp; try (with_reducible rfl))); (· (intro w' hS'; exact within_any _ _ _ _)); (· (simp only [Act.put, List.setIfInBounds_toArray, List.set_cons_zero, List.set_cons_succ]; exact rfl))))
          refine quiet_nil ?_
          intro w2 hb2
          replace hB := hB.keep hb2
          replace hG := hG.keep hb2
          replace hrx := hrx.below hb2
          replace hg0 := only_below hg0 hb2
          clear r0 r1 r2 r3 hb2
          obtain ⟨d, rfl⟩ : ∃ d', d = d' + 1 := ⟨d - 1, by omega⟩
          have hz := hide (shape_split d k n ks)
          have c2 := hB.at_ (i := 2) rfl
          go_wp2_with fail
          go_loopw [43] (fun i wr => ∃ j : Nat, j ≤ ks.length ∧ i = .int .i64 j ∧ Hid (∀ t, t ∈ ks.take j → shape d t = true) ∧ c0 + 1 + sizes (ks.take j) ≤ 400 ∧ Blk wr g #[.int .i64 (c0 + 1 + sizes (ks.take j))] ∧ w.grownBy wr (some g)) (fun i _ => ks.length - (intOf i).toNat)
          case atStart => exact ⟨0, Nat.zero_le _, rfl, hide (by simp), by simp [sizes]; omega, by simpa [sizes] using hG, hg0⟩
          case round =>
            obtain ⟨j, hj, rfl, hall, hle, hGr, hgr⟩ := hrel
            by_cases hlt : j < ks.length
            · obtain ⟨b, off, k1, n1, ks1, A1, c1, rfl, hkj, hc1, hc2, hc3, hl1, hr1⟩ := (hr.grown hgr (fun b hb e => hb (by injection e))).at_ hlt
              have hst := sizes_take ks j hlt
              have hsz := sizes_le (List.getElem_mem hlt)
              rw [hkj] at hsz hst
              simp only [Tm.size] at hsz hst
              have H3 := hide hkj
              have H4 := hide hst
              clear hkj hst
              go_wp2_with (go_at_call 57; refine (ih k1 n1 ks1 A1 c1 (deep + 1) d (c0 + 1 + sizes (ks.take j)) g _ (by omega) hl1 (by omega) (by omega) (by omega) (by omega) (by omega) (hGr.alloc _) (hr1.alloc _)).mono ?_; rintro e w3 ⟨b, cx, rfl, hbe, hcx, hx0, hx1, hG3, hg3⟩; have hbe' := hide hbe; have hcx' := hide hcx; clear hbe hcx)
              · rename_i hbx
                cases b with
                | true => simp at hbx
                | false =>
                go_ret
                exact ⟨false, cx, rfl, scan_child_no hlt H3.out H4.out hbe'.out, (fun h => (by cases h)), hx0, hx1, hG3, only_trans hgr (only_alloc_drop hg3)⟩
              · rename_i hbx
                cases b with
                | false => simp at hbx
                | true =>
                have hcx2 := hcx'.out rfl
                obtain ⟨hs1, hs2⟩ := scan_child_yes hlt H3.out H4.out hbe'.out
                have h4 := H4.out
                refine ⟨?_, by simp [intOf]; omega⟩
                repeat apply Exists.intro
                refine ⟨⟨j + 1, hlt, by rfl, hide (all_take hlt hall.out hs1), hs2, ?_, only_trans hgr (only_alloc_drop hg3)⟩, by rw [q3]; rfl⟩
                rw [show c0 + 1 + (sizes (ks.take (j+1)) : Int) = cx from by rw [hcx2, h4]; push_cast; omega]
                exact hG3
            · go_wp2_with fail
              go_ret
              have hje : j = ks.length := by omega
              have ha := hall.out
              rw [hje, List.take_length] at ha hle hGr
              exact ⟨true, _, rfl, scan_yes (hz.out.2 ⟨H.out.1, H.out.2.1, H.out.2.2, ha⟩) hle, (fun _ => rfl), by omega, by omega, hGr, hgr⟩
        · have q0 : decide (400 < c0 + 1) = false := by simp; omega
          have q1 : decide (30 < deep) = false := by simp; omega
          have q3 : (decide (0 ≤ n) && decide (n ≤ mostN k)) = false := by
            rw [Bool.and_eq_false_iff, decide_eq_false_iff_not, decide_eq_false_iff_not]; omega
          have H := hide h3
          clear h2 h3
          go_enter Tryz.func57, Tryz.ntmps57
          go_wp2_with fail
          refine name_world ?_
          intro wx hwx
          have hg0 : w.grownBy wx (some g) := by rw [hwx]; exact only_alloc (only_setCell (World.grownBy.refl _ _) (.inl rfl) _) _
          have hB : Blk wx w.heap.size #[.int .i64 k, .int .i64 n, .slice A ks.length c] := by rw [hwx]; exact Blk.new_ _ _ _ (by simp)
          have hG : Blk wx g #[.int .i64 (c0 + 1)] := by rw [hwx]; exact (hcb.set_ 0 _).alloc _
          have hrx : RdP (· ≠ g) wx A 0 ks := hr.grown hg0 (fun b hb e => hb (by injection e))
          have hsx : w.heap.size < wx.heap.size := by rw [hwx]; simp
          have r0 := hB.rule (i := 0) rfl
          have r1 := hB.rule (i := 1) rfl
          have r2 := hB.rule (i := 2) rfl
          have r3 := hG.rule (i := 0) rfl
          clear hwx
          refine wp_region_class (fun w' => Below wx.heap.size wx w') (by kernel_rfl) (by kernel_rfl) (Below.refl _ _).drew ?_
          repeat (first | ((refine quiet_skip (a' := ?_) ?_ ?_ ?_); (rotate_left); (· (simp [Region.wanted, yielded]; done)); (· (simp only [Act.put, List.setIfInBounds_toArray, List.set_cons_zero, List.set_cons_succ]; exact rfl))) | ((refine quiet_one (v := ?_) (a' := ?_) ?_ ?_ ?_ ?_); (rotate_left 2); (· (simp [Region.wanted, yielded]; done)); (· (intro w' hS'; go_simp; try (with_reducible rfl))); (· (simp only [Act.put, List.setIfInBounds_toArray, List.set_cons_zero, List.set_cons_succ]; exact rfl))) | ((refine quiet_below (v := ?_) (a' := ?_) 83 ?_ ?_ ?_ ?_ ?_ ?_); (rotate_left 3); (· (simp [Region.wanted, yielded]; done)); (· (intro w' hS'; go_simp; try (with_reducible rfl))); (· (intro w' hS'; exact operands_any _ _)); (· (simp only [Act.put, List.setIfInBounds_toArray, List.set_cons_zero, List.set_cons_succ]; exact rfl))) | ((refine quiet_same (v := ?_) (a' := ?_) 84 ?_ ?_ ?_ ?_ ?_ ?_); (rotate_left 3); (· (simp [Region.wanted, yielded]; done)); (· (intro w' hS'; go_simp; try (with_reducible rfl))); (· (intro w' hS'; exact most_any _ _)); (· (simp only [Act.put, List.setIfInBounds_toArray, List.set_cons_zero, List.set_cons_succ]; exact rfl))) | ((refine quiet_same (v := ?_) (a' := ?_) 36 ?_ ?_ ?_ ?_ ?_ ?_); (rotate_left 3); (· (simp [Region.wanted, yielded]; done)); (· (intro w' hS'; go_simp; try (with_reducible rfl))); (· (intro w' hS'; exact within_any _ _ _ _)); (· (simp only [Act.put, List.setIfInBounds_toArray, List.set_cons_zero, List.set_cons_succ]; exact rfl))))
          refine quiet_nil ?_
          intro w2 hb2
          replace hB := hB.keep hb2
          replace hG := hG.keep hb2
          replace hrx := hrx.below hb2
          replace hg0 := only_below hg0 hb2
          clear r0 r1 r2 r3 hb2
          go_wp2_with fail
          go_ret
          exact ⟨_, c0 + 1, rfl, scan_no (by have := H.out; omega), (fun h => (by cases h)), by omega, by omega, hG, hg0⟩
      · have q0 : decide (400 < c0 + 1) = false := by simp; omega
        have q1 : decide (30 < deep) = false := by simp; omega
        have q2 : (arity k != (ks.length : Int)) = true := by simpa using h2
        have H := hide h2
        clear h2
        go_enter Tryz.func57, Tryz.ntmps57
        go_wp2_with fail
        refine name_world ?_
        intro wx hwx
        have hg0 : w.grownBy wx (some g) := by rw [hwx]; exact only_alloc (only_setCell (World.grownBy.refl _ _) (.inl rfl) _) _
        have hB : Blk wx w.heap.size #[.int .i64 k, .int .i64 n, .slice A ks.length c] := by rw [hwx]; exact Blk.new_ _ _ _ (by simp)
        have hG : Blk wx g #[.int .i64 (c0 + 1)] := by rw [hwx]; exact (hcb.set_ 0 _).alloc _
        have hrx : RdP (· ≠ g) wx A 0 ks := hr.grown hg0 (fun b hb e => hb (by injection e))
        have hsx : w.heap.size < wx.heap.size := by rw [hwx]; simp
        have r0 := hB.rule (i := 0) rfl
        have r1 := hB.rule (i := 1) rfl
        have r2 := hB.rule (i := 2) rfl
        have r3 := hG.rule (i := 0) rfl
        clear hwx
        refine wp_region_class (fun w' => Below wx.heap.size wx w') (by kernel_rfl) (by kernel_rfl) (Below.refl _ _).drew ?_
        repeat (first | ((refine quiet_skip (a' := ?_) ?_ ?_ ?_); (rotate_left); (· (simp [Region.wanted, yielded]; done)); (· (simp only [Act.put, List.setIfInBounds_toArray, List.set_cons_zero, List.set_cons_succ]; exact rfl))) | ((refine quiet_one (v := ?_) (a' := ?_) ?_ ?_ ?_ ?_); (rotate_left 2); (· (simp [Region.wanted, yielded]; done)); (· (intro w' hS'; go_simp; try (with_reducible rfl))); (· (simp only [Act.put, List.setIfInBounds_toArray, List.set_cons_zero, List.set_cons_succ]; exact rfl))) | ((refine quiet_below (v := ?_) (a' := ?_) 83 ?_ ?_ ?_ ?_ ?_ ?_); (rotate_left 3); (· (simp [Region.wanted, yielded]; done)); (· (intro w' hS'; go_simp; try (with_reducible rfl))); (· (intro w' hS'; exact operands_any _ _)); (· (simp only [Act.put, List.setIfInBounds_toArray, List.set_cons_zero, List.set_cons_succ]; exact rfl))) | ((refine quiet_same (v := ?_) (a' := ?_) 84 ?_ ?_ ?_ ?_ ?_ ?_); (rotate_left 3); (· (simp [Region.wanted, yielded]; done)); (· (intro w' hS'; go_simp; try (with_reducible rfl))); (· (intro w' hS'; exact most_any _ _)); (· (simp only [Act.put, List.setIfInBounds_toArray, List.set_cons_zero, List.set_cons_succ]; exact rfl))) | ((refine quiet_same (v := ?_) (a' := ?_) 36 ?_ ?_ ?_ ?_ ?_ ?_); (rotate_left 3); (· (simp [Region.wanted, yielded]; done)); (· (intro w' hS'; go_simp; try (with_reducible rfl))); (· (intro w' hS'; exact within_any _ _ _ _)); (· (simp only [Act.put, List.setIfInBounds_toArray, List.set_cons_zero, List.set_cons_succ]; exact rfl))))
        refine quiet_nil ?_
        intro w2 hb2
        replace hB := hB.keep hb2
        replace hG := hG.keep hb2
        replace hrx := hrx.below hb2
        replace hg0 := only_below hg0 hb2
        clear r0 r1 r2 r3 hb2
        go_wp2_with fail
        go_ret
        exact ⟨_, c0 + 1, rfl, scan_no (by have := H.out; omega), (fun h => (by cases h)), by omega, by omega, hG, hg0⟩
    · have q0 : decide (400 < c0 + 1) = false := by simp; omega
      have q1 : decide (30 < deep) = true := by simp; omega
      have H := hide h1
      go_enter Tryz.func57, Tryz.ntmps57
      go_wp2_with fail
      refine name_world ?_
      intro wx hwx
      have hg0 : w.grownBy wx (some g) := by rw [hwx]; exact only_alloc (only_setCell (World.grownBy.refl _ _) (.inl rfl) _) _
      have hB : Blk wx w.heap.size #[.int .i64 k, .int .i64 n, .slice A ks.length c] := by rw [hwx]; exact Blk.new_ _ _ _ (by simp)
      have hG : Blk wx g #[.int .i64 (c0 + 1)] := by rw [hwx]; exact (hcb.set_ 0 _).alloc _
      have hrx : RdP (· ≠ g) wx A 0 ks := hr.grown hg0 (fun b hb e => hb (by injection e))
      have hsx : w.heap.size < wx.heap.size := by rw [hwx]; simp
      have r0 := hB.rule (i := 0) rfl
      have r1 := hB.rule (i := 1) rfl
      have r2 := hB.rule (i := 2) rfl
      have r3 := hG.rule (i := 0) rfl
      clear hwx
      refine wp_region_class (fun w' => Below wx.heap.size wx w') (by kernel_rfl) (by kernel_rfl) (Below.refl _ _).drew ?_
      repeat (first | ((refine quiet_skip (a' := ?_) ?_ ?_ ?_); (rotate_left); (· (simp [Region.wanted, yielded]; done)); (· (simp only [Act.put, List.setIfInBounds_toArray, List.set_cons_zero, List.set_cons_succ]; exact rfl))) | ((refine quiet_one (v := ?_) (a' := ?_) ?_ ?_ ?_ ?_); (rotate_left 2); (· (simp [Region.wanted, yielded]; done)); (· (intro w' hS'; go_simp; try (with_reducible rfl))); (· (simp only [Act.put, List.setIfInBounds_toArray, List.set_cons_zero, List.set_cons_succ]; exact rfl))) | ((refine quiet_below (v := ?_) (a' := ?_) 83 ?_ ?_ ?_ ?_ ?_ ?_); (rotate_left 3); (· (simp [Region.wanted, yielded]; done)); (· (intro w' hS'; go_simp; try (with_reducible rfl))); (· (intro w' hS'; exact operands_any _ _)); (· (simp only [Act.put, List.setIfInBounds_toArray, List.set_cons_zero, List.set_cons_succ]; exact rfl))) | ((refine quiet_same (v := ?_) (a' := ?_) 84 ?_ ?_ ?_ ?_ ?_ ?_); (rotate_left 3); (· (simp [Region.wanted, yielded]; done)); (· (intro w' hS'; go_simp; try (with_reducible rfl))); (· (intro w' hS'; exact most_any _ _)); (· (simp only [Act.put, List.setIfInBounds_toArray, List.set_cons_zero, List.set_cons_succ]; exact rfl))) | ((refine quiet_same (v := ?_) (a' := ?_) 36 ?_ ?_ ?_ ?_ ?_ ?_); (rotate_left 3); (· (simp [Region.wanted, yielded]; done)); (· (intro w' hS'; go_simp; try (with_reducible rfl))); (· (intro w' hS'; exact within_any _ _ _ _)); (· (simp only [Act.put, List.setIfInBounds_toArray, List.set_cons_zero, List.set_cons_succ]; exact rfl))))
      refine quiet_nil ?_
      intro w2 hb2
      replace hB := hB.keep hb2
      replace hG := hG.keep hb2
      replace hrx := hrx.below hb2
      replace hg0 := only_below hg0 hb2
      clear r0 r1 r2 r3 hb2
      go_wp2_with fail
      go_ret
      exact ⟨_, c0 + 1, rfl, scan_no (by have := H.out; omega), (fun h => (by cases h)), by omega, by omega, hG, hg0⟩
  · have q0 : decide (400 < c0 + 1) = true := by simp; omega
    have H := hide h0
    go_enter Tryz.func57, Tryz.ntmps57
    go_wp2_with fail
    refine name_world ?_
    intro wx hwx
    have hg0 : w.grownBy wx (some g) := by rw [hwx]; exact only_alloc (only_setCell (World.grownBy.refl _ _) (.inl rfl) _) _
    have hB : Blk wx w.heap.size #[.int .i64 k, .int .i64 n, .slice A ks.length c] := by rw [hwx]; exact Blk.new_ _ _ _ (by simp)
    have hG : Blk wx g #[.int .i64 (c0 + 1)] := by rw [hwx]; exact (hcb.set_ 0 _).alloc _
    have hrx : RdP (· ≠ g) wx A 0 ks := hr.grown hg0 (fun b hb e => hb (by injection e))
    have hsx : w.heap.size < wx.heap.size := by rw [hwx]; simp
    have r0 := hB.rule (i := 0) rfl
    have r1 := hB.rule (i := 1) rfl
    have r2 := hB.rule (i := 2) rfl
    have r3 := hG.rule (i := 0) rfl
    clear hwx
    refine wp_region_class (fun w' => Below wx.heap.size wx w') (by kernel_rfl) (by kernel_rfl) (Below.refl _ _).drew ?_
    repeat (first | ((refine quiet_skip (a' := ?_) ?_ ?_ ?_); (rotate_left); (· (simp [Region.wanted, yielded]; done)); (· (simp only [Act.put, List.setIfInBounds_toArray, List.set_cons_zero, List.set_cons_succ]; exact rfl))) | ((refine quiet_one (v := ?_) (a' := ?_) ?_ ?_ ?_ ?_); (rotate_left 2); (· (simp [Region.wanted, yielded]; done)); (· (intro w' hS'; go_simp; try (with_reducible rfl))); (· (simp only [Act.put, List.setIfInBounds_toArray, List.set_cons_zero, List.set_cons_succ]; exact rfl))) | ((refine quiet_below (v := ?_) (a' := ?_) 83 ?_ ?_ ?_ ?_ ?_ ?_); (rotate_left 3); (· (simp [Region.wanted, yielded]; done)); (· (intro w' hS'; go_simp; try (with_reducible rfl))); (· (intro w' hS'; exact operands_any _ _)); (· (simp only [Act.put, List.setIfInBounds_toArray, List.set_cons_zero, List.set_cons_succ]; exact rfl))) | ((refine quiet_same (v := ?_) (a' := ?_) 84 ?_ ?_ ?_ ?_ ?_ ?_); (rotate_left 3); (· (simp [Region.wanted, yielded]; done)); (· (intro w' hS'; go_simp; try (with_reducible rfl))); (· (intro w' hS'; exact most_any _ _)); (· (simp only [Act.put, List.setIfInBounds_toArray, List.set_cons_zero, List.set_cons_succ]; exact rfl))) | ((refine quiet_same (v := ?_) (a' := ?_) 36 ?_ ?_ ?_ ?_ ?_ ?_); (rotate_left 3); (· (simp [Region.wanted, yielded]; done)); (· (intro w' hS'; go_simp; try (with_reducible rfl))); (· (intro w' hS'; exact within_any _ _ _ _)); (· (simp only [Act.put, List.setIfInBounds_toArray, List.set_cons_zero, List.set_cons_succ]; exact rfl))))
    refine quiet_nil ?_
    intro w2 hb2
    replace hB := hB.keep hb2
    replace hG := hG.keep hb2
    replace hrx := hrx.below hb2
    replace hg0 := only_below hg0 hb2
    clear r0 r1 r2 r3 hb2
    go_wp2_with fail
    go_ret
    exact ⟨_, c0 + 1, rfl, scan_no (by have := H.out; omega), (fun h => (by cases h)), by omega, by omega, hG, hg0⟩
end Go.Proofs.YthgmofdfecioaaaGreatDoor

namespace Go.Proofs.YthgmofdfecioaaaGreatDoor
open Go.RowKit
set_option linter.unusedSimpArgs false
set_option linter.unusedVariables false

set_option maxRecDepth 100000 in
set_option maxHeartbeats 1000000 in
theorem iTermValid_any (k n : Int) (ks : List Tm) (A : Option Addr) (c : Nat) (w : World) (hM : sizes ks ≤ 1099511627775) (hr : Rd w A 0 ks) :
    Calls Tryz.prog 35 #[.agg #[.int .i64 k, .int .i64 n, .slice A ks.length c]] w fun e w' => e = .returned (.bool (validT (.mk k n ks))) ∧ Below w.heap.size w w' := by
  have hlen := length_le_sizes ks
  have hrp : RdP (· ≠ w.heap.size + 1) w A 0 ks := hr.rdp.mono (fun b hb => by have hb : b < w.heap.size := hb; show b ≠ _; omega)
  go_enter Tryz.func35, Tryz.ntmps35
  go_wp2_with (go_at_call 57; refine (scan_any (sizes ks + 1) k n ks A c 1 30 0 (w.heap.size + 1) _ (by omega) (by omega) (by omega) (by omega) (by omega) (by omega) (by omega) (Blk.new_ _ _ _ (by simp)) ((hrp.alloc _).alloc _)).mono ?_; rintro e w3 ⟨b, cx, rfl, hbe, hcx, hx0, hx1, hG3, hg3⟩; clear hcx hG3)
  go_ret
  refine ⟨ret_bool ?_, (((Below.refl _ _).alloc (Nat.le_refl _) _).alloc (by simp) _).grown hg3 (by simp; omega) (fun k e => by cases e; omega)⟩
  show scanB 30 0 k n ks = _
  unfold scanB validT
  rw [Tm.size]
  by_cases h : sizes ks + 1 ≤ 400
  · rw [decide_eq_true h, decide_eq_true (by omega)]
  · rw [decide_eq_false h, decide_eq_false (by omega)]

/-- which form of type a kind is -/
def formK (k : Int) : Int := if k = 2 then 1 else if k = 3 then 2 else if k = 6 then 3 else if k = 10 then 4 else if k = 13 then 5 else 0
/-- what TypeForm answers -/
def formT (t : Tm) : Int := if validT t = true then formK t.k else 0

end Go.Proofs.YthgmofdfecioaaaGreatDoor

namespace Go.Proofs.YthgmofdfecioaaaGreatDoor
open Go.RowKit
set_option linter.unusedSimpArgs false
set_option linter.unusedVariables false

theorem k_ne {k m : Int} (h : ¬ k = m) : (k == m) = false := by simpa using h
/-- the kind of the operand at a place -/
def kat (ks : List Tm) (i : Nat) : Int := (ks.getD i default).k
theorem rdx_at (i : Nat) (ks : List Tm) (h : i < ks.length) {k n : Int} {ls : List Tm} (e : ks[i] = .mk k n ls) : kat ks i = k := by
  simp [kat, List.getD, List.getElem?_eq_getElem h, e, Tm.k]
/-- which rule a node is ready for -/
def rdx (k : Int) (ks : List Tm) : Int :=
  if k = 5 then (if kat ks 0 = 4 then 1 else 0) else if k = 9 then (if kat ks 3 = 7 then 2 else if kat ks 3 = 8 then 3 else 0) else
    if k = 12 then (if kat ks 1 = 11 then 4 else 0) else if k = 15 then (if kat ks 0 = 14 then 5 else 0) else if k = 16 then (if kat ks 0 = 14 then 6 else 0) else 0
theorem rdx_no {k : Int} (ks : List Tm) (h : ¬ (k = 5 ∨ k = 9 ∨ k = 12 ∨ k = 15 ∨ k = 16)) : rdx k ks = 0 := by
  unfold rdx; repeat rw [if_neg (by omega)]

set_option maxRecDepth 100000 in
set_option maxHeartbeats 2000000 in
theorem iRedex_any (k n : Int) (ks : List Tm) (A : Option Addr) (c : Nat) (w : World) (hl : ks.length ≤ 9223372036854775807) (ha : arity k = (ks.length : Int)) (hr : Rd w A 0 ks) :
    Calls Tryz.prog 75 #[.agg #[.int .i64 k, .int .i64 n, .slice A ks.length c]] w fun e w' => e = .returned (.int .i64 (rdx k ks)) ∧ Below w.heap.size w w' := by
  by_cases hk : k = 5 ∨ k = 9 ∨ k = 12 ∨ k = 15 ∨ k = 16
  · rcases hk with rfl | rfl | rfl | rfl | rfl
    · have hlen : ks.length = 2 := by have : arity 5 = 2 := rfl; omega
      obtain ⟨b, off, k1, n1, ks1, A1, c1, rfl, hkj, hc1, hc2, hc3, hl1, hr1⟩ := hr.at_ (j := 0) (by omega)
      have hx := rdx_at 0 ks (by omega) hkj
      have hbl := World.block_lt_of_cell? _ _ hc1
      clear hkj hc2 hc3
      rw [hlen]
      simp only [Nat.reduceMul, Nat.zero_mul, Nat.add_zero] at hc1
      by_cases h4 : k1 = 4
      · subst h4
        go_enter Tryz.func75, Tryz.ntmps75
        go_wp2_with fail
        go_ret
        exact ⟨ret_int (by rw [rdx]; simp [hx, *]), (Below.refl _ _).alloc (Nat.le_refl _) _⟩
      · have n4 := k_ne h4
        go_enter Tryz.func75, Tryz.ntmps75
        go_wp2_with fail
        go_ret
        exact ⟨ret_int (by rw [rdx]; simp [hx, *]), (Below.refl _ _).alloc (Nat.le_refl _) _⟩
    · have hlen : ks.length = 4 := by have : arity 9 = 4 := rfl; omega
      obtain ⟨b, off, k1, n1, ks1, A1, c1, rfl, hkj, hc1, hc2, hc3, hl1, hr1⟩ := hr.at_ (j := 3) (by omega)
      have hx := rdx_at 3 ks (by omega) hkj
      have hbl := World.block_lt_of_cell? _ _ hc1
      clear hkj hc2 hc3
      rw [hlen]
      simp only [Nat.reduceMul, Nat.zero_mul, Nat.add_zero] at hc1
      by_cases h7 : k1 = 7
      · subst h7
        go_enter Tryz.func75, Tryz.ntmps75
        go_wp2_with fail
        go_ret
        exact ⟨ret_int (by rw [rdx]; simp [hx, *]), (Below.refl _ _).alloc (Nat.le_refl _) _⟩
      · have n7 := k_ne h7
        by_cases h8 : k1 = 8
        · subst h8
          go_enter Tryz.func75, Tryz.ntmps75
          go_wp2_with fail
          go_ret
          exact ⟨ret_int (by rw [rdx]; simp [hx, *]), (Below.refl _ _).alloc (Nat.le_refl _) _⟩
        · have n8 := k_ne h8
          go_enter Tryz.func75, Tryz.ntmps75
          go_wp2_with fail
          go_ret
          exact ⟨ret_int (by rw [rdx]; simp [hx, *]), (Below.refl _ _).alloc (Nat.le_refl _) _⟩
    · have hlen : ks.length = 3 := by have : arity 12 = 3 := rfl; omega
      obtain ⟨b, off, k1, n1, ks1, A1, c1, rfl, hkj, hc1, hc2, hc3, hl1, hr1⟩ := hr.at_ (j := 1) (by omega)
      have hx := rdx_at 1 ks (by omega) hkj
      have hbl := World.block_lt_of_cell? _ _ hc1
      clear hkj hc2 hc3
      rw [hlen]
      simp only [Nat.reduceMul, Nat.zero_mul, Nat.add_zero] at hc1
      by_cases h11 : k1 = 11
      · subst h11
        go_enter Tryz.func75, Tryz.ntmps75
        go_wp2_with fail
        go_ret
        exact ⟨ret_int (by rw [rdx]; simp [hx, *]), (Below.refl _ _).alloc (Nat.le_refl _) _⟩
      · have n11 := k_ne h11
        go_enter Tryz.func75, Tryz.ntmps75
        go_wp2_with fail
        go_ret
        exact ⟨ret_int (by rw [rdx]; simp [hx, *]), (Below.refl _ _).alloc (Nat.le_refl _) _⟩
    · have hlen : ks.length = 1 := by have : arity 15 = 1 := rfl; omega
      obtain ⟨b, off, k1, n1, ks1, A1, c1, rfl, hkj, hc1, hc2, hc3, hl1, hr1⟩ := hr.at_ (j := 0) (by omega)
      have hx := rdx_at 0 ks (by omega) hkj
      have hbl := World.block_lt_of_cell? _ _ hc1
      clear hkj hc2 hc3
      rw [hlen]
      simp only [Nat.reduceMul, Nat.zero_mul, Nat.add_zero] at hc1
      by_cases h14 : k1 = 14
      · subst h14
        go_enter Tryz.func75, Tryz.ntmps75
        go_wp2_with fail
        go_ret
        exact ⟨ret_int (by rw [rdx]; simp [hx, *]), (Below.refl _ _).alloc (Nat.le_refl _) _⟩
      · have n14 := k_ne h14
        go_enter Tryz.func75, Tryz.ntmps75
        go_wp2_with fail
        go_ret
        exact ⟨ret_int (by rw [rdx]; simp [hx, *]), (Below.refl _ _).alloc (Nat.le_refl _) _⟩
    · have hlen : ks.length = 1 := by have : arity 16 = 1 := rfl; omega
      obtain ⟨b, off, k1, n1, ks1, A1, c1, rfl, hkj, hc1, hc2, hc3, hl1, hr1⟩ := hr.at_ (j := 0) (by omega)
      have hx := rdx_at 0 ks (by omega) hkj
      have hbl := World.block_lt_of_cell? _ _ hc1
      clear hkj hc2 hc3
      rw [hlen]
      simp only [Nat.reduceMul, Nat.zero_mul, Nat.add_zero] at hc1
      by_cases h14 : k1 = 14
      · subst h14
        go_enter Tryz.func75, Tryz.ntmps75
        go_wp2_with fail
        go_ret
        exact ⟨ret_int (by rw [rdx]; simp [hx, *]), (Below.refl _ _).alloc (Nat.le_refl _) _⟩
      · have n14 := k_ne h14
        go_enter Tryz.func75, Tryz.ntmps75
        go_wp2_with fail
        go_ret
        exact ⟨ret_int (by rw [rdx]; simp [hx, *]), (Below.refl _ _).alloc (Nat.le_refl _) _⟩
  · have H := hide hk
    have h0 : rdx k ks = 0 := rdx_no ks hk
    have n5 := k_ne (k := k) (m := 5) (by omega)
    have n9 := k_ne (k := k) (m := 9) (by omega)
    have n12 := k_ne (k := k) (m := 12) (by omega)
    have n15 := k_ne (k := k) (m := 15) (by omega)
    have n16 := k_ne (k := k) (m := 16) (by omega)
    clear hk
    rw [h0]
    go_enter Tryz.func75, Tryz.ntmps75
    go_wp2_with fail
    go_ret
    exact ⟨rfl, (Below.refl _ _).alloc (Nat.le_refl _) _⟩
end Go.Proofs.YthgmofdfecioaaaGreatDoor

namespace Go.Proofs.YthgmofdfecioaaaGreatDoor
open Go.RowKit
set_option linter.unusedSimpArgs false
set_option linter.unusedVariables false

mutual
/-- no rule applies anywhere -/
def nrm : Tm → Bool | .mk k _ ks => nrms ks && (rdx k ks == 0)
def nrms : List Tm → Bool | [] => true | t :: ts => nrm t && nrms ts
end
theorem nrms_iff : ∀ ks : List Tm, nrms ks = true ↔ ∀ t, t ∈ ks → nrm t = true
  | [] => by simp [nrms]
  | t :: ts => by rw [nrms, Bool.and_eq_true, nrms_iff ts]; simp
theorem nrm_kid_no {k n : Int} {ks : List Tm} {j : Nat} (hj : j < ks.length) (h : nrm ks[j] = false) : nrm (.mk k n ks) = false := by
  rw [nrm, Bool.and_eq_false_iff]
  left
  cases e : nrms ks with
  | false => rfl
  | true => have := (nrms_iff ks).1 e _ (List.getElem_mem hj); rw [h] at this; exact absurd this (by simp)
theorem nrm_of {k n : Int} {ks : List Tm} (h : ∀ t, t ∈ ks → nrm t = true) : nrm (.mk k n ks) = (rdx k ks == 0) := by
  rw [nrm, (nrms_iff ks).2 h, Bool.true_and]

end Go.Proofs.YthgmofdfecioaaaGreatDoor

namespace Go.Proofs.YthgmofdfecioaaaGreatDoor
open Go.RowKit
set_option linter.unusedSimpArgs false
set_option linter.unusedVariables false

theorem Blk.three {w : World} {g : Nat} {x y z : Value} (h : Blk w g #[x, y, z]) : w.cell? ⟨g, 0, none⟩ = some x ∧ w.cell? ⟨g, 1, none⟩ = some y ∧ w.cell? ⟨g, 2, none⟩ = some z :=
  ⟨h.at_ (i := 0) rfl, h.at_ (i := 1) rfl, h.at_ (i := 2) rfl⟩
end Go.Proofs.YthgmofdfecioaaaGreatDoor

namespace Go.Proofs.YthgmofdfecioaaaGreatDoor
open Go.RowKit
set_option linter.unusedSimpArgs false
set_option linter.unusedVariables false

/-- a path of numbers that memory holds -/
def Path (w : World) (A : Option Addr) (m : Nat) : Prop :=
  ∃ xs : List Int, xs.length = m ∧ (0 < m → ∃ b off, A = some ⟨b, off, none⟩ ∧ ∀ (i : Nat) (u : Value), (xs.map (Value.int .i64))[i]? = some u → w.cell? ⟨b, off + i, none⟩ = some u)
theorem Path.nil {w : World} {A : Option Addr} : Path w A 0 := ⟨[], rfl, fun h => absurd h (Nat.lt_irrefl _)⟩
theorem Path.alloc {w : World} {A : Option Addr} {m : Nat} (h : Path w A m) (o : Obj) : Path (w.alloc o) A m := by
  obtain ⟨xs, h1, h2⟩ := h
  refine ⟨xs, h1, fun hm => ?_⟩
  obtain ⟨b, off, h3, h4⟩ := h2 hm
  exact ⟨b, off, h3, fun i u hu => Keeps.alloc w o _ _ (h4 i u hu)⟩
theorem int_info : (Tryz.prog.info? 3).map (fun i => (i.zero, i.size, i.bytes)) = some (some (.int .i64 0), 1, 8) := by kernel_rfl

theorem run_append_path {w : World} {A : Option Addr} {m c : Nat} (h : Path w A m) (hm : m ≤ 1000) (x : Int) (ty : TypeId) :
    ∃ A' c' w', (Builtin.append_ #[46, 46] ty #[.slice (some ⟨w.heap.size, 0, none⟩) 1 1, .slice A m c]).run Tryz.prog (w.alloc (.cells #[.int .i64 x] 3)) = .ok (.slice A' (m + 1) c') w' ∧ Path w' A' (m + 1) ∧ Below w.heap.size w w' := by
  obtain ⟨i0, hi, hz0, hz1, hz2⟩ := info_parts int_info
  have hown : (w.alloc (.cells #[.int .i64 x] 3)).ownsRow w.heap.size 3 1 (.slice (some ⟨w.heap.size, 0, none⟩) 1 1) 1 [.int .i64 x] :=
    ⟨rfl, .inr ⟨w.heap.size, 1, #[.int .i64 x], rfl, Nat.le_refl _, heap_alloc_new w _, Nat.le_refl _, by decide, rfl, rfl⟩⟩
  obtain ⟨xs, h1, h2⟩ := h.alloc (.cells #[.int .i64 x] 3)
  have fin : ∀ (v' : Value) (w' : World), w'.ownsRow w.heap.size 3 1 v' (1 + m) (.int .i64 x :: xs.map (Value.int .i64)) → (w.alloc (.cells #[.int .i64 x] 3)).grownBy w' (some w.heap.size) →
      ∃ A' c', v' = .slice A' (m + 1) c' ∧ Path w' A' (m + 1) ∧ Below w.heap.size w w' := by
    intro v' w' ho hg
    have hb : Below w.heap.size w w' := ((Below.refl _ _).alloc (Nat.le_refl _) _).grown hg (by simp) (fun k e => by cases e; omega)
    rcases ho.2 with ⟨_, h0⟩ | ⟨g, cap, cur, rfl, hgb, hgc, hn, hmx, hcs, htk⟩
    · omega
    · refine ⟨some ⟨g, 0, none⟩, cap, by rw [Nat.add_comm], ⟨x :: xs, by simp [h1], fun _ => ⟨g, 0, rfl, fun i u hu => ?_⟩⟩, hb⟩
      rw [List.map_cons, ← htk] at hu
      have hu2 : cur[i]? = some u := by
        rw [List.getElem?_take] at hu
        split at hu
        · simpa using hu
        · cases hu
      have hB : Blk w' g cur := ⟨3, hgc⟩
      rw [Nat.zero_add]
      exact hB.at_ hu2
  have hcells : ∀ (ad : Addr), A = some ad → ∀ j u, (xs.map (Value.int .i64))[j]? = some u → (w.alloc (.cells #[.int .i64 x] 3)).cell? (ad.add j) = some u := by
    intro ad e j u hu
    have hj : j < xs.length := by have := (List.getElem?_eq_some_iff.1 hu).1; simpa using this
    obtain ⟨b, off, e2, hc⟩ := h2 (by omega)
    rw [e2] at e
    cases e
    have := hc j u hu
    rwa [← Go.WideShapes.add_plain] at this
  rcases A with _ | ad
  · have hz : m = 0 := by
      rcases Nat.eq_zero_or_pos m with h0 | h0
      · exact h0
      · obtain ⟨b, off, e, _⟩ := h2 h0; cases e
    subst hz
    have hx : xs = [] := List.eq_nil_of_length_eq_zero h1
    subst hx
    obtain ⟨A', c', hv, hp, hb⟩ := fin _ _ hown (World.grownBy.refl _ _)
    refine ⟨A', c', _, ?_, hp, hb⟩
    rw [← hv]
    have hgc := heap_alloc_new w (.cells #[.int .i64 x] 3)
    simp [Builtin.append_, run_underlying Tryz.underlying46, sizeOf, typeInfo, hi, Builtin.lenOf, Builtin.firstCells, storeCells]
  · obtain ⟨v', w', hrun, ho, hg, _, hat⟩ := run_append_own_at (P := Tryz.prog) (w.alloc (.cells #[.int .i64 x] 3)) w.heap.size 46 ty 3 i0 _ 1 8 Tryz.underlying46 hi hz0 hz1 hz2 rfl (by omega) _ 1 _ hown ad m c (xs.map (Value.int .i64)) (by simp [h1]) (hcells ad rfl) (by
      intro u hu
      obtain ⟨z, _, rfl⟩ := List.mem_map.1 hu
      rfl) (by simp only [maxLen]; omega) (by omega) (by simp)
    obtain ⟨A', c', rfl, hp, hb⟩ := fin v' w' (by simpa using ho) hg
    exact ⟨A', c', w', hrun, hp, hb⟩

theorem wpList_append_path {w : World} {A : Option Addr} {m c : Nat} (h : Path w A m) (hm : m ≤ 1000) (x : Int)
    {ops : Array Oper} {rest : List Oper} {o : Oper} {a : Act} {Q : Exit → Act → World → Prop} (hgd : o.guard = none) (s t : Operand)
    (ho : o.op = .call { callee := .builtin .append, args := #[s, t], argTypes := #[46, 46] }) (hs : a.eval s = .slice (some ⟨w.heap.size, 0, none⟩) 1 1) (hx : a.eval t = .slice A m c)
    (hk : ∀ A' c' w', Path w' A' (m + 1) → Below w.heap.size w w' → wpList Tryz.prog ops Q rest (a.put o.dst (.slice A' (m + 1) c')) w') :
    wpList Tryz.prog ops Q (o :: rest) a (w.alloc (.cells #[.int .i64 x] 3)) := by
  refine wpList_plain hgd fun K hK => ?_
  obtain ⟨A', c', w', hrun, h2, h3⟩ := run_append_path (c := c) h hm x o.type
  unfold Oper.wp execOp
  simp only [ho, resolve, invoke, builtin, Sem.run_bind, Sem.run_pure, Result.andThen_ok, List.map_toArray, List.map_cons, List.map_nil, hs, hx, hrun]
  exact hK _ _ (hk A' c' w' h2 h3)

def OuterPost (d : Nat) (t : Tm) (w : World) (e : Ending) (w' : World) : Prop :=
  ∃ A m c, e = .returned (.tuple #[.slice A m c, .bool (!nrm t)]) ∧ m ≤ d ∧ Path w' A m ∧ Below w.heap.size w w'

theorem nrm_rdx {k n : Int} {ks : List Tm} (h : rdx k ks ≠ 0) : nrm (.mk k n ks) = false := by
  rw [nrm, Bool.and_eq_false_iff]; right; simpa using h

set_option maxRecDepth 100000 in
set_option maxHeartbeats 2000000 in
theorem outer_any (N : Nat) : ∀ (d : Nat) (k n : Int) (ks : List Tm) (A : Option Addr) (c : Nat) (w : World), d ≤ 30 → sizes ks < N → shape d (.mk k n ks) = true → sizes ks ≤ 1099511627775 → Rd w A 0 ks →
    Calls Tryz.prog 46 #[.agg #[.int .i64 k, .int .i64 n, .slice A ks.length c]] w (OuterPost d (.mk k n ks) w) := by
  induction N with
  | zero => intro d k n ks A c w _ hN; exact absurd hN (Nat.not_lt_zero _)
  | succ N ih =>
  intro d k n ks A c w hd hN hsh hM hr
  have hlen := length_le_sizes ks
  obtain ⟨d, rfl⟩ : ∃ d', d = d' + 1 := by cases d with | zero => simp [shape] at hsh | succ d => exact ⟨d, rfl⟩
  obtain ⟨ha, hm1, hm2, hkids⟩ := (shape_split d k n ks).1 hsh
  have hkids := hide hkids
  have ha' := hide ha
  clear ha hm1 hm2 hsh
  by_cases hrd : rdx k ks = 0
  · go_enter Tryz.func46, Tryz.ntmps46
    go_wp2_with (go_at_call 75; refine (iRedex_any k n ks A c _ (by omega) ha'.out (hr.alloc _)).mono ?_; rw [hrd]; rintro e w1 ⟨rfl, hb1⟩; have hB1 := (Blk.new_ w 27 #[.int .i64 k, .int .i64 n, .slice A ks.length c] rfl).keep hb1; obtain ⟨p10, p11, p12⟩ := hB1.three; replace hb1 := ((Below.refl _ _).alloc (Nat.le_refl _) _).trans (hb1.mono (by simp)))
    go_loopw [14] (fun i wr => ∃ j : Nat, j ≤ ks.length ∧ i = .int .i64 j ∧ Hid (∀ t, t ∈ ks.take j → nrm t = true) ∧ Below w.heap.size w wr)
      (fun i _ => ks.length - (intOf i).toNat)
    case atStart => exact ⟨0, Nat.zero_le _, rfl, hide (by simp), hb1⟩
    case round =>
      obtain ⟨j, hj, rfl, hall, hb⟩ := hrel
      by_cases hlt : j < ks.length
      · obtain ⟨b, off, k1, n1, ks1, A1, c1, rfl, hkj, hc1, hc2, hc3, hl1, hr1⟩ := (hr.below hb).at_ hlt
        have hsz := sizes_le (List.getElem_mem hlt)
        have hs1 := hkids.out _ (List.getElem_mem hlt)
        rw [hkj] at hsz hs1
        simp only [Tm.size] at hsz
        have H3 := hide hkj
        have H4 := hide hs1
        clear hkj hs1
        go_wp2_with (first | (go_at_call 46; refine (ih d k1 n1 ks1 A1 c1 _ (by omega) (by omega) H4.out (by omega) (hr1.alloc _)).mono ?_; rintro e w3 ⟨A3, m3, c3, rfl, hm3, hp3, hb3⟩; replace hb3 := ((Below.refl _ _).alloc (Nat.le_refl _) _).trans (hb3.mono (by simp))) | (at_builtin; refine wpList_append_path hp3 (by omega) _ rfl _ _ rfl rfl rfl ?_; intro A4 c4 w4 hp4 hb4))
        · rename_i hbx
          go_ret2
          refine ⟨A4, m3 + 1, c4, ?_, by omega, hp4, hb.trans ((hb3.trans (hb4.mono hb3.size)).mono hb.size)⟩
          have h1 : nrm (.mk k1 n1 ks1) = false := by simpa using hbx
          have h2 : nrm (.mk k n ks) = false := nrm_kid_no hlt (by rw [H3.out]; exact h1)
          rw [h2]
          rfl
        · rename_i hbx
          have hn1 : nrm (.mk k1 n1 ks1) = true := by simpa using hbx
          go_roundw
          case rel => exact ⟨j + 1, hlt, by go_num, hide (all_take hlt hall.out (by rw [H3.out]; exact hn1)), hb.trans (hb3.mono hb.size)⟩
          case measure => simp [intOf]; omega
      · have hje : j = ks.length := by omega
        go_wp2_with fail
        go_ret2
        have ha := hall.out
        rw [hje, List.take_length] at ha
        have h2 : nrm (.mk k n ks) = true := by rw [nrm_of ha, hrd]; rfl
        refine ⟨none, 0, 0, by rw [h2]; rfl, by omega, Path.nil, hb⟩
  · have hne : (rdx k ks != 0) = true := by simpa using hrd
    have H := hide hrd
    clear hrd
    go_enter Tryz.func46, Tryz.ntmps46
    go_wp2_with (go_at_call 75; refine (iRedex_any k n ks A c _ (by omega) ha'.out (hr.alloc _)).mono ?_; rintro e w1 ⟨rfl, hb1⟩; replace hb1 := ((Below.refl _ _).alloc (Nat.le_refl _) _).trans (hb1.mono (by simp)))
    go_ret2
    exact ⟨none, 0, 0, by rw [nrm_rdx H.out]; rfl, by omega, Path.nil, hb1⟩
end Go.Proofs.YthgmofdfecioaaaGreatDoor

namespace Go.Proofs.YthgmofdfecioaaaGreatDoor
open Go.RowKit
set_option linter.unusedSimpArgs false
set_option linter.unusedVariables false

set_option maxHeartbeats 2000000 in
set_option maxRecDepth 100000 in
theorem variable_any (n : Int) (w : World) : Calls Tryz.prog 53 #[.int .i64 n] w fun e w' => e = .returned (.agg #[.int .i64 1, .int .i64 n, .slice none 0 0]) ∧ Below w.heap.size w w' := by
  go_enter Tryz.func53, Tryz.ntmps53
  go_wp2_with fail
  exact bodyPost_ret (v := .agg #[.int .i64 1, .int .i64 n, .slice none 0 0]) (by simp [results, Tryz.results53, go_sem]) rfl ⟨rfl, (Below.refl _ _).alloc (Nat.le_refl _) _⟩

/-- the empty term that stands for a failure -/
def zeroV : Value := .agg #[.int .i64 0, .int .i64 0, .slice none 0 0]
set_option maxHeartbeats 2000000 in
set_option maxRecDepth 100000 in
theorem valid_yes (k n : Int) (ks : List Tm) (A : Option Addr) (c : Nat) (w : World) (hM : sizes ks ≤ 1099511627775) (hr : Rd w A 0 ks) (hv : validT (.mk k n ks) = true) :
    Calls Tryz.prog 25 #[(.agg #[.int .i64 k, .int .i64 n, .slice A ks.length c])] w fun e w' => e = .returned (.tuple #[(.agg #[.int .i64 k, .int .i64 n, .slice A ks.length c]), .bool true]) ∧ Below w.heap.size w w' := by
  go_enter Tryz.func25, Tryz.ntmps25
  go_wp2_with (go_at_call 35; refine (iTermValid_any k n ks A c _ hM ((hr.alloc _).alloc _)).mono ?_; rw [hv]; rintro e w1 ⟨rfl, hb1⟩; have hB : Blk w1 w.heap.size #[.int .i64 k, .int .i64 n, .slice A ks.length c] := ((Blk.new_ w 27 #[.int .i64 k, .int .i64 n, .slice A ks.length c] rfl).alloc _).keep hb1; have hT : Blk w1 (w.heap.size + 1) #[.int .i64 0, .int .i64 0, .slice none 0 0] := (Blk.new_ _ 27 _ (by simp)).keep hb1; obtain ⟨p0, p1, p2⟩ := hB.three; obtain ⟨d0, d1, d2⟩ := hT.three; have e0 := hT.frozen 0; have e1 := hT.frozen 1; have e2 := hT.frozen 2; replace hb1 : Below w.heap.size w w1 := (((Below.refl _ _).alloc (Nat.le_refl _) _).alloc (by simp) _).trans (hb1.mono (by simp; omega)))
  refine bodyPost_ret (v := .tuple #[(.agg #[.int .i64 k, .int .i64 n, .slice A ks.length c]), .bool true]) (by simp [results, Tryz.results25, go_sem, d0, d1, d2]) rfl ⟨rfl, ?_⟩
  exact ((hb1.setCell (by simp) _).setCell (by simp) _).setCell (by simp) _
set_option maxHeartbeats 2000000 in
set_option maxRecDepth 100000 in
theorem valid_no (k n : Int) (ks : List Tm) (A : Option Addr) (c : Nat) (w : World) (hM : sizes ks ≤ 1099511627775) (hr : Rd w A 0 ks) (hv : validT (.mk k n ks) = false) :
    Calls Tryz.prog 25 #[(.agg #[.int .i64 k, .int .i64 n, .slice A ks.length c])] w fun e w' => e = .returned (.tuple #[zeroV, .bool false]) ∧ Below w.heap.size w w' := by
  go_enter Tryz.func25, Tryz.ntmps25
  go_wp2_with (go_at_call 35; refine (iTermValid_any k n ks A c _ hM ((hr.alloc _).alloc _)).mono ?_; rw [hv]; rintro e w1 ⟨rfl, hb1⟩; have hT : Blk w1 (w.heap.size + 1) #[.int .i64 0, .int .i64 0, .slice none 0 0] := (Blk.new_ _ 27 _ (by simp)).keep hb1; obtain ⟨d0, d1, d2⟩ := hT.three; have e0 := hT.frozen 0; have e1 := hT.frozen 1; have e2 := hT.frozen 2; replace hb1 : Below w.heap.size w w1 := (((Below.refl _ _).alloc (Nat.le_refl _) _).alloc (by simp) _).trans (hb1.mono (by simp; omega)))
  refine bodyPost_ret (v := .tuple #[zeroV, .bool false]) (by simp [results, Tryz.results25, go_sem, d0, d1, d2, zeroV]) rfl ⟨rfl, ?_⟩
  exact ((hb1.setCell (by simp) _).setCell (by simp) _).setCell (by simp) _

/-- a variable shifted -/
def shF (by_ cut : Int) (n d : Int) : Tm := .mk 1 (if cut ≤ n - d then n + by_ else n) []
def shOk (by_ cut : Int) (n d : Int) : Bool := if cut ≤ n - d then decide (cut ≤ n + by_ - d) && decide (n + by_ ≤ 20) else true

set_option maxHeartbeats 2000000 in
set_option maxRecDepth 100000 in
theorem shift1_ok {by_ cut : Int} {bc bb g : Nat} {W0 : World} (hb1 : -1000 ≤ by_ ∧ by_ ≤ 1000) (hc : -1000 ≤ cut ∧ cut ≤ 1000) (hC : Blk W0 bc #[.int .i64 cut]) (hB : Blk W0 bb #[.int .i64 by_]) (hcg : bc ≠ g) (hbg : bb ≠ g) :
    FunOk 77 [.pointer (some ⟨bc, 0, none⟩), .pointer (some ⟨bb, 0, none⟩), .pointer (some ⟨g, 0, none⟩)] W0 g (shF by_ cut) (shOk by_ cut) := by
  intro n d w b hn0 hn1 hd0 hd1 hW hg
  have hCw := hC.grown hW (by simpa using hcg)
  have hBw := hB.grown hW (by simpa using hbg)
  have x0 := hCw.at_ (i := 0) rfl
  have x1 := hBw.at_ (i := 0) rfl
  have x2 := hg.at_ (i := 0) rfl
  have z2 := hg.frozen 0
  have l0 := hCw.lt
  have l1 := hBw.lt
  have l2 := hg.lt
  by_cases h1 : cut ≤ n - d
  · have hz : shF by_ cut n d = .mk 1 (n + by_) [] := by rw [shF, if_pos h1]
    have hzo : shOk by_ cut n d = (decide (cut ≤ n + by_ - d) && decide (n + by_ ≤ 20)) := by rw [shOk, if_pos h1]
    rw [hz, hzo]
    have q1 : decide (cut ≤ n - d) = true := decide_eq_true h1
    have H := hide h1
    clear h1 hz hzo
    cases b with
    | false =>
      rw [Bool.false_and]
      go_enter Tryz.func77, Tryz.ntmps77
      go_wp2_with (go_at_call 53; refine (variable_any _ _).mono ?_; rintro e w1 ⟨rfl, hv1⟩; have hT : Blk w1 w.heap.size #[.int .i64 0, .int .i64 0, .slice none 0 0] := (Blk.new_ _ 27 _ (by simp)).keep hv1; obtain ⟨d0, d1, d2⟩ := hT.three; have e0 := hT.frozen 0; have e1 := hT.frozen 1; have e2 := hT.frozen 2; have hG1 : Blk w1 g #[.bool (false)] := ((hg.set_ 0 (.bool (false))).alloc (.cells #[.int .i64 0, .int .i64 0, .slice none 0 0] 27)).keep hv1; replace hv1 : w.grownBy w1 (some g) := only_below (only_alloc (only_setCell (World.grownBy.refl _ _) (.inl rfl) _) _) hv1)
      refine bodyPost_ret (v := .agg #[.int .i64 1, .int .i64 (n + by_), .slice none 0 0]) (by simp [results, Tryz.results77, go_sem, d0, d1, d2]) rfl ⟨none, 0, rfl, by simp [Tm.ks], Fresh.nil, ?_, ?_⟩
      · exact ((hG1.far (by simp; omega) _).far (by simp; omega) _).far (by simp; omega) _
      · exact only_setCell (only_setCell (only_setCell hv1 (.inr (by simp)) _) (.inr (by simp)) _) (.inr (by simp)) _
    | true =>
      by_cases h2 : cut ≤ n + by_ - d
      · have q2 : decide (cut ≤ n + by_ - d) = true := decide_eq_true h2
        rw [q2, Bool.true_and, Bool.true_and]
        have H2 := hide h2
        clear h2
        cases q3 : decide (n + by_ ≤ 20) with
        | false =>
          go_enter Tryz.func77, Tryz.ntmps77
          go_wp2_with (go_at_call 53; refine (variable_any _ _).mono ?_; rintro e w1 ⟨rfl, hv1⟩; have hT : Blk w1 w.heap.size #[.int .i64 0, .int .i64 0, .slice none 0 0] := (Blk.new_ _ 27 _ (by simp)).keep hv1; obtain ⟨d0, d1, d2⟩ := hT.three; have e0 := hT.frozen 0; have e1 := hT.frozen 1; have e2 := hT.frozen 2; have hG1 : Blk w1 g #[.bool (false)] := ((hg.set_ 0 (.bool (false))).alloc (.cells #[.int .i64 0, .int .i64 0, .slice none 0 0] 27)).keep hv1; replace hv1 : w.grownBy w1 (some g) := only_below (only_alloc (only_setCell (World.grownBy.refl _ _) (.inl rfl) _) _) hv1)
          refine bodyPost_ret (v := .agg #[.int .i64 1, .int .i64 (n + by_), .slice none 0 0]) (by simp [results, Tryz.results77, go_sem, d0, d1, d2]) rfl ⟨none, 0, rfl, by simp [Tm.ks], Fresh.nil, ?_, ?_⟩
          · exact ((hG1.far (by simp; omega) _).far (by simp; omega) _).far (by simp; omega) _
          · exact only_setCell (only_setCell (only_setCell hv1 (.inr (by simp)) _) (.inr (by simp)) _) (.inr (by simp)) _
        | true =>
          go_enter Tryz.func77, Tryz.ntmps77
          go_wp2_with (go_at_call 53; refine (variable_any _ _).mono ?_; rintro e w1 ⟨rfl, hv1⟩; have hT : Blk w1 w.heap.size #[.int .i64 0, .int .i64 0, .slice none 0 0] := (Blk.new_ _ 27 _ (by simp)).keep hv1; obtain ⟨d0, d1, d2⟩ := hT.three; have e0 := hT.frozen 0; have e1 := hT.frozen 1; have e2 := hT.frozen 2; have hG1 : Blk w1 g #[.bool (true)] := ((hg.set_ 0 (.bool (true))).alloc (.cells #[.int .i64 0, .int .i64 0, .slice none 0 0] 27)).keep hv1; replace hv1 : w.grownBy w1 (some g) := only_below (only_alloc (only_setCell (World.grownBy.refl _ _) (.inl rfl) _) _) hv1)
          refine bodyPost_ret (v := .agg #[.int .i64 1, .int .i64 (n + by_), .slice none 0 0]) (by simp [results, Tryz.results77, go_sem, d0, d1, d2]) rfl ⟨none, 0, rfl, by simp [Tm.ks], Fresh.nil, ?_, ?_⟩
          · exact ((hG1.far (by simp; omega) _).far (by simp; omega) _).far (by simp; omega) _
          · exact only_setCell (only_setCell (only_setCell hv1 (.inr (by simp)) _) (.inr (by simp)) _) (.inr (by simp)) _
      · have q2 : decide (cut ≤ n + by_ - d) = false := decide_eq_false h2
        rw [q2, Bool.false_and, Bool.true_and]
        have H2 := hide h2
        clear h2
        go_enter Tryz.func77, Tryz.ntmps77
        go_wp2_with (go_at_call 53; refine (variable_any _ _).mono ?_; rintro e w1 ⟨rfl, hv1⟩; have hT : Blk w1 w.heap.size #[.int .i64 0, .int .i64 0, .slice none 0 0] := (Blk.new_ _ 27 _ (by simp)).keep hv1; obtain ⟨d0, d1, d2⟩ := hT.three; have e0 := hT.frozen 0; have e1 := hT.frozen 1; have e2 := hT.frozen 2; have hG1 : Blk w1 g #[.bool (false)] := ((hg.set_ 0 (.bool (false))).alloc (.cells #[.int .i64 0, .int .i64 0, .slice none 0 0] 27)).keep hv1; replace hv1 : w.grownBy w1 (some g) := only_below (only_alloc (only_setCell (World.grownBy.refl _ _) (.inl rfl) _) _) hv1)
        refine bodyPost_ret (v := .agg #[.int .i64 1, .int .i64 (n + by_), .slice none 0 0]) (by simp [results, Tryz.results77, go_sem, d0, d1, d2]) rfl ⟨none, 0, rfl, by simp [Tm.ks], Fresh.nil, ?_, ?_⟩
        · exact ((hG1.far (by simp; omega) _).far (by simp; omega) _).far (by simp; omega) _
        · exact only_setCell (only_setCell (only_setCell hv1 (.inr (by simp)) _) (.inr (by simp)) _) (.inr (by simp)) _
  · have hz : shF by_ cut n d = .mk 1 n [] := by rw [shF, if_neg h1]
    have hzo : shOk by_ cut n d = true := by rw [shOk, if_neg h1]
    rw [hz, hzo, Bool.and_true]
    have q1 : decide (cut ≤ n - d) = false := decide_eq_false h1
    have H := hide h1
    clear h1 hz hzo
    go_enter Tryz.func77, Tryz.ntmps77
    go_wp2_with (go_at_call 53; refine (variable_any _ _).mono ?_; rintro e w1 ⟨rfl, hv1⟩; have hT : Blk w1 w.heap.size #[.int .i64 0, .int .i64 0, .slice none 0 0] := (Blk.new_ _ 27 _ rfl).keep hv1; obtain ⟨d0, d1, d2⟩ := hT.three; have e0 := hT.frozen 0; have e1 := hT.frozen 1; have e2 := hT.frozen 2; have hG1 := (hg.alloc (.cells #[.int .i64 0, .int .i64 0, .slice none 0 0] 27)).keep hv1; replace hv1 : w.grownBy w1 (some g) := only_below (only_alloc (World.grownBy.refl _ _) _) hv1)
    refine bodyPost_ret (v := .agg #[.int .i64 1, .int .i64 n, .slice none 0 0]) (by simp [results, Tryz.results77, go_sem, d0, d1, d2]) rfl ⟨none, 0, rfl, by simp [Tm.ks], Fresh.nil, ?_, ?_⟩
    · exact ((hG1.far (by simp; omega) _).far (by simp; omega) _).far (by simp; omega) _
    · exact only_setCell (only_setCell (only_setCell hv1 (.inr (by simp)) _) (.inr (by simp)) _) (.inr (by simp)) _
end Go.Proofs.YthgmofdfecioaaaGreatDoor
