/-
  Well-formed terms: what the reference's functions on them compute. No condition.
-/
import Derived.Test.YtefifcmieicnlaaKind
namespace Go.Proofs.Ytefifcmieicnlaa
open Go.RowKit
set_option linter.unusedSimpArgs false
set_option linter.unusedVariables false

/-- well formed, down to a depth -/
def shape : Nat → Tm → Bool
  | 0, _ => false
  | d + 1, .mk k n ks => arity k == (ks.length : Int) && decide (0 ≤ n) && decide (n ≤ mostN k) && ks.all (shape d)

theorem shape_split (d : Nat) (k n : Int) (ks : List Tm) : shape (d + 1) (.mk k n ks) = true ↔ arity k = (ks.length : Int) ∧ 0 ≤ n ∧ n ≤ mostN k ∧ ∀ t, t ∈ ks → shape d t = true := by
  simp only [shape, Bool.and_eq_true, beq_iff_eq, decide_eq_true_eq, List.all_eq_true, and_assoc]
theorem shape_no (d : Nat) (k n : Int) (ks : List Tm) (h : ¬ (arity k = (ks.length : Int) ∧ 0 ≤ n ∧ n ≤ mostN k)) : shape (d + 1) (.mk k n ks) = false := by
  cases e : shape (d + 1) (.mk k n ks) with
  | false => rfl
  | true => have := (shape_split d k n ks).1 e; exact absurd ⟨this.1, this.2.1, this.2.2.1⟩ h

set_option maxRecDepth 100000 in
set_option maxHeartbeats 1000000 in
theorem l1Shape_any (d : Nat) : ∀ (k n : Int) (ks : List Tm) (A : Option Addr) (c : Nat) (w : World), d ≤ 1000 → ks.length ≤ 9223372036854775807 → Rd w A 0 ks →
    Calls Try.prog 96 #[.agg #[.int .i64 k, .int .i64 n, .slice A ks.length c], .int .i64 d] w fun e w' => e = .returned (.bool (shape d (.mk k n ks))) ∧ Below w.heap.size w w' := by
  induction d with
  | zero =>
    intro k n ks A c w hd hl hr
    go_enter Try.func96, Try.ntmps96
    go_wp2_with fail
    refine name_world ?_
    intro wx hwx
    have hb0 : Below w.heap.size w wx := by rw [hwx]; exact (Below.refl _ _).alloc (Nat.le_refl _) _
    clear hwx
    refine wp_region_class (fun w' => Below wx.heap.size wx w') (by kernel_rfl) (by kernel_rfl) (Below.refl _ _).drew ?_
    repeat (first | ((refine quiet_skip (a' := ?_) ?_ ?_ ?_); (rotate_left); (· (simp [Region.wanted, yielded]; done)); (· (simp only [Act.put, List.setIfInBounds_toArray, List.set_cons_zero, List.set_cons_succ]; exact rfl))) | ((refine quiet_one (v := ?_) (a' := ?_) ?_ ?_ ?_ ?_); (rotate_left 2); (· (simp [Region.wanted, yielded]; done)); (· (intro w' hS'; go_simp; try (with_reducible rfl))); (· (simp only [Act.put, List.setIfInBounds_toArray, List.set_cons_zero, List.set_cons_succ]; exact rfl))))
    refine quiet_nil ?_
    intro w2 hb2
    go_wp2_with fail
    go_ret
    exact ⟨rfl, hb0.trans (hb2.mono hb0.size)⟩
  | succ d ih =>
    intro k n ks A c w hd hl hr
    have hz := hide (shape_split d k n ks)
    rw [show ((d + 1 : Nat) : Int) = (d : Int) + 1 from by omega]
    have q0 : decide ((d : Int) + 1 < 1) = false := by simp; omega
    by_cases h1 : arity k = (ks.length : Int)
    · have q1 : (arity k != (ks.length : Int)) = false := by simpa using h1
      by_cases h2 : 0 ≤ n
      · by_cases h3 : n ≤ mostN k
        · have H := hide (And.intro h1 (And.intro h2 h3))
          have q2 : decide (n < 0) = false := by simp; omega
          have q3 : decide (mostN k < n) = false := by simp; omega
          clear h1
          go_enter Try.func96, Try.ntmps96
          go_wp2_with fail
          refine name_world ?_
          intro wx hwx
          have hb0 : Below w.heap.size w wx := by rw [hwx]; exact (Below.refl _ _).alloc (Nat.le_refl _) _
          have hB : Blk wx w.heap.size #[.int .i64 k, .int .i64 n, .slice A ks.length c] := by rw [hwx]; exact Blk.new _ _ _
          have hrx : Rd wx A 0 ks := by rw [hwx]; exact hr.alloc _
          have r0 := hB.rule (i := 0) rfl
          have r1 := hB.rule (i := 1) rfl
          have r2 := hB.rule (i := 2) rfl
          clear hwx
          refine wp_region_class (fun w' => Below wx.heap.size wx w') (by kernel_rfl) (by kernel_rfl) (Below.refl _ _).drew ?_
          repeat (first | ((refine quiet_skip (a' := ?_) ?_ ?_ ?_); (rotate_left); (· (simp [Region.wanted, yielded]; done)); (· (simp only [Act.put, List.setIfInBounds_toArray, List.set_cons_zero, List.set_cons_succ]; exact rfl))) | ((refine quiet_one (v := ?_) (a' := ?_) ?_ ?_ ?_ ?_); (rotate_left 2); (· (simp [Region.wanted, yielded]; done)); (· (intro w' hS'; go_simp; try (with_reducible rfl))); (· (simp only [Act.put, List.setIfInBounds_toArray, List.set_cons_zero, List.set_cons_succ]; exact rfl))) | ((refine quiet_same (v := ?_) (a' := ?_) 131 ?_ ?_ ?_ ?_ ?_ ?_); (rotate_left 3); (· (simp [Region.wanted, yielded]; done)); (· (intro w' hS'; go_simp; try (with_reducible rfl))); (· (intro w' hS'; exact l1Kids_any _ _)); (· (simp only [Act.put, List.setIfInBounds_toArray, List.set_cons_zero, List.set_cons_succ]; exact rfl))) | ((refine quiet_same (v := ?_) (a' := ?_) 132 ?_ ?_ ?_ ?_ ?_ ?_); (rotate_left 3); (· (simp [Region.wanted, yielded]; done)); (· (intro w' hS'; go_simp; try (with_reducible rfl))); (· (intro w' hS'; exact l1Most_any _ _)); (· (simp only [Act.put, List.setIfInBounds_toArray, List.set_cons_zero, List.set_cons_succ]; exact rfl))))
          refine quiet_nil ?_
          intro w2 hb2
          replace hB := hB.keep hb2
          replace hrx := hrx.below hb2
          replace hb0 := hb0.trans (hb2.mono hb0.size)
          clear r0 r1 r2 hb2
          go_wp2_with fail
          go_loopw [5] (fun i wr => ∃ j : Nat, j ≤ ks.length ∧ i = .int .i64 j ∧ Hid (∀ t, t ∈ ks.take j → shape d t = true) ∧ Below w2.heap.size w2 wr) (fun i _ => ks.length - (intOf i).toNat)
          case atStart => exact ⟨0, Nat.zero_le _, rfl, hide (by simp), Below.refl _ _⟩
          case round =>
            obtain ⟨j, hj, rfl, hall, hb⟩ := hrel
            replace hB := hB.keep hb
            have c2 := hB.at_ (i := 2) rfl
            by_cases hlt : j < ks.length
            · obtain ⟨b, off, k1, n1, ks1, A1, c1, rfl, hkj, hc1, hc2, hc3, hl1, hr1⟩ := (hrx.below hb).at_ hlt
              have H3 := hide hkj
              clear hkj
              go_wp2_with (go_at_call 96; refine (ih k1 n1 ks1 A1 c1 _ (by omega) hl1 hr1).mono ?_; rintro e w3 ⟨rfl, hb3⟩)
              · go_ret
                have hne : (!shape d (.mk k1 n1 ks1)) = true := by assumption
                refine ⟨ret_bool ?_, hb0.trans ((hb.trans (hb3.mono hb.size)).mono hb0.size)⟩
                cases e : shape (d + 1) (.mk k n ks) with
                | false => rfl
                | true =>
                  have := (hz.out.1 e).2.2.2 ks[j] (List.getElem_mem hlt)
                  rw [H3.out] at this
                  rw [this] at hne
                  cases hne
              · have hne : (!shape d (.mk k1 n1 ks1)) = false := by assumption
                go_roundw
                case rel =>
                  refine ⟨j + 1, by omega, by go_num, hide ?_, hb.trans (hb3.mono hb.size)⟩
                  rw [List.take_succ_eq_append_getElem hlt, H3.out]
                  intro t ht
                  rcases List.mem_append.1 ht with ht | ht
                  · exact hall.out t ht
                  · simp only [List.mem_singleton] at ht
                    subst ht
                    simpa using hne
                case measure => simp [intOf]; omega
            · go_wp2_with fail
              go_ret
              have hjl : j = ks.length := by omega
              have hall' := hall.out
              rw [hjl, List.take_length] at hall'
              exact ⟨ret_bool (hz.out.2 ⟨H.out.1, H.out.2.1, H.out.2.2, hall'⟩).symm, hb0.trans (hb.mono hb0.size)⟩
        · have H := hide h3
          have q2 : decide (n < 0) = false := by simp; omega
          have q3 : decide (mostN k < n) = true := by simp; omega
          clear h1
          go_enter Try.func96, Try.ntmps96
          go_wp2_with fail
          refine name_world ?_
          intro wx hwx
          have hb0 : Below w.heap.size w wx := by rw [hwx]; exact (Below.refl _ _).alloc (Nat.le_refl _) _
          have hB : Blk wx w.heap.size #[.int .i64 k, .int .i64 n, .slice A ks.length c] := by rw [hwx]; exact Blk.new _ _ _
          have hrx : Rd wx A 0 ks := by rw [hwx]; exact hr.alloc _
          have r0 := hB.rule (i := 0) rfl
          have r1 := hB.rule (i := 1) rfl
          have r2 := hB.rule (i := 2) rfl
          clear hwx
          refine wp_region_class (fun w' => Below wx.heap.size wx w') (by kernel_rfl) (by kernel_rfl) (Below.refl _ _).drew ?_
          repeat (first | ((refine quiet_skip (a' := ?_) ?_ ?_ ?_); (rotate_left); (· (simp [Region.wanted, yielded]; done)); (· (simp only [Act.put, List.setIfInBounds_toArray, List.set_cons_zero, List.set_cons_succ]; exact rfl))) | ((refine quiet_one (v := ?_) (a' := ?_) ?_ ?_ ?_ ?_); (rotate_left 2); (· (simp [Region.wanted, yielded]; done)); (· (intro w' hS'; go_simp; try (with_reducible rfl))); (· (simp only [Act.put, List.setIfInBounds_toArray, List.set_cons_zero, List.set_cons_succ]; exact rfl))) | ((refine quiet_same (v := ?_) (a' := ?_) 131 ?_ ?_ ?_ ?_ ?_ ?_); (rotate_left 3); (· (simp [Region.wanted, yielded]; done)); (· (intro w' hS'; go_simp; try (with_reducible rfl))); (· (intro w' hS'; exact l1Kids_any _ _)); (· (simp only [Act.put, List.setIfInBounds_toArray, List.set_cons_zero, List.set_cons_succ]; exact rfl))) | ((refine quiet_same (v := ?_) (a' := ?_) 132 ?_ ?_ ?_ ?_ ?_ ?_); (rotate_left 3); (· (simp [Region.wanted, yielded]; done)); (· (intro w' hS'; go_simp; try (with_reducible rfl))); (· (intro w' hS'; exact l1Most_any _ _)); (· (simp only [Act.put, List.setIfInBounds_toArray, List.set_cons_zero, List.set_cons_succ]; exact rfl))))
          refine quiet_nil ?_
          intro w2 hb2
          replace hB := hB.keep hb2
          replace hrx := hrx.below hb2
          replace hb0 := hb0.trans (hb2.mono hb0.size)
          clear r0 r1 r2 hb2
          go_wp2_with fail
          go_ret
          exact ⟨ret_bool (shape_no _ _ _ _ (by have := H.out; omega)).symm, hb0⟩
      · have H := hide h2
        have q2 : decide (n < 0) = true := by simp; omega
        clear h1
        go_enter Try.func96, Try.ntmps96
        go_wp2_with fail
        refine name_world ?_
        intro wx hwx
        have hb0 : Below w.heap.size w wx := by rw [hwx]; exact (Below.refl _ _).alloc (Nat.le_refl _) _
        have hB : Blk wx w.heap.size #[.int .i64 k, .int .i64 n, .slice A ks.length c] := by rw [hwx]; exact Blk.new _ _ _
        have hrx : Rd wx A 0 ks := by rw [hwx]; exact hr.alloc _
        have r0 := hB.rule (i := 0) rfl
        have r1 := hB.rule (i := 1) rfl
        have r2 := hB.rule (i := 2) rfl
        clear hwx
        refine wp_region_class (fun w' => Below wx.heap.size wx w') (by kernel_rfl) (by kernel_rfl) (Below.refl _ _).drew ?_
        repeat (first | ((refine quiet_skip (a' := ?_) ?_ ?_ ?_); (rotate_left); (· (simp [Region.wanted, yielded]; done)); (· (simp only [Act.put, List.setIfInBounds_toArray, List.set_cons_zero, List.set_cons_succ]; exact rfl))) | ((refine quiet_one (v := ?_) (a' := ?_) ?_ ?_ ?_ ?_); (rotate_left 2); (· (simp [Region.wanted, yielded]; done)); (· (intro w' hS'; go_simp; try (with_reducible rfl))); (· (simp only [Act.put, List.setIfInBounds_toArray, List.set_cons_zero, List.set_cons_succ]; exact rfl))) | ((refine quiet_same (v := ?_) (a' := ?_) 131 ?_ ?_ ?_ ?_ ?_ ?_); (rotate_left 3); (· (simp [Region.wanted, yielded]; done)); (· (intro w' hS'; go_simp; try (with_reducible rfl))); (· (intro w' hS'; exact l1Kids_any _ _)); (· (simp only [Act.put, List.setIfInBounds_toArray, List.set_cons_zero, List.set_cons_succ]; exact rfl))) | ((refine quiet_same (v := ?_) (a' := ?_) 132 ?_ ?_ ?_ ?_ ?_ ?_); (rotate_left 3); (· (simp [Region.wanted, yielded]; done)); (· (intro w' hS'; go_simp; try (with_reducible rfl))); (· (intro w' hS'; exact l1Most_any _ _)); (· (simp only [Act.put, List.setIfInBounds_toArray, List.set_cons_zero, List.set_cons_succ]; exact rfl))))
        refine quiet_nil ?_
        intro w2 hb2
        replace hB := hB.keep hb2
        replace hrx := hrx.below hb2
        replace hb0 := hb0.trans (hb2.mono hb0.size)
        clear r0 r1 r2 hb2
        go_wp2_with fail
        go_ret
        exact ⟨ret_bool (shape_no _ _ _ _ (by have := H.out; omega)).symm, hb0⟩
    · have q1 : (arity k != (ks.length : Int)) = true := by simpa using h1
      have H := hide h1
      clear h1
      go_enter Try.func96, Try.ntmps96
      go_wp2_with fail
      refine name_world ?_
      intro wx hwx
      have hb0 : Below w.heap.size w wx := by rw [hwx]; exact (Below.refl _ _).alloc (Nat.le_refl _) _
      have hB : Blk wx w.heap.size #[.int .i64 k, .int .i64 n, .slice A ks.length c] := by rw [hwx]; exact Blk.new _ _ _
      have hrx : Rd wx A 0 ks := by rw [hwx]; exact hr.alloc _
      have r0 := hB.rule (i := 0) rfl
      have r1 := hB.rule (i := 1) rfl
      have r2 := hB.rule (i := 2) rfl
      clear hwx
      refine wp_region_class (fun w' => Below wx.heap.size wx w') (by kernel_rfl) (by kernel_rfl) (Below.refl _ _).drew ?_
      repeat (first | ((refine quiet_skip (a' := ?_) ?_ ?_ ?_); (rotate_left); (· (simp [Region.wanted, yielded]; done)); (· (simp only [Act.put, List.setIfInBounds_toArray, List.set_cons_zero, List.set_cons_succ]; exact rfl))) | ((refine quiet_one (v := ?_) (a' := ?_) ?_ ?_ ?_ ?_); (rotate_left 2); (· (simp [Region.wanted, yielded]; done)); (· (intro w' hS'; go_simp; try (with_reducible rfl))); (· (simp only [Act.put, List.setIfInBounds_toArray, List.set_cons_zero, List.set_cons_succ]; exact rfl))) | ((refine quiet_same (v := ?_) (a' := ?_) 131 ?_ ?_ ?_ ?_ ?_ ?_); (rotate_left 3); (· (simp [Region.wanted, yielded]; done)); (· (intro w' hS'; go_simp; try (with_reducible rfl))); (· (intro w' hS'; exact l1Kids_any _ _)); (· (simp only [Act.put, List.setIfInBounds_toArray, List.set_cons_zero, List.set_cons_succ]; exact rfl))) | ((refine quiet_same (v := ?_) (a' := ?_) 132 ?_ ?_ ?_ ?_ ?_ ?_); (rotate_left 3); (· (simp [Region.wanted, yielded]; done)); (· (intro w' hS'; go_simp; try (with_reducible rfl))); (· (intro w' hS'; exact l1Most_any _ _)); (· (simp only [Act.put, List.setIfInBounds_toArray, List.set_cons_zero, List.set_cons_succ]; exact rfl))))
      refine quiet_nil ?_
      intro w2 hb2
      replace hB := hB.keep hb2
      replace hrx := hrx.below hb2
      replace hb0 := hb0.trans (hb2.mono hb0.size)
      clear r0 r1 r2 hb2
      go_wp2_with fail
      go_ret
      exact ⟨ret_bool (shape_no _ _ _ _ (by have := H.out; omega)).symm, hb0⟩
end Go.Proofs.Ytefifcmieicnlaa
