/-
  slices.ContainsFunc over terms, and FillTerm of the implementation. No condition.
-/
import Derived.Test.YtefifcmieicnlaaFill2
namespace Go.Proofs.Ytefifcmieicnlaa
open Go.RowKit
set_option linter.unusedSimpArgs false
set_option linter.unusedVariables false

set_option maxHeartbeats 1000000 in
set_option maxRecDepth 100000 in
theorem fillTerm1_any (k n : Int) (ks : List Tm) (A : Option Addr) (c : Nat) (w : World) (hM : sizes ks ≤ 1099511627775) (hr : Rd w A 0 ks) :
    Calls Try.prog 62 #[.agg #[.int .i64 k, .int .i64 n, .slice A ks.length c]] w fun e w' => e = .returned (.bool (!validT (.mk k n ks))) ∧ Below w.heap.size w w' := by
  go_enter Try.func62, Try.ntmps62
  go_wp2_with (go_at_call 51; refine (iTermValid_any k n ks A c _ hM (hr.alloc _)).mono ?_; rintro e w1 ⟨rfl, hb1⟩; replace hb1 : Below w.heap.size w w1 := ((Below.refl _ _).alloc (Nat.le_refl _) _).trans (hb1.mono (by simp)))
  go_ret
  exact ⟨rfl, hb1⟩

/-- what is asked of a test of terms -/
def TestOk (F : Nat) (p : Tm → Bool) : Prop := ∀ (k n : Int) (ks : List Tm) (A : Option Addr) (c : Nat) (w : World), sizes ks ≤ 1099511627775 → Rd w A 0 ks →
  Calls Try.prog F #[.agg #[.int .i64 k, .int .i64 n, .slice A ks.length c]] w fun e w' => e = .returned (.bool (p (.mk k n ks))) ∧ Below w.heap.size w w'

set_option maxHeartbeats 1000000 in
set_option maxRecDepth 100000 in
theorem indexFunc_any {F : Nat} {p : Tm → Bool} (hF : TestOk F p) (hrun : ∀ (args : Array Value) (w : World), (callFunc F args).run Try.prog w = .ok (.enter F args) w) (ks : List Tm) (A : Option Addr) (c : Nat) (w : World) (hM : sizes ks ≤ 1099511627775) (hr : Rd w A 0 ks) :
    Calls Try.prog 107 #[.slice A ks.length c, .func (.func F) #[] #[]] w fun e w' => ∃ r : Int, e = .returned (.int .i64 r) ∧ decide (0 ≤ r) = ks.any p ∧ Below w.heap.size w w' := by
  have hlen := length_le_sizes ks
  go_enter Try.func107, Try.ntmps107
  go_wp2_with fail
  go_loopw [8] (fun i wr => ∃ j : Nat, j ≤ ks.length ∧ i = .int .i64 j ∧ Hid (∀ t, t ∈ ks.take j → p t = false) ∧ Below w.heap.size w wr) (fun i _ => ks.length - (intOf i).toNat)
  case atStart => exact ⟨0, Nat.zero_le _, rfl, hide (by simp), Below.refl _ _⟩
  case round =>
    obtain ⟨j, hj, rfl, hall, hb⟩ := hrel
    by_cases hlt : j < ks.length
    · obtain ⟨b, off, k1, n1, ks1, A1, c1, rfl, hkj, hc1, hc2, hc3, hl1, hr1⟩ := (hr.below hb).at_ hlt
      have hsz := sizes_le (List.getElem_mem hlt)
      rw [hkj] at hsz
      simp only [Tm.size] at hsz
      have H3 := hide hkj
      clear hkj
      go_wp2_with (refine (hF k1 n1 ks1 A1 c1 _ (by omega) hr1).mono ?_; rintro e w3 ⟨rfl, hb3⟩)
      · rename_i hbx
        go_ret
        refine ⟨_, rfl, ?_, hb.trans (hb3.mono hb.size)⟩
        rw [decide_eq_true (by omega)]
        refine (List.any_eq_true.2 ⟨ks[j], List.getElem_mem hlt, ?_⟩).symm
        rw [H3.out]; exact hbx
      · rename_i hbx
        have hp1 : p (.mk k1 n1 ks1) = false := by simpa using hbx
        go_roundw
        case rel => exact ⟨j + 1, hlt, by go_num, hide (all_take hlt hall.out (by rw [H3.out]; exact hp1)), hb.trans (hb3.mono hb.size)⟩
        case measure => simp [intOf]; omega
    · have hje : j = ks.length := by omega
      go_wp2_with fail
      go_ret
      refine ⟨-1, rfl, ?_, hb⟩
      have ha := hall.out
      rw [hje, List.take_length] at ha
      refine (List.any_eq_false.2 fun t ht => ?_).symm
      rw [ha t ht]; exact Bool.false_ne_true

set_option maxHeartbeats 1000000 in
set_option maxRecDepth 100000 in
theorem contains_any {F : Nat} {p : Tm → Bool} (hF : TestOk F p) (hrun : ∀ (args : Array Value) (w : World), (callFunc F args).run Try.prog w = .ok (.enter F args) w) (ks : List Tm) (A : Option Addr) (c : Nat) (w : World) (hM : sizes ks ≤ 1099511627775) (hr : Rd w A 0 ks) :
    Calls Try.prog 61 #[.slice A ks.length c, .func (.func F) #[] #[]] w fun e w' => e = .returned (.bool (ks.any p)) ∧ Below w.heap.size w w' := by
  go_enter Try.func61, Try.ntmps61
  go_wp2_with (go_at_call 107; refine (indexFunc_any hF hrun ks A c _ hM hr).mono ?_; rintro e w1 ⟨r, rfl, hr1, hb1⟩)
  go_ret
  exact ⟨rfl, hb1⟩

/-- what FillTerm answers -/
def fillTI (t : Tm) (args : List Tm) : Option Tm := if validT t = true ∧ args.length ≤ 6 ∧ (args.any fun a => !validT a) = false then fillI args t else none
set_option maxHeartbeats 1000000 in
set_option maxRecDepth 100000 in
theorem isHoles_any (n : Int) (w : World) : Calls Try.prog 60 #[.int .i64 n] w fun e w' => e = .returned (.bool (decide (0 ≤ n) && decide (n ≤ 6))) ∧ w = w' := by
  go_enter Try.func60, Try.ntmps60
  go_wp2_with (go_at_call 106; refine (within_any _ _ _ _).mono ?_; rintro e w1 ⟨rfl, rfl⟩)
  go_ret
  exact ⟨rfl, rfl⟩
theorem test62 : TestOk 62 (fun a => !validT a) := fun k n ks A c w hM hr => fillTerm1_any k n ks A c w hM hr
end Go.Proofs.Ytefifcmieicnlaa
