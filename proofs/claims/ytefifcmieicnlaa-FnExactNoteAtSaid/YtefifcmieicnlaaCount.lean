/-
  Nodes of terms: what the reference's counting and its test of validity compute. No condition.
-/
import Derived.Test.YtefifcmieicnlaaShape
namespace Go.Proofs.Ytefifcmieicnlaa
open Go.RowKit
set_option linter.unusedSimpArgs false
set_option linter.unusedVariables false

/-- a count that stops early -/
def CountR (m : Nat) (most r : Int) : Prop := 1 ≤ r ∧ r ≤ m ∧ (r = m ∨ most < r)
def CountPost (m : Nat) (most : Int) (w : World) (e : Ending) (w' : World) : Prop := ∃ r : Int, e = .returned (.int .i64 r) ∧ CountR m most r ∧ Below w.heap.size w w'

theorem sizes_take (ks : List Tm) (j : Nat) (hj : j < ks.length) : sizes (ks.take (j + 1)) = sizes (ks.take j) + ks[j].size := by
  rw [List.take_succ_eq_append_getElem hj, sizes_append]; simp [sizes]
theorem sizes_take_le (ks : List Tm) (j : Nat) : sizes (ks.take j) ≤ sizes ks := by
  have := sizes_append (ks.take j) (ks.drop j); rw [List.take_append_drop] at this; omega

set_option maxRecDepth 100000 in
set_option maxHeartbeats 1000000 in
theorem l1Count_any (N : Nat) : ∀ (k n : Int) (ks : List Tm) (A : Option Addr) (c : Nat) (most : Int) (w : World), sizes ks < N → sizes ks ≤ 1099511627776 → -1099511627776 ≤ most → most ≤ 1099511627776 → Rd w A 0 ks →
    Calls Try.prog 97 #[.agg #[.int .i64 k, .int .i64 n, .slice A ks.length c], .int .i64 most] w (CountPost (sizes ks + 1) most w) := by
  induction N with
  | zero => intro k n ks A c most w hN; exact absurd hN (Nat.not_lt_zero _)
  | succ N ih =>
  intro k n ks A c most w hN hM hlo hhi hr
  have hlen := length_le_sizes ks
  go_enter Try.func97, Try.ntmps97
  go_wp2_with fail
  go_loopw [5, 6] (fun a i wr => ∃ (j : Nat) (acc : Int), j ≤ ks.length ∧ i = .int .i64 j ∧ a = .int .i64 acc ∧ 1 ≤ acc ∧ acc ≤ 1 + sizes (ks.take j) ∧ Hid (acc = 1 + sizes (ks.take j) ∨ most < acc) ∧ Blk wr w.heap.size #[.int .i64 k, .int .i64 n, .slice A ks.length c] ∧ Below w.heap.size w wr)
    (fun _ i _ => ks.length - (intOf i).toNat)
  case atStart => exact ⟨0, 1, Nat.zero_le _, rfl, rfl, by omega, by simp [sizes], hide (by simp [sizes]), Blk.new _ _ _, (Below.refl _ _).alloc (Nat.le_refl _) _⟩
  case round =>
    obtain ⟨j, acc, hj, rfl, rfl, ha1, ha2, ha3, hB, hb⟩ := hrel
    have c2 := hB.at_ (i := 2) rfl
    have hsl := sizes_take_le ks j
    by_cases hlt : j < ks.length
    · by_cases hm : acc ≤ most
      · obtain ⟨b, off, k1, n1, ks1, A1, c1, rfl, hkj, hc1, hc2, hc3, hl1, hr1⟩ := (hr.below hb).at_ hlt
        have hst := sizes_take ks j hlt
        have hsz := sizes_le (List.getElem_mem hlt)
        rw [hkj] at hsz hst
        simp only [Tm.size] at hsz hst
        have H3 := hide hst
        clear hkj hst
        go_wp2_with (go_at_call 97; refine (ih k1 n1 ks1 A1 c1 _ _ (by omega) (by omega) (by omega) (by omega) hr1).mono ?_; rintro e w3 ⟨r, rfl, ⟨hr1, hr2, hr3⟩, hb3⟩; have hr3' := hide hr3; clear hr3)
        go_roundw
        case rel =>
          refine ⟨j + 1, acc + r, by omega, by go_num, rfl, by omega, by rw [H3.out]; have := ha3.out; omega, hide ?_, hB.keep hb3, hb.trans (hb3.mono hb.size)⟩
          rw [H3.out]
          have h1 := ha3.out
          have h2 := hr3'.out
          omega
        case measure => simp [intOf]; omega
      · go_wp2_with fail
        go_ret
        exact ⟨acc, rfl, ⟨ha1, by omega, Or.inr (by omega)⟩, hb⟩
    · go_wp2_with fail
      go_ret
      have h1 := ha3.out
      have hjl : j = ks.length := by omega
      rw [hjl, List.take_length] at h1 ha2
      exact ⟨acc, rfl, ⟨ha1, by omega, by omega⟩, hb⟩

/-- a valid term -/
def validT (t : Tm) : Bool := shape 30 t && decide (t.size ≤ 400)

set_option maxRecDepth 100000 in
set_option maxHeartbeats 1000000 in
theorem sTermValid_any (k n : Int) (ks : List Tm) (A : Option Addr) (c : Nat) (w : World) (hM : sizes ks ≤ 1099511627775) (hr : Rd w A 0 ks) :
    Calls Try.prog 50 #[.agg #[.int .i64 k, .int .i64 n, .slice A ks.length c]] w fun e w' => e = .returned (.bool (validT (.mk k n ks))) ∧ Below w.heap.size w w' := by
  have hlen := length_le_sizes ks
  cases hs : shape 30 (.mk k n ks) with
  | false =>
    have hv : validT (.mk k n ks) = false := by simp [validT, hs]
    rw [hv]
    go_enter Try.func50, Try.ntmps50
    go_wp2_with (go_at_call 96; refine (l1Shape_any 30 k n ks A c _ (by omega) (by omega) (hr.alloc _)).mono ?_; rintro e w1 ⟨rfl, hb1⟩; obtain ⟨hc, hf⟩ := bcell hb1)
    go_ret
    exact ⟨rfl, ((Below.refl _ _).alloc (Nat.le_refl _) _).trans (hb1.mono (by simp))⟩
  | true =>
    have hv : validT (.mk k n ks) = decide (sizes ks + 1 ≤ 400) := by simp [validT, hs, Tm.size]
    rw [hv]
    go_enter Try.func50, Try.ntmps50
    go_wp2_with (first | (go_at_call 96; refine (l1Shape_any 30 k n ks A c _ (by omega) (by omega) (hr.alloc _)).mono ?_; rintro e w1 ⟨rfl, hb1⟩; obtain ⟨hc, hf⟩ := bcell hb1) | (go_at_call 97; refine (l1Count_any (sizes ks + 1) k n ks A c 400 _ (by omega) (by omega) (by omega) (by omega) ((hr.alloc _).below hb1)).mono ?_; rintro e w2 ⟨r, rfl, ⟨hr1, hr2, hr3⟩, hb2⟩; have hr3' := hide hr3; clear hr3))
    go_ret
    have h3 := hr3'.out
    exact ⟨ret_bool (by rw [decide_eq_decide]; omega), ((Below.refl _ _).alloc (Nat.le_refl _) _).trans ((hb1.trans (hb2.mono hb1.size)).mono (by simp))⟩
end Go.Proofs.Ytefifcmieicnlaa
