/-
  markTerm, heldTerm of the laws, upon markTermS. No condition.
-/
import Derived.Test.YtefifcmieicnlaaMark
namespace Go.Proofs.Ytefifcmieicnlaa
open Go.RowKit
set_option linter.unusedSimpArgs false
set_option linter.unusedVariables false

set_option maxHeartbeats 1000000 in
set_option maxRecDepth 100000 in
theorem markTerm_any (k n : Int) (ks : List Tm) (A : Option Addr) (c : Nat) (fp : List Nat) (m : Int) (w : World) (hM : sizes ks ≤ 1099511627776) (hm0 : 0 ≤ m) (hm1 : m + 2 * sizes ks ≤ 4398046511104) (hO : Ow w A ks fp) (hn : fp.Nodup) :
    Calls Try.prog 30 #[.agg #[.int .i64 k, .int .i64 n, .slice A ks.length c], .int .i64 m] w (MarkPost w A ks fp m) := by
  have hO' : ∀ o : Obj, Ow (w.alloc o) A ks fp := fun o => hO.frame fun b hb => Below.heap_alloc w o b (hO.lt b hb)
  go_enter Try.func30, Try.ntmps30
  go_wp2_with (go_at_call 31; refine (markTermS_any (sizes ks + 1) ks A c fp m _ (by omega) hM hm0 hm1 (hO' _) hn).mono ?_; rintro e w1 ⟨rfl, h1, h2⟩)
  go_ret
  exact ⟨rfl, h1, h2.allocd⟩

mutual
/-- reading marks: what is left, or -1 -/
def held : Int → List Tm → Bool
  | _, [] => true
  | m, t :: ts => heldT m t && held (m + 2 * t.size) ts
def heldT : Int → Tm → Bool | m, .mk k n ks => k == m && n == m + 1 && held (m + 2) ks
end
theorem held_mark : (∀ t m, heldT m (markT m t) = true) ∧ (∀ ts m, held m (markL m ts) = true) := by
  refine Tm.ind2 (fun k n ks ih m => ?_) (fun m => by simp [markL, held]) (fun t ts h1 h2 m => ?_)
  · rw [markT, heldT, ih]; simp
  · rw [markL, held, h1, mark_sizes.1, h2]; rfl
theorem held_append : ∀ (ts us : List Tm) (m : Int), held m (ts ++ us) = (held m ts && held (m + 2 * sizes ts) us)
  | [], us, m => by simp [held, sizes]
  | t :: ts, us, m => by
    rw [List.cons_append, held, held, held_append ts us, sizes, Bool.and_assoc]
    congr 3
    push_cast
    omega

set_option maxHeartbeats 2000000 in
set_option maxRecDepth 100000 in
/-- where the marks are there -/
theorem heldTermS_any (N : Nat) : ∀ (ks : List Tm) (A : Option Addr) (c : Nat) (m : Int) (w : World), sizes ks < N → sizes ks ≤ 1099511627776 → 0 ≤ m → m + 2 * sizes ks ≤ 4398046511104 → Rd w A 0 ks → held m ks = true →
    Calls Try.prog 42 #[.slice A ks.length c, .int .i64 m] w fun e w' => e = .returned (.int .i64 (m + 2 * sizes ks)) ∧ w = w' := by
  induction N with
  | zero => intro ks A c m w hN; exact absurd hN (Nat.not_lt_zero _)
  | succ N ih =>
  intro ks A c m w hN hM hm0 hm1 hr hh
  have hlen := length_le_sizes ks
  have hh' := hide hh
  clear hh
  go_enter Try.func42, Try.ntmps42
  go_wp2_with fail
  go_loopw [1, 5] (fun mv i wr => ∃ (j : Nat), j ≤ ks.length ∧ i = .int .i64 j ∧ mv = .int .i64 (m + 2 * sizes (ks.take j)) ∧ w = wr) (fun _ i _ => ks.length - (intOf i).toNat)
  case atStart => exact ⟨0, Nat.zero_le _, rfl, by simp [sizes], rfl⟩
  case round =>
    obtain ⟨j, hj, rfl, rfl, rfl⟩ := hrel
    have hsl := sizes_take_le ks j
    by_cases hlt : j < ks.length
    · obtain ⟨b, off, k', n', ks', A', c', rfl, hkj, hc1, hc2, hc3, hl', hr'⟩ := hr.at_ hlt
      have hst := sizes_take ks j hlt
      have hsl2 := sizes_take_le ks (j + 1)
      have hht : held m (ks.take (j + 1)) = true := by
        have := hh'.out
        rw [← List.take_append_drop (j + 1) ks, held_append, Bool.and_eq_true] at this
        exact this.1
      rw [List.take_succ_eq_append_getElem hlt, held_append, Bool.and_eq_true, held, Bool.and_eq_true, hkj, heldT, Bool.and_eq_true, Bool.and_eq_true, beq_iff_eq, beq_iff_eq] at hht
      obtain ⟨⟨⟨hk1, hn1⟩, hk2⟩, -⟩ := hht.2
      rw [hkj] at hst
      simp only [Tm.size] at hst
      subst hk1
      subst hn1
      have h8 := hide hst
      have h9 := hide hk2
      have hsz : sizes (ks.take j) + (sizes ks' + 1) ≤ sizes ks := by omega
      clear hkj hst hht hk2
      go_wp2_with (go_at_call 42; refine (ih ks' A' c' (m + 2 * sizes (ks.take j) + 1 + 1) _ (by omega) (by omega) (by omega) (by omega) hr' (by have := h9.out; rw [show m + 2 * (sizes (ks.take j) : Int) + 1 + 1 = m + 2 * sizes (ks.take j) + 2 from by omega]; exact this)).mono ?_; rintro e w3 ⟨rfl, rfl⟩)
      go_roundw
      case rel => exact ⟨j + 1, hlt, by go_num, by rw [h8.out]; push_cast; congr 1; omega, trivial⟩
      case measure => simp [intOf]; omega
    · have hjl : j = ks.length := by omega
      subst hjl
      go_wp2_with fail
      go_ret
      exact ⟨ret_int (by rw [List.take_length]), rfl⟩

set_option maxHeartbeats 1000000 in
set_option maxRecDepth 100000 in
theorem heldTerm_any (k n : Int) (ks : List Tm) (A : Option Addr) (c : Nat) (m : Int) (w : World) (hM : sizes ks ≤ 1099511627776) (hm0 : 0 ≤ m) (hm1 : m + 2 * sizes ks ≤ 4398046511104) (hr : Rd w A 0 ks) (hh : held m ks = true) :
    Calls Try.prog 32 #[.agg #[.int .i64 k, .int .i64 n, .slice A ks.length c], .int .i64 m] w fun e w' => e = .returned (.int .i64 (m + 2 * sizes ks)) ∧ Below w.heap.size w w' := by
  have hh' := hide hh
  clear hh
  go_enter Try.func32, Try.ntmps32
  go_wp2_with (go_at_call 42; refine (heldTermS_any (sizes ks + 1) ks A c m _ (by omega) hM hm0 hm1 (hr.alloc _) hh'.out).mono ?_; rintro e w1 ⟨rfl, rfl⟩)
  go_ret
  exact ⟨rfl, (Below.refl _ _).alloc (Nat.le_refl _) _⟩
end Go.Proofs.Ytefifcmieicnlaa
