/-
  Which rule a node is ready for: of both sides. No condition.
-/
import Derived.Test.YtefifcmieicnlaaShape
namespace Go.Proofs.Ytefifcmieicnlaa
open Go.RowKit
set_option linter.unusedSimpArgs false
set_option linter.unusedVariables false

theorem k_ne {k m : Int} (h : ¬ k = m) : (k == m) = false := by simpa using h
/-- the kind of the operand at a place -/
def kat (ks : List Tm) (i : Nat) : Int := (ks.getD i default).k
theorem rdx_at (i : Nat) (ks : List Tm) (h : i < ks.length) {k n : Int} {ls : List Tm} (e : ks[i] = .mk k n ls) : kat ks i = k := by
  simp [kat, List.getD, List.getElem?_eq_getElem h, e, Tm.k]
/-- which rule a node is ready for -/
def rdx (k : Int) (ks : List Tm) : Int :=
  if k = 5 then (if kat ks 0 = 4 then 1 else 0) else if k = 9 then (if kat ks 3 = 7 then 2 else if kat ks 3 = 8 then 3 else 0) else
    if k = 12 then (if kat ks 1 = 11 then 4 else 0) else if k = 15 then (if kat ks 0 = 14 then 5 else 0) else if k = 16 then (if kat ks 0 = 14 then 6 else 0) else 0
theorem rdx_no {k : Int} (ks : List Tm) (h : ¬ (k = 5 ∨ k = 9 ∨ k = 12 ∨ k = 15 ∨ k = 16)) : rdx k ks = 0 := by
  unfold rdx; repeat rw [if_neg (by omega)]

set_option maxRecDepth 100000 in
set_option maxHeartbeats 2000000 in
theorem sRedex_any (k n : Int) (ks : List Tm) (A : Option Addr) (c : Nat) (w : World) (hl : ks.length ≤ 9223372036854775807) (ha : arity k = (ks.length : Int)) (hr : Rd w A 0 ks) :
    Calls Try.prog 135 #[.agg #[.int .i64 k, .int .i64 n, .slice A ks.length c]] w fun e w' => e = .returned (.int .i64 (rdx k ks)) ∧ Below w.heap.size w w' := by
  by_cases hk : k = 5 ∨ k = 9 ∨ k = 12 ∨ k = 15 ∨ k = 16
  · rcases hk with rfl | rfl | rfl | rfl | rfl
    · have hlen : ks.length = 2 := by have : arity 5 = 2 := rfl; omega
      obtain ⟨b, off, k1, n1, ks1, A1, c1, rfl, hkj, hc1, hc2, hc3, hl1, hr1⟩ := hr.at_ (j := 0) (by omega)
      have hx := rdx_at 0 ks (by omega) hkj
      have hbl := World.block_lt_of_cell? _ _ hc1
      clear hkj hc2 hc3
      rw [hlen]
      simp only [Nat.reduceMul, Nat.zero_mul, Nat.add_zero] at hc1
      by_cases h4 : k1 = 4
      · subst h4
        go_enter Try.func135, Try.ntmps135
        go_wp2_with fail
        go_ret
        exact ⟨ret_int (by rw [rdx]; simp [hx, *]), (Below.refl _ _).alloc (Nat.le_refl _) _⟩
      · have n4 := k_ne h4
        go_enter Try.func135, Try.ntmps135
        go_wp2_with fail
        go_ret
        exact ⟨ret_int (by rw [rdx]; simp [hx, *]), (Below.refl _ _).alloc (Nat.le_refl _) _⟩
    · have hlen : ks.length = 4 := by have : arity 9 = 4 := rfl; omega
      obtain ⟨b, off, k1, n1, ks1, A1, c1, rfl, hkj, hc1, hc2, hc3, hl1, hr1⟩ := hr.at_ (j := 3) (by omega)
      have hx := rdx_at 3 ks (by omega) hkj
      have hbl := World.block_lt_of_cell? _ _ hc1
      clear hkj hc2 hc3
      rw [hlen]
      simp only [Nat.reduceMul, Nat.zero_mul, Nat.add_zero] at hc1
      by_cases h7 : k1 = 7
      · subst h7
        go_enter Try.func135, Try.ntmps135
        go_wp2_with fail
        go_ret
        exact ⟨ret_int (by rw [rdx]; simp [hx, *]), (Below.refl _ _).alloc (Nat.le_refl _) _⟩
      · have n7 := k_ne h7
        by_cases h8 : k1 = 8
        · subst h8
          go_enter Try.func135, Try.ntmps135
          go_wp2_with fail
          go_ret
          exact ⟨ret_int (by rw [rdx]; simp [hx, *]), (Below.refl _ _).alloc (Nat.le_refl _) _⟩
        · have n8 := k_ne h8
          go_enter Try.func135, Try.ntmps135
          go_wp2_with fail
          go_ret
          exact ⟨ret_int (by rw [rdx]; simp [hx, *]), (Below.refl _ _).alloc (Nat.le_refl _) _⟩
    · have hlen : ks.length = 3 := by have : arity 12 = 3 := rfl; omega
      obtain ⟨b, off, k1, n1, ks1, A1, c1, rfl, hkj, hc1, hc2, hc3, hl1, hr1⟩ := hr.at_ (j := 1) (by omega)
      have hx := rdx_at 1 ks (by omega) hkj
      have hbl := World.block_lt_of_cell? _ _ hc1
      clear hkj hc2 hc3
      rw [hlen]
      simp only [Nat.reduceMul, Nat.zero_mul, Nat.add_zero] at hc1
      by_cases h11 : k1 = 11
      · subst h11
        go_enter Try.func135, Try.ntmps135
        go_wp2_with fail
        go_ret
        exact ⟨ret_int (by rw [rdx]; simp [hx, *]), (Below.refl _ _).alloc (Nat.le_refl _) _⟩
      · have n11 := k_ne h11
        go_enter Try.func135, Try.ntmps135
        go_wp2_with fail
        go_ret
        exact ⟨ret_int (by rw [rdx]; simp [hx, *]), (Below.refl _ _).alloc (Nat.le_refl _) _⟩
    · have hlen : ks.length = 1 := by have : arity 15 = 1 := rfl; omega
      obtain ⟨b, off, k1, n1, ks1, A1, c1, rfl, hkj, hc1, hc2, hc3, hl1, hr1⟩ := hr.at_ (j := 0) (by omega)
      have hx := rdx_at 0 ks (by omega) hkj
      have hbl := World.block_lt_of_cell? _ _ hc1
      clear hkj hc2 hc3
      rw [hlen]
      simp only [Nat.reduceMul, Nat.zero_mul, Nat.add_zero] at hc1
      by_cases h14 : k1 = 14
      · subst h14
        go_enter Try.func135, Try.ntmps135
        go_wp2_with fail
        go_ret
        exact ⟨ret_int (by rw [rdx]; simp [hx, *]), (Below.refl _ _).alloc (Nat.le_refl _) _⟩
      · have n14 := k_ne h14
        go_enter Try.func135, Try.ntmps135
        go_wp2_with fail
        go_ret
        exact ⟨ret_int (by rw [rdx]; simp [hx, *]), (Below.refl _ _).alloc (Nat.le_refl _) _⟩
    · have hlen : ks.length = 1 := by have : arity 16 = 1 := rfl; omega
      obtain ⟨b, off, k1, n1, ks1, A1, c1, rfl, hkj, hc1, hc2, hc3, hl1, hr1⟩ := hr.at_ (j := 0) (by omega)
      have hx := rdx_at 0 ks (by omega) hkj
      have hbl := World.block_lt_of_cell? _ _ hc1
      clear hkj hc2 hc3
      rw [hlen]
      simp only [Nat.reduceMul, Nat.zero_mul, Nat.add_zero] at hc1
      by_cases h14 : k1 = 14
      · subst h14
        go_enter Try.func135, Try.ntmps135
        go_wp2_with fail
        go_ret
        exact ⟨ret_int (by rw [rdx]; simp [hx, *]), (Below.refl _ _).alloc (Nat.le_refl _) _⟩
      · have n14 := k_ne h14
        go_enter Try.func135, Try.ntmps135
        go_wp2_with fail
        go_ret
        exact ⟨ret_int (by rw [rdx]; simp [hx, *]), (Below.refl _ _).alloc (Nat.le_refl _) _⟩
  · have H := hide hk
    have h0 : rdx k ks = 0 := rdx_no ks hk
    have n5 := k_ne (k := k) (m := 5) (by omega)
    have n9 := k_ne (k := k) (m := 9) (by omega)
    have n12 := k_ne (k := k) (m := 12) (by omega)
    have n15 := k_ne (k := k) (m := 15) (by omega)
    have n16 := k_ne (k := k) (m := 16) (by omega)
    clear hk
    rw [h0]
    go_enter Try.func135, Try.ntmps135
    go_wp2_with fail
    go_ret
    exact ⟨rfl, (Below.refl _ _).alloc (Nat.le_refl _) _⟩

set_option maxRecDepth 100000 in
set_option maxHeartbeats 2000000 in
theorem iRedex_any (k n : Int) (ks : List Tm) (A : Option Addr) (c : Nat) (w : World) (hl : ks.length ≤ 9223372036854775807) (ha : arity k = (ks.length : Int)) (hr : Rd w A 0 ks) :
    Calls Try.prog 136 #[.agg #[.int .i64 k, .int .i64 n, .slice A ks.length c]] w fun e w' => e = .returned (.int .i64 (rdx k ks)) ∧ Below w.heap.size w w' := by
  by_cases hk : k = 5 ∨ k = 9 ∨ k = 12 ∨ k = 15 ∨ k = 16
  · rcases hk with rfl | rfl | rfl | rfl | rfl
    · have hlen : ks.length = 2 := by have : arity 5 = 2 := rfl; omega
      obtain ⟨b, off, k1, n1, ks1, A1, c1, rfl, hkj, hc1, hc2, hc3, hl1, hr1⟩ := hr.at_ (j := 0) (by omega)
      have hx := rdx_at 0 ks (by omega) hkj
      have hbl := World.block_lt_of_cell? _ _ hc1
      clear hkj hc2 hc3
      rw [hlen]
      simp only [Nat.reduceMul, Nat.zero_mul, Nat.add_zero] at hc1
      by_cases h4 : k1 = 4
      · subst h4
        go_enter Try.func136, Try.ntmps136
        go_wp2_with fail
        go_ret
        exact ⟨ret_int (by rw [rdx]; simp [hx, *]), (Below.refl _ _).alloc (Nat.le_refl _) _⟩
      · have n4 := k_ne h4
        go_enter Try.func136, Try.ntmps136
        go_wp2_with fail
        go_ret
        exact ⟨ret_int (by rw [rdx]; simp [hx, *]), (Below.refl _ _).alloc (Nat.le_refl _) _⟩
    · have hlen : ks.length = 4 := by have : arity 9 = 4 := rfl; omega
      obtain ⟨b, off, k1, n1, ks1, A1, c1, rfl, hkj, hc1, hc2, hc3, hl1, hr1⟩ := hr.at_ (j := 3) (by omega)
      have hx := rdx_at 3 ks (by omega) hkj
      have hbl := World.block_lt_of_cell? _ _ hc1
      clear hkj hc2 hc3
      rw [hlen]
      simp only [Nat.reduceMul, Nat.zero_mul, Nat.add_zero] at hc1
      by_cases h7 : k1 = 7
      · subst h7
        go_enter Try.func136, Try.ntmps136
        go_wp2_with fail
        go_ret
        exact ⟨ret_int (by rw [rdx]; simp [hx, *]), (Below.refl _ _).alloc (Nat.le_refl _) _⟩
      · have n7 := k_ne h7
        by_cases h8 : k1 = 8
        · subst h8
          go_enter Try.func136, Try.ntmps136
          go_wp2_with fail
          go_ret
          exact ⟨ret_int (by rw [rdx]; simp [hx, *]), (Below.refl _ _).alloc (Nat.le_refl _) _⟩
        · have n8 := k_ne h8
          go_enter Try.func136, Try.ntmps136
          go_wp2_with fail
          go_ret
          exact ⟨ret_int (by rw [rdx]; simp [hx, *]), (Below.refl _ _).alloc (Nat.le_refl _) _⟩
    · have hlen : ks.length = 3 := by have : arity 12 = 3 := rfl; omega
      obtain ⟨b, off, k1, n1, ks1, A1, c1, rfl, hkj, hc1, hc2, hc3, hl1, hr1⟩ := hr.at_ (j := 1) (by omega)
      have hx := rdx_at 1 ks (by omega) hkj
      have hbl := World.block_lt_of_cell? _ _ hc1
      clear hkj hc2 hc3
      rw [hlen]
      simp only [Nat.reduceMul, Nat.zero_mul, Nat.add_zero] at hc1
      by_cases h11 : k1 = 11
      · subst h11
        go_enter Try.func136, Try.ntmps136
        go_wp2_with fail
        go_ret
        exact ⟨ret_int (by rw [rdx]; simp [hx, *]), (Below.refl _ _).alloc (Nat.le_refl _) _⟩
      · have n11 := k_ne h11
        go_enter Try.func136, Try.ntmps136
        go_wp2_with fail
        go_ret
        exact ⟨ret_int (by rw [rdx]; simp [hx, *]), (Below.refl _ _).alloc (Nat.le_refl _) _⟩
    · have hlen : ks.length = 1 := by have : arity 15 = 1 := rfl; omega
      obtain ⟨b, off, k1, n1, ks1, A1, c1, rfl, hkj, hc1, hc2, hc3, hl1, hr1⟩ := hr.at_ (j := 0) (by omega)
      have hx := rdx_at 0 ks (by omega) hkj
      have hbl := World.block_lt_of_cell? _ _ hc1
      clear hkj hc2 hc3
      rw [hlen]
      simp only [Nat.reduceMul, Nat.zero_mul, Nat.add_zero] at hc1
      by_cases h14 : k1 = 14
      · subst h14
        go_enter Try.func136, Try.ntmps136
        go_wp2_with fail
        go_ret
        exact ⟨ret_int (by rw [rdx]; simp [hx, *]), (Below.refl _ _).alloc (Nat.le_refl _) _⟩
      · have n14 := k_ne h14
        go_enter Try.func136, Try.ntmps136
        go_wp2_with fail
        go_ret
        exact ⟨ret_int (by rw [rdx]; simp [hx, *]), (Below.refl _ _).alloc (Nat.le_refl _) _⟩
    · have hlen : ks.length = 1 := by have : arity 16 = 1 := rfl; omega
      obtain ⟨b, off, k1, n1, ks1, A1, c1, rfl, hkj, hc1, hc2, hc3, hl1, hr1⟩ := hr.at_ (j := 0) (by omega)
      have hx := rdx_at 0 ks (by omega) hkj
      have hbl := World.block_lt_of_cell? _ _ hc1
      clear hkj hc2 hc3
      rw [hlen]
      simp only [Nat.reduceMul, Nat.zero_mul, Nat.add_zero] at hc1
      by_cases h14 : k1 = 14
      · subst h14
        go_enter Try.func136, Try.ntmps136
        go_wp2_with fail
        go_ret
        exact ⟨ret_int (by rw [rdx]; simp [hx, *]), (Below.refl _ _).alloc (Nat.le_refl _) _⟩
      · have n14 := k_ne h14
        go_enter Try.func136, Try.ntmps136
        go_wp2_with fail
        go_ret
        exact ⟨ret_int (by rw [rdx]; simp [hx, *]), (Below.refl _ _).alloc (Nat.le_refl _) _⟩
  · have H := hide hk
    have h0 : rdx k ks = 0 := rdx_no ks hk
    have n5 := k_ne (k := k) (m := 5) (by omega)
    have n9 := k_ne (k := k) (m := 9) (by omega)
    have n12 := k_ne (k := k) (m := 12) (by omega)
    have n15 := k_ne (k := k) (m := 15) (by omega)
    have n16 := k_ne (k := k) (m := 16) (by omega)
    clear hk
    rw [h0]
    go_enter Try.func136, Try.ntmps136
    go_wp2_with fail
    go_ret
    exact ⟨rfl, (Below.refl _ _).alloc (Nat.le_refl _) _⟩
end Go.Proofs.Ytefifcmieicnlaa
