/-
  Texts that are common to the laws: Redex, Norm, Outer, Shift, Shift2, Fill, Fill2, Cont, FillT. No condition.
-/
import Derived.Test.YtodkenpmhhbppaaK1
import Derived.Test.YtodkenpmhhbppaaK2
import Derived.Maps.AppendAt
import Derived.OwnWalk

namespace Go.Proofs.Ytodkenpmhhbppaa
open Go.RowKit
set_option linter.unusedSimpArgs false
set_option linter.unusedVariables false

theorem k_ne {k m : Int} (h : ¬ k = m) : (k == m) = false := by simpa using h
/-- the kind of the operand at a place -/
def kat (ks : List Tm) (i : Nat) : Int := (ks.getD i default).k
theorem rdx_at (i : Nat) (ks : List Tm) (h : i < ks.length) {k n : Int} {ls : List Tm} (e : ks[i] = .mk k n ls) : kat ks i = k := by
  simp [kat, List.getD, List.getElem?_eq_getElem h, e, Tm.k]
/-- which rule a node is ready for -/
def rdx (k : Int) (ks : List Tm) : Int :=
  if k = 5 then (if kat ks 0 = 4 then 1 else 0) else if k = 9 then (if kat ks 3 = 7 then 2 else if kat ks 3 = 8 then 3 else 0) else
    if k = 12 then (if kat ks 1 = 11 then 4 else 0) else if k = 15 then (if kat ks 0 = 14 then 5 else 0) else if k = 16 then (if kat ks 0 = 14 then 6 else 0) else 0
theorem rdx_no {k : Int} (ks : List Tm) (h : ¬ (k = 5 ∨ k = 9 ∨ k = 12 ∨ k = 15 ∨ k = 16)) : rdx k ks = 0 := by
  unfold rdx; repeat rw [if_neg (by omega)]

set_option maxRecDepth 100000 in
set_option maxHeartbeats 2000000 in
theorem sRedex_any (k n : Int) (ks : List Tm) (A : Option Addr) (c : Nat) (w : World) (hl : ks.length ≤ 9223372036854775807) (ha : arity k = (ks.length : Int)) (hr : Rd w A 0 ks) :
    Calls Try.prog 144 #[.agg #[.int .i64 k, .int .i64 n, .slice A ks.length c]] w fun e w' => e = .returned (.int .i64 (rdx k ks)) ∧ Below w.heap.size w w' := by
  by_cases hk : k = 5 ∨ k = 9 ∨ k = 12 ∨ k = 15 ∨ k = 16
  · rcases hk with rfl | rfl | rfl | rfl | rfl
    · have hlen : ks.length = 2 := by have : arity 5 = 2 := rfl; omega
      obtain ⟨b, off, k1, n1, ks1, A1, c1, rfl, hkj, hc1, hc2, hc3, hl1, hr1⟩ := hr.at_ (j := 0) (by omega)
      have hx := rdx_at 0 ks (by omega) hkj
      have hbl := World.block_lt_of_cell? _ _ hc1
      clear hkj hc2 hc3
      rw [hlen]
      simp only [Nat.reduceMul, Nat.zero_mul, Nat.add_zero] at hc1
      by_cases h4 : k1 = 4
      · subst h4
        go_enter Try.func144, Try.ntmps144
        go_wp2_with fail
        go_ret
        exact ⟨ret_int (by rw [rdx]; simp [hx, *]), (Below.refl _ _).alloc (Nat.le_refl _) _⟩
      · have n4 := k_ne h4
        go_enter Try.func144, Try.ntmps144
        go_wp2_with fail
        go_ret
        exact ⟨ret_int (by rw [rdx]; simp [hx, *]), (Below.refl _ _).alloc (Nat.le_refl _) _⟩
    · have hlen : ks.length = 4 := by have : arity 9 = 4 := rfl; omega
      obtain ⟨b, off, k1, n1, ks1, A1, c1, rfl, hkj, hc1, hc2, hc3, hl1, hr1⟩ := hr.at_ (j := 3) (by omega)
      have hx := rdx_at 3 ks (by omega) hkj
      have hbl := World.block_lt_of_cell? _ _ hc1
      clear hkj hc2 hc3
      rw [hlen]
      simp only [Nat.reduceMul, Nat.zero_mul, Nat.add_zero] at hc1
      by_cases h7 : k1 = 7
      · subst h7
        go_enter Try.func144, Try.ntmps144
        go_wp2_with fail
        go_ret
        exact ⟨ret_int (by rw [rdx]; simp [hx, *]), (Below.refl _ _).alloc (Nat.le_refl _) _⟩
      · have n7 := k_ne h7
        by_cases h8 : k1 = 8
        · subst h8
          go_enter Try.func144, Try.ntmps144
          go_wp2_with fail
          go_ret
          exact ⟨ret_int (by rw [rdx]; simp [hx, *]), (Below.refl _ _).alloc (Nat.le_refl _) _⟩
        · have n8 := k_ne h8
          go_enter Try.func144, Try.ntmps144
          go_wp2_with fail
          go_ret
          exact ⟨ret_int (by rw [rdx]; simp [hx, *]), (Below.refl _ _).alloc (Nat.le_refl _) _⟩
    · have hlen : ks.length = 3 := by have : arity 12 = 3 := rfl; omega
      obtain ⟨b, off, k1, n1, ks1, A1, c1, rfl, hkj, hc1, hc2, hc3, hl1, hr1⟩ := hr.at_ (j := 1) (by omega)
      have hx := rdx_at 1 ks (by omega) hkj
      have hbl := World.block_lt_of_cell? _ _ hc1
      clear hkj hc2 hc3
      rw [hlen]
      simp only [Nat.reduceMul, Nat.zero_mul, Nat.add_zero] at hc1
      by_cases h11 : k1 = 11
      · subst h11
        go_enter Try.func144, Try.ntmps144
        go_wp2_with fail
        go_ret
        exact ⟨ret_int (by rw [rdx]; simp [hx, *]), (Below.refl _ _).alloc (Nat.le_refl _) _⟩
      · have n11 := k_ne h11
        go_enter Try.func144, Try.ntmps144
        go_wp2_with fail
        go_ret
        exact ⟨ret_int (by rw [rdx]; simp [hx, *]), (Below.refl _ _).alloc (Nat.le_refl _) _⟩
    · have hlen : ks.length = 1 := by have : arity 15 = 1 := rfl; omega
      obtain ⟨b, off, k1, n1, ks1, A1, c1, rfl, hkj, hc1, hc2, hc3, hl1, hr1⟩ := hr.at_ (j := 0) (by omega)
      have hx := rdx_at 0 ks (by omega) hkj
      have hbl := World.block_lt_of_cell? _ _ hc1
      clear hkj hc2 hc3
      rw [hlen]
      simp only [Nat.reduceMul, Nat.zero_mul, Nat.add_zero] at hc1
      by_cases h14 : k1 = 14
      · subst h14
        go_enter Try.func144, Try.ntmps144
        go_wp2_with fail
        go_ret
        exact ⟨ret_int (by rw [rdx]; simp [hx, *]), (Below.refl _ _).alloc (Nat.le_refl _) _⟩
      · have n14 := k_ne h14
        go_enter Try.func144, Try.ntmps144
        go_wp2_with fail
        go_ret
        exact ⟨ret_int (by rw [rdx]; simp [hx, *]), (Below.refl _ _).alloc (Nat.le_refl _) _⟩
    · have hlen : ks.length = 1 := by have : arity 16 = 1 := rfl; omega
      obtain ⟨b, off, k1, n1, ks1, A1, c1, rfl, hkj, hc1, hc2, hc3, hl1, hr1⟩ := hr.at_ (j := 0) (by omega)
      have hx := rdx_at 0 ks (by omega) hkj
      have hbl := World.block_lt_of_cell? _ _ hc1
      clear hkj hc2 hc3
      rw [hlen]
      simp only [Nat.reduceMul, Nat.zero_mul, Nat.add_zero] at hc1
      by_cases h14 : k1 = 14
      · subst h14
        go_enter Try.func144, Try.ntmps144
        go_wp2_with fail
        go_ret
        exact ⟨ret_int (by rw [rdx]; simp [hx, *]), (Below.refl _ _).alloc (Nat.le_refl _) _⟩
      · have n14 := k_ne h14
        go_enter Try.func144, Try.ntmps144
        go_wp2_with fail
        go_ret
        exact ⟨ret_int (by rw [rdx]; simp [hx, *]), (Below.refl _ _).alloc (Nat.le_refl _) _⟩
  · have H := hide hk
    have h0 : rdx k ks = 0 := rdx_no ks hk
    have n5 := k_ne (k := k) (m := 5) (by omega)
    have n9 := k_ne (k := k) (m := 9) (by omega)
    have n12 := k_ne (k := k) (m := 12) (by omega)
    have n15 := k_ne (k := k) (m := 15) (by omega)
    have n16 := k_ne (k := k) (m := 16) (by omega)
    clear hk
    rw [h0]
    go_enter Try.func144, Try.ntmps144
    go_wp2_with fail
    go_ret
    exact ⟨rfl, (Below.refl _ _).alloc (Nat.le_refl _) _⟩

set_option maxRecDepth 100000 in
set_option maxHeartbeats 2000000 in
theorem iRedex_any (k n : Int) (ks : List Tm) (A : Option Addr) (c : Nat) (w : World) (hl : ks.length ≤ 9223372036854775807) (ha : arity k = (ks.length : Int)) (hr : Rd w A 0 ks) :
    Calls Try.prog 114 #[.agg #[.int .i64 k, .int .i64 n, .slice A ks.length c]] w fun e w' => e = .returned (.int .i64 (rdx k ks)) ∧ Below w.heap.size w w' := by
  by_cases hk : k = 5 ∨ k = 9 ∨ k = 12 ∨ k = 15 ∨ k = 16
  · rcases hk with rfl | rfl | rfl | rfl | rfl
    · have hlen : ks.length = 2 := by have : arity 5 = 2 := rfl; omega
      obtain ⟨b, off, k1, n1, ks1, A1, c1, rfl, hkj, hc1, hc2, hc3, hl1, hr1⟩ := hr.at_ (j := 0) (by omega)
      have hx := rdx_at 0 ks (by omega) hkj
      have hbl := World.block_lt_of_cell? _ _ hc1
      clear hkj hc2 hc3
      rw [hlen]
      simp only [Nat.reduceMul, Nat.zero_mul, Nat.add_zero] at hc1
      by_cases h4 : k1 = 4
      · subst h4
        go_enter Try.func114, Try.ntmps114
        go_wp2_with fail
        go_ret
        exact ⟨ret_int (by rw [rdx]; simp [hx, *]), (Below.refl _ _).alloc (Nat.le_refl _) _⟩
      · have n4 := k_ne h4
        go_enter Try.func114, Try.ntmps114
        go_wp2_with fail
        go_ret
        exact ⟨ret_int (by rw [rdx]; simp [hx, *]), (Below.refl _ _).alloc (Nat.le_refl _) _⟩
    · have hlen : ks.length = 4 := by have : arity 9 = 4 := rfl; omega
      obtain ⟨b, off, k1, n1, ks1, A1, c1, rfl, hkj, hc1, hc2, hc3, hl1, hr1⟩ := hr.at_ (j := 3) (by omega)
      have hx := rdx_at 3 ks (by omega) hkj
      have hbl := World.block_lt_of_cell? _ _ hc1
      clear hkj hc2 hc3
      rw [hlen]
      simp only [Nat.reduceMul, Nat.zero_mul, Nat.add_zero] at hc1
      by_cases h7 : k1 = 7
      · subst h7
        go_enter Try.func114, Try.ntmps114
        go_wp2_with fail
        go_ret
        exact ⟨ret_int (by rw [rdx]; simp [hx, *]), (Below.refl _ _).alloc (Nat.le_refl _) _⟩
      · have n7 := k_ne h7
        by_cases h8 : k1 = 8
        · subst h8
          go_enter Try.func114, Try.ntmps114
          go_wp2_with fail
          go_ret
          exact ⟨ret_int (by rw [rdx]; simp [hx, *]), (Below.refl _ _).alloc (Nat.le_refl _) _⟩
        · have n8 := k_ne h8
          go_enter Try.func114, Try.ntmps114
          go_wp2_with fail
          go_ret
          exact ⟨ret_int (by rw [rdx]; simp [hx, *]), (Below.refl _ _).alloc (Nat.le_refl _) _⟩
    · have hlen : ks.length = 3 := by have : arity 12 = 3 := rfl; omega
      obtain ⟨b, off, k1, n1, ks1, A1, c1, rfl, hkj, hc1, hc2, hc3, hl1, hr1⟩ := hr.at_ (j := 1) (by omega)
      have hx := rdx_at 1 ks (by omega) hkj
      have hbl := World.block_lt_of_cell? _ _ hc1
      clear hkj hc2 hc3
      rw [hlen]
      simp only [Nat.reduceMul, Nat.zero_mul, Nat.add_zero] at hc1
      by_cases h11 : k1 = 11
      · subst h11
        go_enter Try.func114, Try.ntmps114
        go_wp2_with fail
        go_ret
        exact ⟨ret_int (by rw [rdx]; simp [hx, *]), (Below.refl _ _).alloc (Nat.le_refl _) _⟩
      · have n11 := k_ne h11
        go_enter Try.func114, Try.ntmps114
        go_wp2_with fail
        go_ret
        exact ⟨ret_int (by rw [rdx]; simp [hx, *]), (Below.refl _ _).alloc (Nat.le_refl _) _⟩
    · have hlen : ks.length = 1 := by have : arity 15 = 1 := rfl; omega
      obtain ⟨b, off, k1, n1, ks1, A1, c1, rfl, hkj, hc1, hc2, hc3, hl1, hr1⟩ := hr.at_ (j := 0) (by omega)
      have hx := rdx_at 0 ks (by omega) hkj
      have hbl := World.block_lt_of_cell? _ _ hc1
      clear hkj hc2 hc3
      rw [hlen]
      simp only [Nat.reduceMul, Nat.zero_mul, Nat.add_zero] at hc1
      by_cases h14 : k1 = 14
      · subst h14
        go_enter Try.func114, Try.ntmps114
        go_wp2_with fail
        go_ret
        exact ⟨ret_int (by rw [rdx]; simp [hx, *]), (Below.refl _ _).alloc (Nat.le_refl _) _⟩
      · have n14 := k_ne h14
        go_enter Try.func114, Try.ntmps114
        go_wp2_with fail
        go_ret
        exact ⟨ret_int (by rw [rdx]; simp [hx, *]), (Below.refl _ _).alloc (Nat.le_refl _) _⟩
    · have hlen : ks.length = 1 := by have : arity 16 = 1 := rfl; omega
      obtain ⟨b, off, k1, n1, ks1, A1, c1, rfl, hkj, hc1, hc2, hc3, hl1, hr1⟩ := hr.at_ (j := 0) (by omega)
      have hx := rdx_at 0 ks (by omega) hkj
      have hbl := World.block_lt_of_cell? _ _ hc1
      clear hkj hc2 hc3
      rw [hlen]
      simp only [Nat.reduceMul, Nat.zero_mul, Nat.add_zero] at hc1
      by_cases h14 : k1 = 14
      · subst h14
        go_enter Try.func114, Try.ntmps114
        go_wp2_with fail
        go_ret
        exact ⟨ret_int (by rw [rdx]; simp [hx, *]), (Below.refl _ _).alloc (Nat.le_refl _) _⟩
      · have n14 := k_ne h14
        go_enter Try.func114, Try.ntmps114
        go_wp2_with fail
        go_ret
        exact ⟨ret_int (by rw [rdx]; simp [hx, *]), (Below.refl _ _).alloc (Nat.le_refl _) _⟩
  · have H := hide hk
    have h0 : rdx k ks = 0 := rdx_no ks hk
    have n5 := k_ne (k := k) (m := 5) (by omega)
    have n9 := k_ne (k := k) (m := 9) (by omega)
    have n12 := k_ne (k := k) (m := 12) (by omega)
    have n15 := k_ne (k := k) (m := 15) (by omega)
    have n16 := k_ne (k := k) (m := 16) (by omega)
    clear hk
    rw [h0]
    go_enter Try.func114, Try.ntmps114
    go_wp2_with fail
    go_ret
    exact ⟨rfl, (Below.refl _ _).alloc (Nat.le_refl _) _⟩
end Go.Proofs.Ytodkenpmhhbppaa

namespace Go.Proofs.Ytodkenpmhhbppaa
open Go.RowKit
set_option linter.unusedSimpArgs false
set_option linter.unusedVariables false

mutual
/-- no rule applies anywhere -/
def nrm : Tm → Bool | .mk k _ ks => nrms ks && (rdx k ks == 0)
def nrms : List Tm → Bool | [] => true | t :: ts => nrm t && nrms ts
end
theorem nrms_iff : ∀ ks : List Tm, nrms ks = true ↔ ∀ t, t ∈ ks → nrm t = true
  | [] => by simp [nrms]
  | t :: ts => by rw [nrms, Bool.and_eq_true, nrms_iff ts]; simp
theorem nrm_kid_no {k n : Int} {ks : List Tm} {j : Nat} (hj : j < ks.length) (h : nrm ks[j] = false) : nrm (.mk k n ks) = false := by
  rw [nrm, Bool.and_eq_false_iff]
  left
  cases e : nrms ks with
  | false => rfl
  | true => have := (nrms_iff ks).1 e _ (List.getElem_mem hj); rw [h] at this; exact absurd this (by simp)
theorem nrm_of {k n : Int} {ks : List Tm} (h : ∀ t, t ∈ ks → nrm t = true) : nrm (.mk k n ks) = (rdx k ks == 0) := by
  rw [nrm, (nrms_iff ks).2 h, Bool.true_and]

set_option maxRecDepth 100000 in
set_option maxHeartbeats 2000000 in
theorem sIsNormal_any (N : Nat) : ∀ (d : Nat) (k n : Int) (ks : List Tm) (A : Option Addr) (c : Nat) (w : World), sizes ks < N → shape d (.mk k n ks) = true → sizes ks ≤ 1099511627775 → Rd w A 0 ks →
    Calls Try.prog 111 #[.agg #[.int .i64 k, .int .i64 n, .slice A ks.length c]] w fun e w' => e = .returned (.bool (nrm (.mk k n ks))) ∧ Below w.heap.size w w' := by
  induction N with
  | zero => intro d k n ks A c w hN; exact absurd hN (Nat.not_lt_zero _)
  | succ N ih =>
  intro d k n ks A c w hN hsh hM hr
  have hlen := length_le_sizes ks
  obtain ⟨d, rfl⟩ : ∃ d', d = d' + 1 := by cases d with | zero => simp [shape] at hsh | succ d => exact ⟨d, rfl⟩
  obtain ⟨ha, hm1, hm2, hkids⟩ := (shape_split d k n ks).1 hsh
  have hkids := hide hkids
  have ha' := hide ha
  clear ha hm1 hm2 hsh
  go_enter Try.func111, Try.ntmps111
  go_wp2_with fail
  go_loopw [3] (fun i wr => ∃ j : Nat, j ≤ ks.length ∧ i = .int .i64 j ∧ Hid (∀ t, t ∈ ks.take j → nrm t = true) ∧ Blk wr w.heap.size #[.int .i64 k, .int .i64 n, .slice A ks.length c] ∧ Below w.heap.size w wr)
    (fun i _ => ks.length - (intOf i).toNat)
  case atStart => exact ⟨0, Nat.zero_le _, rfl, hide (by simp), Blk.new_ _ _ _ (by simp), (Below.refl _ _).alloc (Nat.le_refl _) _⟩
  case round =>
    obtain ⟨j, hj, rfl, hall, hB, hb⟩ := hrel
    have c0 := hB.at_ (i := 0) rfl
    have c1' := hB.at_ (i := 1) rfl
    have c2 := hB.at_ (i := 2) rfl
    by_cases hlt : j < ks.length
    · obtain ⟨b, off, k1, n1, ks1, A1, c1, rfl, hkj, hc1, hc2, hc3, hl1, hr1⟩ := (hr.below hb).at_ hlt
      have hsz := sizes_le (List.getElem_mem hlt)
      have hs1 := hkids.out _ (List.getElem_mem hlt)
      rw [hkj] at hsz hs1
      simp only [Tm.size] at hsz
      have H3 := hide hkj
      have H4 := hide hs1
      clear hkj hs1
      go_wp2_with (go_at_call 111; refine (ih d k1 n1 ks1 A1 c1 _ (by omega) H4.out (by omega) hr1).mono ?_; rintro e w3 ⟨rfl, hb3⟩)
      · rename_i hbx
        go_ret
        refine ⟨ret_bool ?_, hb.trans (hb3.mono hb.size)⟩
        have : nrm (.mk k1 n1 ks1) = false := by simpa using hbx
        exact (nrm_kid_no hlt (by rw [H3.out]; exact this)).symm
      · rename_i hbx
        have hn1 : nrm (.mk k1 n1 ks1) = true := by simpa using hbx
        go_roundw
        case rel => exact ⟨j + 1, hlt, by go_num, hide (all_take hlt hall.out (by rw [H3.out]; exact hn1)), hB.keep hb3, hb.trans (hb3.mono hb.size)⟩
        case measure => simp [intOf]; omega
    · have hje : j = ks.length := by omega
      go_wp2_with (go_at_call 144; refine (sRedex_any k n ks A c _ (by omega) ha'.out (hr.below hb)).mono ?_; rintro e w3 ⟨rfl, hb3⟩)
      go_ret
      refine ⟨ret_bool ?_, hb.trans (hb3.mono hb.size)⟩
      have ha := hall.out
      rw [hje, List.take_length] at ha
      exact (nrm_of ha).symm

set_option maxRecDepth 100000 in
set_option maxHeartbeats 1000000 in
theorem sNormalTerm_any (k n : Int) (ks : List Tm) (A : Option Addr) (c : Nat) (w : World) (hM : sizes ks ≤ 1099511627775) (hr : Rd w A 0 ks) :
    Calls Try.prog 67 #[.agg #[.int .i64 k, .int .i64 n, .slice A ks.length c]] w fun e w' => e = .returned (.bool (validT (.mk k n ks) && nrm (.mk k n ks))) ∧ Below w.heap.size w w' := by
  cases hv : validT (.mk k n ks) with
  | false =>
    rw [Bool.false_and]
    go_enter Try.func67, Try.ntmps67
    go_wp2_with (go_at_call 60; refine (sTermValid_any k n ks A c _ hM (hr.alloc _)).mono ?_; rw [hv]; rintro e w1 ⟨rfl, hb1⟩; obtain ⟨hc, hf⟩ := bcell hb1)
    go_ret
    exact ⟨rfl, ((Below.refl _ _).alloc (Nat.le_refl _) _).trans (hb1.mono (by simp))⟩
  | true =>
    have hs : shape 30 (.mk k n ks) = true := by simp only [validT, Bool.and_eq_true] at hv; exact hv.1
    rw [Bool.true_and]
    go_enter Try.func67, Try.ntmps67
    go_wp2_with (first | (go_at_call 60; refine (sTermValid_any k n ks A c _ hM (hr.alloc _)).mono ?_; rw [hv]; rintro e w1 ⟨rfl, hb1⟩; obtain ⟨hc, hf⟩ := bcell hb1) | (go_at_call 111; refine (sIsNormal_any (sizes ks + 1) 30 k n ks A c _ (by omega) hs hM ((hr.alloc _).below hb1)).mono ?_; rintro e w2 ⟨rfl, hb2⟩))
    go_ret
    exact ⟨rfl, ((Below.refl _ _).alloc (Nat.le_refl _) _).trans ((hb1.trans (hb2.mono hb1.size)).mono (by simp))⟩
end Go.Proofs.Ytodkenpmhhbppaa

namespace Go.Proofs.Ytodkenpmhhbppaa
open Go.RowKit
set_option linter.unusedSimpArgs false
set_option linter.unusedVariables false

/-- a path of numbers that memory holds -/
def Path (w : World) (A : Option Addr) (m : Nat) : Prop :=
  ∃ xs : List Int, xs.length = m ∧ (0 < m → ∃ b off, A = some ⟨b, off, none⟩ ∧ ∀ (i : Nat) (u : Value), (xs.map (Value.int .i64))[i]? = some u → w.cell? ⟨b, off + i, none⟩ = some u)
theorem Path.nil {w : World} {A : Option Addr} : Path w A 0 := ⟨[], rfl, fun h => absurd h (Nat.lt_irrefl _)⟩
theorem Path.alloc {w : World} {A : Option Addr} {m : Nat} (h : Path w A m) (o : Obj) : Path (w.alloc o) A m := by
  obtain ⟨xs, h1, h2⟩ := h
  refine ⟨xs, h1, fun hm => ?_⟩
  obtain ⟨b, off, h3, h4⟩ := h2 hm
  exact ⟨b, off, h3, fun i u hu => Keeps.alloc w o _ _ (h4 i u hu)⟩
theorem int_info : (Try.prog.info? 3).map (fun i => (i.zero, i.size, i.bytes)) = some (some (.int .i64 0), 1, 8) := by kernel_rfl

theorem run_append_path {w : World} {A : Option Addr} {m c : Nat} (h : Path w A m) (hm : m ≤ 1000) (x : Int) (ty : TypeId) :
    ∃ A' c' w', (Builtin.append_ #[73, 73] ty #[.slice (some ⟨w.heap.size, 0, none⟩) 1 1, .slice A m c]).run Try.prog (w.alloc (.cells #[.int .i64 x] 3)) = .ok (.slice A' (m + 1) c') w' ∧ Path w' A' (m + 1) ∧ Below w.heap.size w w' := by
  obtain ⟨i0, hi, hz0, hz1, hz2⟩ := info_parts int_info
  have hown : (w.alloc (.cells #[.int .i64 x] 3)).ownsRow w.heap.size 3 1 (.slice (some ⟨w.heap.size, 0, none⟩) 1 1) 1 [.int .i64 x] :=
    ⟨rfl, .inr ⟨w.heap.size, 1, #[.int .i64 x], rfl, Nat.le_refl _, heap_alloc_new w _, Nat.le_refl _, by decide, rfl, rfl⟩⟩
  obtain ⟨xs, h1, h2⟩ := h.alloc (.cells #[.int .i64 x] 3)
  have fin : ∀ (v' : Value) (w' : World), w'.ownsRow w.heap.size 3 1 v' (1 + m) (.int .i64 x :: xs.map (Value.int .i64)) → (w.alloc (.cells #[.int .i64 x] 3)).grownBy w' (some w.heap.size) →
      ∃ A' c', v' = .slice A' (m + 1) c' ∧ Path w' A' (m + 1) ∧ Below w.heap.size w w' := by
    intro v' w' ho hg
    have hb : Below w.heap.size w w' := ((Below.refl _ _).alloc (Nat.le_refl _) _).grown hg (by simp) (fun k e => by cases e; omega)
    rcases ho.2 with ⟨_, h0⟩ | ⟨g, cap, cur, rfl, hgb, hgc, hn, hmx, hcs, htk⟩
    · omega
    · refine ⟨some ⟨g, 0, none⟩, cap, by rw [Nat.add_comm], ⟨x :: xs, by simp [h1], fun _ => ⟨g, 0, rfl, fun i u hu => ?_⟩⟩, hb⟩
      rw [List.map_cons, ← htk] at hu
      have hu2 : cur[i]? = some u := by
        rw [List.getElem?_take] at hu
        split at hu
        · simpa using hu
        · cases hu
      have hB : Blk w' g cur := ⟨3, hgc⟩
      rw [Nat.zero_add]
      exact hB.at_ hu2
  have hcells : ∀ (ad : Addr), A = some ad → ∀ j u, (xs.map (Value.int .i64))[j]? = some u → (w.alloc (.cells #[.int .i64 x] 3)).cell? (ad.add j) = some u := by
    intro ad e j u hu
    have hj : j < xs.length := by have := (List.getElem?_eq_some_iff.1 hu).1; simpa using this
    obtain ⟨b, off, e2, hc⟩ := h2 (by omega)
    rw [e2] at e
    cases e
    have := hc j u hu
    rwa [← Go.WideShapes.add_plain] at this
  rcases A with _ | ad
  · have hz : m = 0 := by
      rcases Nat.eq_zero_or_pos m with h0 | h0
      · exact h0
      · obtain ⟨b, off, e, _⟩ := h2 h0; cases e
    subst hz
    have hx : xs = [] := List.eq_nil_of_length_eq_zero h1
    subst hx
    obtain ⟨A', c', hv, hp, hb⟩ := fin _ _ hown (World.grownBy.refl _ _)
    refine ⟨A', c', _, ?_, hp, hb⟩
    rw [← hv]
    have hgc := heap_alloc_new w (.cells #[.int .i64 x] 3)
    simp [Builtin.append_, run_underlying Try.underlying73, sizeOf, typeInfo, hi, Builtin.lenOf, Builtin.firstCells, storeCells]
  · obtain ⟨v', w', hrun, ho, hg, _, hat⟩ := run_append_own_at (P := Try.prog) (w.alloc (.cells #[.int .i64 x] 3)) w.heap.size 73 ty 3 i0 _ 1 8 Try.underlying73 hi hz0 hz1 hz2 rfl (by omega) _ 1 _ hown ad m c (xs.map (Value.int .i64)) (by simp [h1]) (hcells ad rfl) (by
      intro u hu
      obtain ⟨z, _, rfl⟩ := List.mem_map.1 hu
      rfl) (by simp only [maxLen]; omega) (by omega) (by simp)
    obtain ⟨A', c', rfl, hp, hb⟩ := fin v' w' (by simpa using ho) hg
    exact ⟨A', c', w', hrun, hp, hb⟩

theorem wpList_append_path {w : World} {A : Option Addr} {m c : Nat} (h : Path w A m) (hm : m ≤ 1000) (x : Int)
    {ops : Array Oper} {rest : List Oper} {o : Oper} {a : Act} {Q : Exit → Act → World → Prop} (hgd : o.guard = none) (s t : Operand)
    (ho : o.op = .call { callee := .builtin .append, args := #[s, t], argTypes := #[73, 73] }) (hs : a.eval s = .slice (some ⟨w.heap.size, 0, none⟩) 1 1) (hx : a.eval t = .slice A m c)
    (hk : ∀ A' c' w', Path w' A' (m + 1) → Below w.heap.size w w' → wpList Try.prog ops Q rest (a.put o.dst (.slice A' (m + 1) c')) w') :
    wpList Try.prog ops Q (o :: rest) a (w.alloc (.cells #[.int .i64 x] 3)) := by
  refine wpList_plain hgd fun K hK => ?_
  obtain ⟨A', c', w', hrun, h2, h3⟩ := run_append_path (c := c) h hm x o.type
  unfold Oper.wp execOp
  simp only [ho, resolve, invoke, builtin, Sem.run_bind, Sem.run_pure, Result.andThen_ok, List.map_toArray, List.map_cons, List.map_nil, hs, hx, hrun]
  exact hK _ _ (hk A' c' w' h2 h3)

def OuterPost (d : Nat) (t : Tm) (w : World) (e : Ending) (w' : World) : Prop :=
  ∃ A m c, e = .returned (.tuple #[.slice A m c, .bool (!nrm t)]) ∧ m ≤ d ∧ Path w' A m ∧ Below w.heap.size w w'

theorem nrm_rdx {k n : Int} {ks : List Tm} (h : rdx k ks ≠ 0) : nrm (.mk k n ks) = false := by
  rw [nrm, Bool.and_eq_false_iff]; right; simpa using h

set_option maxRecDepth 100000 in
set_option maxHeartbeats 2000000 in
theorem outer_any (N : Nat) : ∀ (d : Nat) (k n : Int) (ks : List Tm) (A : Option Addr) (c : Nat) (w : World), d ≤ 30 → sizes ks < N → shape d (.mk k n ks) = true → sizes ks ≤ 1099511627775 → Rd w A 0 ks →
    Calls Try.prog 71 #[.agg #[.int .i64 k, .int .i64 n, .slice A ks.length c]] w (OuterPost d (.mk k n ks) w) := by
  induction N with
  | zero => intro d k n ks A c w _ hN; exact absurd hN (Nat.not_lt_zero _)
  | succ N ih =>
  intro d k n ks A c w hd hN hsh hM hr
  have hlen := length_le_sizes ks
  obtain ⟨d, rfl⟩ : ∃ d', d = d' + 1 := by cases d with | zero => simp [shape] at hsh | succ d => exact ⟨d, rfl⟩
  obtain ⟨ha, hm1, hm2, hkids⟩ := (shape_split d k n ks).1 hsh
  have hkids := hide hkids
  have ha' := hide ha
  clear ha hm1 hm2 hsh
  by_cases hrd : rdx k ks = 0
  · go_enter Try.func71, Try.ntmps71
    go_wp2_with (go_at_call 114; refine (iRedex_any k n ks A c _ (by omega) ha'.out (hr.alloc _)).mono ?_; rw [hrd]; rintro e w1 ⟨rfl, hb1⟩; have hB1 := (Blk.new_ w 25 #[.int .i64 k, .int .i64 n, .slice A ks.length c] rfl).keep hb1; obtain ⟨p10, p11, p12⟩ := hB1.three; replace hb1 := ((Below.refl _ _).alloc (Nat.le_refl _) _).trans (hb1.mono (by simp)))
    go_loopw [14] (fun i wr => ∃ j : Nat, j ≤ ks.length ∧ i = .int .i64 j ∧ Hid (∀ t, t ∈ ks.take j → nrm t = true) ∧ Below w.heap.size w wr)
      (fun i _ => ks.length - (intOf i).toNat)
    case atStart => exact ⟨0, Nat.zero_le _, rfl, hide (by simp), hb1⟩
    case round =>
      obtain ⟨j, hj, rfl, hall, hb⟩ := hrel
      by_cases hlt : j < ks.length
      · obtain ⟨b, off, k1, n1, ks1, A1, c1, rfl, hkj, hc1, hc2, hc3, hl1, hr1⟩ := (hr.below hb).at_ hlt
        have hsz := sizes_le (List.getElem_mem hlt)
        have hs1 := hkids.out _ (List.getElem_mem hlt)
        rw [hkj] at hsz hs1
        simp only [Tm.size] at hsz
        have H3 := hide hkj
        have H4 := hide hs1
        clear hkj hs1
        go_wp2_with (first | (go_at_call 71; refine (ih d k1 n1 ks1 A1 c1 _ (by omega) (by omega) H4.out (by omega) (hr1.alloc _)).mono ?_; rintro e w3 ⟨A3, m3, c3, rfl, hm3, hp3, hb3⟩; replace hb3 := ((Below.refl _ _).alloc (Nat.le_refl _) _).trans (hb3.mono (by simp))) | (at_builtin; refine wpList_append_path hp3 (by omega) _ rfl _ _ rfl rfl rfl ?_; intro A4 c4 w4 hp4 hb4))
        · rename_i hbx
          go_ret2
          refine ⟨A4, m3 + 1, c4, ?_, by omega, hp4, hb.trans ((hb3.trans (hb4.mono hb3.size)).mono hb.size)⟩
          have h1 : nrm (.mk k1 n1 ks1) = false := by simpa using hbx
          have h2 : nrm (.mk k n ks) = false := nrm_kid_no hlt (by rw [H3.out]; exact h1)
          rw [h2]
          rfl
        · rename_i hbx
          have hn1 : nrm (.mk k1 n1 ks1) = true := by simpa using hbx
          go_roundw
          case rel => exact ⟨j + 1, hlt, by go_num, hide (all_take hlt hall.out (by rw [H3.out]; exact hn1)), hb.trans (hb3.mono hb.size)⟩
          case measure => simp [intOf]; omega
      · have hje : j = ks.length := by omega
        go_wp2_with fail
        go_ret2
        have ha := hall.out
        rw [hje, List.take_length] at ha
        have h2 : nrm (.mk k n ks) = true := by rw [nrm_of ha, hrd]; rfl
        refine ⟨none, 0, 0, by rw [h2]; rfl, by omega, Path.nil, hb⟩
  · have hne : (rdx k ks != 0) = true := by simpa using hrd
    have H := hide hrd
    clear hrd
    go_enter Try.func71, Try.ntmps71
    go_wp2_with (go_at_call 114; refine (iRedex_any k n ks A c _ (by omega) ha'.out (hr.alloc _)).mono ?_; rintro e w1 ⟨rfl, hb1⟩; replace hb1 := ((Below.refl _ _).alloc (Nat.le_refl _) _).trans (hb1.mono (by simp)))
    go_ret2
    exact ⟨none, 0, 0, by rw [nrm_rdx H.out]; rfl, by omega, Path.nil, hb1⟩
end Go.Proofs.Ytodkenpmhhbppaa

namespace Go.Proofs.Ytodkenpmhhbppaa
open Go.RowKit
set_option linter.unusedSimpArgs false
set_option linter.unusedVariables false

set_option maxHeartbeats 2000000 in
set_option maxRecDepth 100000 in
theorem variable_any (n : Int) (w : World) : Calls Try.prog 104 #[.int .i64 n] w fun e w' => e = .returned (.agg #[.int .i64 1, .int .i64 n, .slice none 0 0]) ∧ Below w.heap.size w w' := by
  go_enter Try.func104, Try.ntmps104
  go_wp2_with fail
  exact bodyPost_ret (v := .agg #[.int .i64 1, .int .i64 n, .slice none 0 0]) (by simp [results, Try.results104, go_sem]) rfl ⟨rfl, (Below.refl _ _).alloc (Nat.le_refl _) _⟩

/-- the empty term that stands for a failure -/
def zeroV : Value := .agg #[.int .i64 0, .int .i64 0, .slice none 0 0]
set_option maxHeartbeats 2000000 in
set_option maxRecDepth 100000 in
theorem valid_yes (k n : Int) (ks : List Tm) (A : Option Addr) (c : Nat) (w : World) (hM : sizes ks ≤ 1099511627775) (hr : Rd w A 0 ks) (hv : validT (.mk k n ks) = true) :
    Calls Try.prog 82 #[(.agg #[.int .i64 k, .int .i64 n, .slice A ks.length c])] w fun e w' => e = .returned (.tuple #[(.agg #[.int .i64 k, .int .i64 n, .slice A ks.length c]), .bool true]) ∧ Below w.heap.size w w' := by
  go_enter Try.func82, Try.ntmps82
  go_wp2_with (go_at_call 34; refine (iTermValid_any k n ks A c _ hM ((hr.alloc _).alloc _)).mono ?_; rw [hv]; rintro e w1 ⟨rfl, hb1⟩; have hB : Blk w1 w.heap.size #[.int .i64 k, .int .i64 n, .slice A ks.length c] := ((Blk.new_ w 25 #[.int .i64 k, .int .i64 n, .slice A ks.length c] rfl).alloc _).keep hb1; have hT : Blk w1 (w.heap.size + 1) #[.int .i64 0, .int .i64 0, .slice none 0 0] := (Blk.new_ _ 25 _ (by simp)).keep hb1; obtain ⟨p0, p1, p2⟩ := hB.three; obtain ⟨d0, d1, d2⟩ := hT.three; have e0 := hT.frozen 0; have e1 := hT.frozen 1; have e2 := hT.frozen 2; replace hb1 : Below w.heap.size w w1 := (((Below.refl _ _).alloc (Nat.le_refl _) _).alloc (by simp) _).trans (hb1.mono (by simp; omega)))
  refine bodyPost_ret (v := .tuple #[(.agg #[.int .i64 k, .int .i64 n, .slice A ks.length c]), .bool true]) (by simp [results, Try.results82, go_sem, d0, d1, d2]) rfl ⟨rfl, ?_⟩
  exact ((hb1.setCell (by simp) _).setCell (by simp) _).setCell (by simp) _
set_option maxHeartbeats 2000000 in
set_option maxRecDepth 100000 in
theorem valid_no (k n : Int) (ks : List Tm) (A : Option Addr) (c : Nat) (w : World) (hM : sizes ks ≤ 1099511627775) (hr : Rd w A 0 ks) (hv : validT (.mk k n ks) = false) :
    Calls Try.prog 82 #[(.agg #[.int .i64 k, .int .i64 n, .slice A ks.length c])] w fun e w' => e = .returned (.tuple #[zeroV, .bool false]) ∧ Below w.heap.size w w' := by
  go_enter Try.func82, Try.ntmps82
  go_wp2_with (go_at_call 34; refine (iTermValid_any k n ks A c _ hM ((hr.alloc _).alloc _)).mono ?_; rw [hv]; rintro e w1 ⟨rfl, hb1⟩; have hT : Blk w1 (w.heap.size + 1) #[.int .i64 0, .int .i64 0, .slice none 0 0] := (Blk.new_ _ 25 _ (by simp)).keep hb1; obtain ⟨d0, d1, d2⟩ := hT.three; have e0 := hT.frozen 0; have e1 := hT.frozen 1; have e2 := hT.frozen 2; replace hb1 : Below w.heap.size w w1 := (((Below.refl _ _).alloc (Nat.le_refl _) _).alloc (by simp) _).trans (hb1.mono (by simp; omega)))
  refine bodyPost_ret (v := .tuple #[zeroV, .bool false]) (by simp [results, Try.results82, go_sem, d0, d1, d2, zeroV]) rfl ⟨rfl, ?_⟩
  exact ((hb1.setCell (by simp) _).setCell (by simp) _).setCell (by simp) _

/-- a variable shifted -/
def shF (by_ cut : Int) (n d : Int) : Tm := .mk 1 (if cut ≤ n - d then n + by_ else n) []
def shOk (by_ cut : Int) (n d : Int) : Bool := if cut ≤ n - d then decide (cut ≤ n + by_ - d) && decide (n + by_ ≤ 20) else true

set_option maxHeartbeats 2000000 in
set_option maxRecDepth 100000 in
theorem shift1_ok {by_ cut : Int} {bc bb g : Nat} {W0 : World} (hb1 : -1000 ≤ by_ ∧ by_ ≤ 1000) (hc : -1000 ≤ cut ∧ cut ≤ 1000) (hC : Blk W0 bc #[.int .i64 cut]) (hB : Blk W0 bb #[.int .i64 by_]) (hcg : bc ≠ g) (hbg : bb ≠ g) :
    FunOk 137 [.pointer (some ⟨bc, 0, none⟩), .pointer (some ⟨bb, 0, none⟩), .pointer (some ⟨g, 0, none⟩)] W0 g (shF by_ cut) (shOk by_ cut) := by
  intro n d w b hn0 hn1 hd0 hd1 hW hg
  have hCw := hC.grown hW (by simpa using hcg)
  have hBw := hB.grown hW (by simpa using hbg)
  have x0 := hCw.at_ (i := 0) rfl
  have x1 := hBw.at_ (i := 0) rfl
  have x2 := hg.at_ (i := 0) rfl
  have z2 := hg.frozen 0
  have l0 := hCw.lt
  have l1 := hBw.lt
  have l2 := hg.lt
  by_cases h1 : cut ≤ n - d
  · have hz : shF by_ cut n d = .mk 1 (n + by_) [] := by rw [shF, if_pos h1]
    have hzo : shOk by_ cut n d = (decide (cut ≤ n + by_ - d) && decide (n + by_ ≤ 20)) := by rw [shOk, if_pos h1]
    rw [hz, hzo]
    have q1 : decide (cut ≤ n - d) = true := decide_eq_true h1
    have H := hide h1
    clear h1 hz hzo
    cases b with
    | false =>
      rw [Bool.false_and]
      go_enter Try.func137, Try.ntmps137
      go_wp2_with (go_at_call 104; refine (variable_any _ _).mono ?_; rintro e w1 ⟨rfl, hv1⟩; have hT : Blk w1 w.heap.size #[.int .i64 0, .int .i64 0, .slice none 0 0] := (Blk.new_ _ 25 _ (by simp)).keep hv1; obtain ⟨d0, d1, d2⟩ := hT.three; have e0 := hT.frozen 0; have e1 := hT.frozen 1; have e2 := hT.frozen 2; have hG1 : Blk w1 g #[.bool (false)] := ((hg.set_ 0 (.bool (false))).alloc (.cells #[.int .i64 0, .int .i64 0, .slice none 0 0] 25)).keep hv1; replace hv1 : w.grownBy w1 (some g) := only_below (only_alloc (only_setCell (World.grownBy.refl _ _) (.inl rfl) _) _) hv1)
      refine bodyPost_ret (v := .agg #[.int .i64 1, .int .i64 (n + by_), .slice none 0 0]) (by simp [results, Try.results137, go_sem, d0, d1, d2]) rfl ⟨none, 0, rfl, by simp [Tm.ks], Fresh.nil, ?_, ?_⟩
      · exact ((hG1.far (by simp; omega) _).far (by simp; omega) _).far (by simp; omega) _
      · exact only_setCell (only_setCell (only_setCell hv1 (.inr (by simp)) _) (.inr (by simp)) _) (.inr (by simp)) _
    | true =>
      by_cases h2 : cut ≤ n + by_ - d
      · have q2 : decide (cut ≤ n + by_ - d) = true := decide_eq_true h2
        rw [q2, Bool.true_and, Bool.true_and]
        have H2 := hide h2
        clear h2
        cases q3 : decide (n + by_ ≤ 20) with
        | false =>
          go_enter Try.func137, Try.ntmps137
          go_wp2_with (go_at_call 104; refine (variable_any _ _).mono ?_; rintro e w1 ⟨rfl, hv1⟩; have hT : Blk w1 w.heap.size #[.int .i64 0, .int .i64 0, .slice none 0 0] := (Blk.new_ _ 25 _ (by simp)).keep hv1; obtain ⟨d0, d1, d2⟩ := hT.three; have e0 := hT.frozen 0; have e1 := hT.frozen 1; have e2 := hT.frozen 2; have hG1 : Blk w1 g #[.bool (false)] := ((hg.set_ 0 (.bool (false))).alloc (.cells #[.int .i64 0, .int .i64 0, .slice none 0 0] 25)).keep hv1; replace hv1 : w.grownBy w1 (some g) := only_below (only_alloc (only_setCell (World.grownBy.refl _ _) (.inl rfl) _) _) hv1)
          refine bodyPost_ret (v := .agg #[.int .i64 1, .int .i64 (n + by_), .slice none 0 0]) (by simp [results, Try.results137, go_sem, d0, d1, d2]) rfl ⟨none, 0, rfl, by simp [Tm.ks], Fresh.nil, ?_, ?_⟩
          · exact ((hG1.far (by simp; omega) _).far (by simp; omega) _).far (by simp; omega) _
          · exact only_setCell (only_setCell (only_setCell hv1 (.inr (by simp)) _) (.inr (by simp)) _) (.inr (by simp)) _
        | true =>
          go_enter Try.func137, Try.ntmps137
          go_wp2_with (go_at_call 104; refine (variable_any _ _).mono ?_; rintro e w1 ⟨rfl, hv1⟩; have hT : Blk w1 w.heap.size #[.int .i64 0, .int .i64 0, .slice none 0 0] := (Blk.new_ _ 25 _ (by simp)).keep hv1; obtain ⟨d0, d1, d2⟩ := hT.three; have e0 := hT.frozen 0; have e1 := hT.frozen 1; have e2 := hT.frozen 2; have hG1 : Blk w1 g #[.bool (true)] := ((hg.set_ 0 (.bool (true))).alloc (.cells #[.int .i64 0, .int .i64 0, .slice none 0 0] 25)).keep hv1; replace hv1 : w.grownBy w1 (some g) := only_below (only_alloc (only_setCell (World.grownBy.refl _ _) (.inl rfl) _) _) hv1)
          refine bodyPost_ret (v := .agg #[.int .i64 1, .int .i64 (n + by_), .slice none 0 0]) (by simp [results, Try.results137, go_sem, d0, d1, d2]) rfl ⟨none, 0, rfl, by simp [Tm.ks], Fresh.nil, ?_, ?_⟩
          · exact ((hG1.far (by simp; omega) _).far (by simp; omega) _).far (by simp; omega) _
          · exact only_setCell (only_setCell (only_setCell hv1 (.inr (by simp)) _) (.inr (by simp)) _) (.inr (by simp)) _
      · have q2 : decide (cut ≤ n + by_ - d) = false := decide_eq_false h2
        rw [q2, Bool.false_and, Bool.true_and]
        have H2 := hide h2
        clear h2
        go_enter Try.func137, Try.ntmps137
        go_wp2_with (go_at_call 104; refine (variable_any _ _).mono ?_; rintro e w1 ⟨rfl, hv1⟩; have hT : Blk w1 w.heap.size #[.int .i64 0, .int .i64 0, .slice none 0 0] := (Blk.new_ _ 25 _ (by simp)).keep hv1; obtain ⟨d0, d1, d2⟩ := hT.three; have e0 := hT.frozen 0; have e1 := hT.frozen 1; have e2 := hT.frozen 2; have hG1 : Blk w1 g #[.bool (false)] := ((hg.set_ 0 (.bool (false))).alloc (.cells #[.int .i64 0, .int .i64 0, .slice none 0 0] 25)).keep hv1; replace hv1 : w.grownBy w1 (some g) := only_below (only_alloc (only_setCell (World.grownBy.refl _ _) (.inl rfl) _) _) hv1)
        refine bodyPost_ret (v := .agg #[.int .i64 1, .int .i64 (n + by_), .slice none 0 0]) (by simp [results, Try.results137, go_sem, d0, d1, d2]) rfl ⟨none, 0, rfl, by simp [Tm.ks], Fresh.nil, ?_, ?_⟩
        · exact ((hG1.far (by simp; omega) _).far (by simp; omega) _).far (by simp; omega) _
        · exact only_setCell (only_setCell (only_setCell hv1 (.inr (by simp)) _) (.inr (by simp)) _) (.inr (by simp)) _
  · have hz : shF by_ cut n d = .mk 1 n [] := by rw [shF, if_neg h1]
    have hzo : shOk by_ cut n d = true := by rw [shOk, if_neg h1]
    rw [hz, hzo, Bool.and_true]
    have q1 : decide (cut ≤ n - d) = false := decide_eq_false h1
    have H := hide h1
    clear h1 hz hzo
    go_enter Try.func137, Try.ntmps137
    go_wp2_with (go_at_call 104; refine (variable_any _ _).mono ?_; rintro e w1 ⟨rfl, hv1⟩; have hT : Blk w1 w.heap.size #[.int .i64 0, .int .i64 0, .slice none 0 0] := (Blk.new_ _ 25 _ rfl).keep hv1; obtain ⟨d0, d1, d2⟩ := hT.three; have e0 := hT.frozen 0; have e1 := hT.frozen 1; have e2 := hT.frozen 2; have hG1 := (hg.alloc (.cells #[.int .i64 0, .int .i64 0, .slice none 0 0] 25)).keep hv1; replace hv1 : w.grownBy w1 (some g) := only_below (only_alloc (World.grownBy.refl _ _) _) hv1)
    refine bodyPost_ret (v := .agg #[.int .i64 1, .int .i64 n, .slice none 0 0]) (by simp [results, Try.results137, go_sem, d0, d1, d2]) rfl ⟨none, 0, rfl, by simp [Tm.ks], Fresh.nil, ?_, ?_⟩
    · exact ((hG1.far (by simp; omega) _).far (by simp; omega) _).far (by simp; omega) _
    · exact only_setCell (only_setCell (only_setCell hv1 (.inr (by simp)) _) (.inr (by simp)) _) (.inr (by simp)) _
end Go.Proofs.Ytodkenpmhhbppaa

namespace Go.Proofs.Ytodkenpmhhbppaa
open Go.RowKit
set_option linter.unusedSimpArgs false
set_option linter.unusedVariables false

theorem chg_size {f : Int → Int → Tm} {M : Nat} (hM : 1 ≤ M) (hf : ∀ n d, (f n d).size ≤ M) : (∀ t d, (chg f d t).size ≤ t.size * M) ∧ (∀ ts k d i, sizes (chgs f k d i ts) ≤ sizes ts * M) := by
  refine Tm.ind2 (fun k n ks ih d => ?_) (fun k d i => by simp [chgs, sizes]) (fun t ts h1 h2 k d i => ?_)
  · rw [chg, Tm.size, Nat.add_mul, Nat.one_mul]
    split
    · have := hf n d; omega
    · rw [Tm.size]; have := ih k d 0; omega
  · rw [chgs, sizes, sizes, Nat.add_mul]
    have := h1 (d + under k i); have := h2 k d (i + 1); omega
theorem shF_size (by_ cut n d : Int) : (shF by_ cut n d).size ≤ 1 := by simp [shF, Tm.size, sizes]

/-- a term handed back in new memory, or a failure -/
def GotO (w : World) (o : Option Tm) (e : Ending) (w' : World) : Prop :=
  match o with
  | none => e = .returned (.tuple #[zeroV, .bool false]) ∧ Below w.heap.size w w'
  | some t => ∃ A c, e = .returned (.tuple #[.agg #[.int .i64 t.k, .int .i64 t.n, .slice A t.ks.length c], .bool true]) ∧ t.ks.length ≤ 9223372036854775807 ∧ Fresh w.heap.size w' A t.ks ∧ Below w.heap.size w w'
/-- what shift answers -/
def shiftI (by_ cut : Int) (t : Tm) : Option Tm := if chgOk (shOk by_ cut) 0 t = true then (if validT (chg (shF by_ cut) 0 t) = true then some (chg (shF by_ cut) 0 t) else none) else none

set_option maxHeartbeats 2000000 in
set_option maxRecDepth 100000 in
theorem shift_any (k n : Int) (ks : List Tm) (A : Option Addr) (c : Nat) (by_ cut : Int) (w : World) (hby : -1000 ≤ by_ ∧ by_ ≤ 1000) (hcut : -1000 ≤ cut ∧ cut ≤ 1000) (hM : sizes ks ≤ 1000000000) (hs : shape 30 (.mk k n ks) = true) (hr : Rd w A 0 ks) :
    Calls Try.prog 92 #[(.agg #[.int .i64 k, .int .i64 n, .slice A ks.length c]), .int .i64 by_, .int .i64 cut] w (GotO w (shiftI by_ cut (.mk k n ks))) := by
  have hrp : RdP (· ≠ w.heap.size + 4) w A 0 ks := hr.rdp.mono (fun b hb => by have hb : b < w.heap.size := hb; show b ≠ _; omega)
  obtain ⟨k2, n2, ks2, hct⟩ := tm_eta (chg (shF by_ cut) 0 (.mk k n ks))
  have hsz2 : sizes ks2 ≤ 1000000001 := by
    have := (chg_size (Nat.le_refl 1) (shF_size by_ cut)).1 (.mk k n ks) 0
    rw [hct, Tm.size, Tm.size] at this
    omega
  cases hok : chgOk (shOk by_ cut) 0 (.mk k n ks) with
  | false =>
    have hz : shiftI by_ cut (.mk k n ks) = none := by rw [shiftI, hok]; rfl
    rw [hz]
    clear hz
    go_enter Try.func92, Try.ntmps92
    go_wp2_with (go_at_call 102; refine (changed_any (shift1_ok (bc := w.heap.size + 2) (bb := w.heap.size + 1) (g := w.heap.size + 4) hby hcut (((Blk.new_ _ 3 _ (by simp)).alloc _).alloc _) ((((Blk.new_ _ 3 _ (by simp)).alloc _).alloc _).alloc _) (by omega) (by omega)) (run_enter Try.func137 (by kernel_rfl) (by kernel_rfl)) (sizes ks + 1) k n ks A c 0 30 _ true (by omega) hs (by omega) (by omega) (by omega) (World.grownBy.refl _ _) (Blk.new_ _ 4 _ (by simp)) (((((hrp.alloc _).alloc _).alloc _).alloc _).alloc _)).mono ?_; rw [hct, hok]; intro e w6 hpost; obtain ⟨A6, c6, rfl, hl6, hf6, hG6, hg6⟩ := gotG_mk hpost; clear hpost; have hT6 : Blk w6 (w.heap.size + 1 + 1 + 1) #[.int .i64 0, .int .i64 0, .slice none 0 0] := ((Blk.new_ _ 25 _ (by simp)).alloc _).grown hg6 (by simp); have f0 := hG6.at_ (i := 0) rfl; obtain ⟨d0, d1, d2⟩ := hT6.three; have e0 := hT6.frozen 0; have e1 := hT6.frozen 1; have e2 := hT6.frozen 2; have lT := hT6.lt; have lG := hG6.lt; have hb6 : Below w.heap.size w w6 := ((((((Below.refl _ _).alloc (Nat.le_refl _) _).alloc (by simp) _).alloc (by simp; omega) _).alloc (by simp; omega) _).alloc (by simp; omega) _).grown hg6 (by simp; omega) (fun k e => by cases e; omega); replace hf6 := hf6.mono (B' := w.heap.size + 5) (by simp))
    have y := fun o => (((((hT6.set_ 0 (.int .i64 0)).set_ 1 (.int .i64 0)).set_ 2 (.slice none 0 0)).alloc o : Blk _ _ #[.int .i64 0, .int .i64 0, .slice none 0 0])).three
    refine bodyPost_ret (v := .tuple #[zeroV, .bool false]) (by simp [results, Try.results92, go_sem, y, zeroV]) rfl ⟨rfl, ?_⟩
    exact (((hb6.setCell (by simp; omega) _).setCell (by simp; omega) _).setCell (by simp; omega) _).alloc (by simp [World.setCell]; omega) _
  | true =>
    cases hv : validT (.mk k2 n2 ks2) with
    | false =>
      have hz : shiftI by_ cut (.mk k n ks) = none := by rw [shiftI, hok, if_pos rfl, hct, hv]; rfl
      rw [hz]
      clear hz
      go_enter Try.func92, Try.ntmps92
      go_wp2_with (first | (go_at_call 102; refine (changed_any (shift1_ok (bc := w.heap.size + 2) (bb := w.heap.size + 1) (g := w.heap.size + 4) hby hcut (((Blk.new_ _ 3 _ (by simp)).alloc _).alloc _) ((((Blk.new_ _ 3 _ (by simp)).alloc _).alloc _).alloc _) (by omega) (by omega)) (run_enter Try.func137 (by kernel_rfl) (by kernel_rfl)) (sizes ks + 1) k n ks A c 0 30 _ true (by omega) hs (by omega) (by omega) (by omega) (World.grownBy.refl _ _) (Blk.new_ _ 4 _ (by simp)) (((((hrp.alloc _).alloc _).alloc _).alloc _).alloc _)).mono ?_; rw [hct, hok]; intro e w6 hpost; obtain ⟨A6, c6, rfl, hl6, hf6, hG6, hg6⟩ := gotG_mk hpost; clear hpost; have hT6 : Blk w6 (w.heap.size + 1 + 1 + 1) #[.int .i64 0, .int .i64 0, .slice none 0 0] := ((Blk.new_ _ 25 _ (by simp)).alloc _).grown hg6 (by simp); have f0 := hG6.at_ (i := 0) rfl; obtain ⟨d0, d1, d2⟩ := hT6.three; have e0 := hT6.frozen 0; have e1 := hT6.frozen 1; have e2 := hT6.frozen 2; have lT := hT6.lt; have lG := hG6.lt; have hb6 : Below w.heap.size w w6 := ((((((Below.refl _ _).alloc (Nat.le_refl _) _).alloc (by simp) _).alloc (by simp; omega) _).alloc (by simp; omega) _).alloc (by simp; omega) _).grown hg6 (by simp; omega) (fun k e => by cases e; omega); replace hf6 := hf6.mono (B' := w.heap.size + 5) (by simp)) | (go_at_call 82; refine (valid_no k2 n2 ks2 A6 c6 _ (by omega) (hf6.rd.alloc _) hv).mono ?_; rintro e w8 ⟨rfl, hb8⟩; have hT8 : Blk w8 (w.heap.size + 1 + 1 + 1) #[.int .i64 0, .int .i64 0, .slice none 0 0] := (hT6.alloc _).keep hb8; obtain ⟨x0, x1, x2⟩ := hT8.three; have e80 := hT8.frozen 0; have e81 := hT8.frozen 1; have e82 := hT8.frozen 2; replace hb8 : Below w.heap.size w w8 := (hb6.alloc hb6.size _).trans (hb8.mono (by have := hb6.size; simp; omega)); have hzz : zeroV = .agg #[.int .i64 0, .int .i64 0, .slice none 0 0] := rfl))
      refine bodyPost_ret (v := .tuple #[zeroV, .bool false]) (by simp [results, Try.results92, go_sem, x0, x1, x2, zeroV]) rfl ⟨rfl, ?_⟩
      exact ((hb8.setCell (by simp; omega) _).setCell (by simp; omega) _).setCell (by simp; omega) _
    | true =>
      have hz : shiftI by_ cut (.mk k n ks) = some (.mk k2 n2 ks2) := by rw [shiftI, hok, if_pos rfl, hct, hv]; rfl
      rw [hz]
      clear hz
      go_enter Try.func92, Try.ntmps92
      go_wp2_with (first | (go_at_call 102; refine (changed_any (shift1_ok (bc := w.heap.size + 2) (bb := w.heap.size + 1) (g := w.heap.size + 4) hby hcut (((Blk.new_ _ 3 _ (by simp)).alloc _).alloc _) ((((Blk.new_ _ 3 _ (by simp)).alloc _).alloc _).alloc _) (by omega) (by omega)) (run_enter Try.func137 (by kernel_rfl) (by kernel_rfl)) (sizes ks + 1) k n ks A c 0 30 _ true (by omega) hs (by omega) (by omega) (by omega) (World.grownBy.refl _ _) (Blk.new_ _ 4 _ (by simp)) (((((hrp.alloc _).alloc _).alloc _).alloc _).alloc _)).mono ?_; rw [hct, hok]; intro e w6 hpost; obtain ⟨A6, c6, rfl, hl6, hf6, hG6, hg6⟩ := gotG_mk hpost; clear hpost; have hT6 : Blk w6 (w.heap.size + 1 + 1 + 1) #[.int .i64 0, .int .i64 0, .slice none 0 0] := ((Blk.new_ _ 25 _ (by simp)).alloc _).grown hg6 (by simp); have f0 := hG6.at_ (i := 0) rfl; obtain ⟨d0, d1, d2⟩ := hT6.three; have e0 := hT6.frozen 0; have e1 := hT6.frozen 1; have e2 := hT6.frozen 2; have lT := hT6.lt; have lG := hG6.lt; have hb6 : Below w.heap.size w w6 := ((((((Below.refl _ _).alloc (Nat.le_refl _) _).alloc (by simp) _).alloc (by simp; omega) _).alloc (by simp; omega) _).alloc (by simp; omega) _).grown hg6 (by simp; omega) (fun k e => by cases e; omega); replace hf6 := hf6.mono (B' := w.heap.size + 5) (by simp)) | (go_at_call 82; refine (valid_yes k2 n2 ks2 A6 c6 _ (by omega) (hf6.rd.alloc _) hv).mono ?_; rintro e w8 ⟨rfl, hb8⟩; have hf8 := (hf6.alloc (.cells #[.int .i64 k2, .int .i64 n2, .slice A6 ks2.length c6] 25)).below hb8; have hT8 : Blk w8 (w.heap.size + 1 + 1 + 1) #[.int .i64 0, .int .i64 0, .slice none 0 0] := (hT6.alloc _).keep hb8; obtain ⟨x0, x1, x2⟩ := hT8.three; have e80 := hT8.frozen 0; have e81 := hT8.frozen 1; have e82 := hT8.frozen 2; replace hb8 : Below w.heap.size w w8 := (hb6.alloc hb6.size _).trans (hb8.mono (by have := hb6.size; simp; omega))))
      refine bodyPost_ret (v := .tuple #[.agg #[.int .i64 k2, .int .i64 n2, .slice A6 ks2.length c6], .bool true]) (by simp [results, Try.results92, go_sem, x0, x1, x2]) rfl ⟨A6, c6, rfl, hl6, ?_, ?_⟩
      · exact (((hf8.setCell (by simp) _).setCell (by simp) _).setCell (by simp) _).mono (by omega)
      · exact ((hb8.setCell (by simp; omega) _).setCell (by simp; omega) _).setCell (by simp; omega) _
end Go.Proofs.Ytodkenpmhhbppaa

namespace Go.Proofs.Ytodkenpmhhbppaa
open Go.RowKit
set_option linter.unusedSimpArgs false
set_option linter.unusedVariables false

/-- what fill puts in a variable's place -/
def filF (args : List Tm) (n d : Int) : Tm :=
  if n - d < 0 then .mk 1 n [] else if (args.length : Int) ≤ n - d then .mk 1 (n - args.length) [] else (shiftI d 0 (args.getD (n - d).toNat default)).getD (.mk 0 0 [])
def filOk (args : List Tm) (n d : Int) : Bool :=
  if n - d < 0 then true else if (args.length : Int) ≤ n - d then true else (shiftI d 0 (args.getD (n - d).toNat default)).isSome
theorem gotO_some {w : World} {k n : Int} {ks : List Tm} {e : Ending} {w' : World} (h : GotO w (some (.mk k n ks)) e w') :
    ∃ A c, e = .returned (.tuple #[.agg #[.int .i64 k, .int .i64 n, .slice A ks.length c], .bool true]) ∧ ks.length ≤ 9223372036854775807 ∧ Fresh w.heap.size w' A ks ∧ Below w.heap.size w w' := h
theorem gotO_none {w : World} {e : Ending} {w' : World} (h : GotO w none e w') : e = .returned (.tuple #[.agg #[.int .i64 0, .int .i64 0, .slice none 0 0], .bool false]) ∧ Below w.heap.size w w' := h

set_option maxHeartbeats 2000000 in
set_option maxRecDepth 100000 in
theorem fill1_ok {args : List Tm} {B : Option Addr} {cb ba g : Nat} {W0 : World} (hl : args.length ≤ 1000) (hsh : ∀ t, t ∈ args → shape 30 t = true) (hsz : sizes args ≤ 1000000000) (hA : Blk W0 ba #[.slice B args.length cb]) (hR : RdP (· ≠ g) W0 B 0 args) (hag : ba ≠ g) :
    FunOk 103 [.pointer (some ⟨ba, 0, none⟩), .pointer (some ⟨g, 0, none⟩)] W0 g (filF args) (filOk args) := by
  intro n d w b hn0 hn1 hd0 hd1 hW hg
  have hAw := hA.grown hW (by simpa using hag)
  have hRw := hR.grown hW (fun b hb e => hb (by injection e))
  have x0 := hAw.at_ (i := 0) rfl
  have x2 := hg.at_ (i := 0) rfl
  have z2 := hg.frozen 0
  have l0 := hAw.lt
  have l2 := hg.lt
  by_cases h1 : n - d < 0
  · have hz : filF args n d = .mk 1 n [] := by rw [filF, if_pos h1]
    have hzo : filOk args n d = true := by rw [filOk, if_pos h1]
    rw [hz, hzo, Bool.and_true]
    have q1 : decide (n - d < 0) = true := decide_eq_true h1
    have H := hide h1
    clear h1 hz hzo
    go_enter Try.func103, Try.ntmps103
    go_wp2_with (go_at_call 104; refine (variable_any _ _).mono ?_; rintro e w1 ⟨rfl, hv1⟩; have hT : Blk w1 w.heap.size #[.int .i64 0, .int .i64 0, .slice none 0 0] := (Blk.new_ _ 25 _ rfl).keep hv1; obtain ⟨d0, d1, d2⟩ := hT.three; have e0 := hT.frozen 0; have e1 := hT.frozen 1; have e2 := hT.frozen 2; have hG1 := (hg.alloc (.cells #[.int .i64 0, .int .i64 0, .slice none 0 0] 25)).keep hv1; replace hv1 : w.grownBy w1 (some g) := only_below (only_alloc (World.grownBy.refl _ _) _) hv1)
    refine bodyPost_ret (v := .agg #[.int .i64 1, .int .i64 (n), .slice none 0 0]) (by simp [results, Try.results103, go_sem, d0, d1, d2]) rfl ⟨none, 0, rfl, by simp [Tm.ks], Fresh.nil, ?_, ?_⟩
    · exact ((hG1.far (by simp; omega) _).far (by simp; omega) _).far (by simp; omega) _
    · exact only_setCell (only_setCell (only_setCell hv1 (.inr (by simp)) _) (.inr (by simp)) _) (.inr (by simp)) _
  · have q1 : decide (n - d < 0) = false := decide_eq_false h1
    by_cases h2 : (args.length : Int) ≤ n - d
    · have hz : filF args n d = .mk 1 (n - args.length) [] := by rw [filF, if_neg h1, if_pos h2]
      have hzo : filOk args n d = true := by rw [filOk, if_neg h1, if_pos h2]
      rw [hz, hzo, Bool.and_true]
      have q2 : decide ((args.length : Int) ≤ n - d) = true := decide_eq_true h2
      have H := hide h1
      have H2 := hide h2
      clear h1 h2 hz hzo
      go_enter Try.func103, Try.ntmps103
      go_wp2_with (go_at_call 104; refine (variable_any _ _).mono ?_; rintro e w1 ⟨rfl, hv1⟩; have hT : Blk w1 w.heap.size #[.int .i64 0, .int .i64 0, .slice none 0 0] := (Blk.new_ _ 25 _ rfl).keep hv1; obtain ⟨d0, d1, d2⟩ := hT.three; have e0 := hT.frozen 0; have e1 := hT.frozen 1; have e2 := hT.frozen 2; have hG1 := (hg.alloc (.cells #[.int .i64 0, .int .i64 0, .slice none 0 0] 25)).keep hv1; replace hv1 : w.grownBy w1 (some g) := only_below (only_alloc (World.grownBy.refl _ _) _) hv1)
      refine bodyPost_ret (v := .agg #[.int .i64 1, .int .i64 (n - args.length), .slice none 0 0]) (by simp [results, Try.results103, go_sem, d0, d1, d2]) rfl ⟨none, 0, rfl, by simp [Tm.ks], Fresh.nil, ?_, ?_⟩
      · exact ((hG1.far (by simp; omega) _).far (by simp; omega) _).far (by simp; omega) _
      · exact only_setCell (only_setCell (only_setCell hv1 (.inr (by simp)) _) (.inr (by simp)) _) (.inr (by simp)) _
    · have q2 : decide ((args.length : Int) ≤ n - d) = false := decide_eq_false h2
      obtain ⟨j, hj⟩ : ∃ j : Nat, n - d = (j : Int) := ⟨(n - d).toNat, by omega⟩
      have hlt : j < args.length := by omega
      obtain ⟨b0, off, k', n', ks', A', c', rfl, hkj, hc1, hc2, hc3, hl', hr'⟩ := hRw.at_ hlt
      have hbl := World.block_lt_of_cell? _ _ hc1
      have hs1 := hsh _ (List.getElem_mem hlt)
      have hz1 := sizes_le (List.getElem_mem hlt)
      have hgd : args.getD (n - d).toNat default = .mk k' n' ks' := by rw [hj]; simp [List.getD, List.getElem?_eq_getElem hlt, hkj]
      rw [hkj] at hs1 hz1
      simp only [Tm.size] at hz1
      have hz : filF args n d = (shiftI d 0 (.mk k' n' ks')).getD (.mk 0 0 []) := by rw [filF, if_neg h1, if_neg h2, hgd]
      have hzo : filOk args n d = (shiftI d 0 (.mk k' n' ks')).isSome := by rw [filOk, if_neg h1, if_neg h2, hgd]
      rw [hz, hzo]
      rw [hj] at q1 q2
      have H := hide h1
      have H2 := hide h2
      have H3 := hide hkj
      have H4 := hide hs1
      have hrd := hr'.rd
      clear h1 h2 hz hzo hkj hs1 hgd
      cases hsi : shiftI d 0 (.mk k' n' ks') with
      | none =>
        rw [show (none : Option Tm).getD (.mk 0 0 []) = .mk 0 0 [] from rfl, show (none : Option Tm).isSome = false from rfl, Bool.and_false]
        cases b
        all_goals
          go_enter Try.func103, Try.ntmps103
          go_wp2_with (go_at_call 92; refine (shift_any k' n' ks' A' c' d 0 _ (by omega) (by omega) (by omega) H4.out (hrd.alloc _)).mono ?_; rw [hsi]; intro e w1 hp; obtain ⟨he, hb1⟩ := gotO_none hp; subst he; clear hp; have hT : Blk w1 w.heap.size #[.int .i64 0, .int .i64 0, .slice none 0 0] := (Blk.new_ _ 25 _ rfl).keep hb1; obtain ⟨d0, d1, d2⟩ := hT.three; have e0 := hT.frozen 0; have e1 := hT.frozen 1; have e2 := hT.frozen 2; have hG1 := (hg.alloc (.cells #[.int .i64 0, .int .i64 0, .slice none 0 0] 25)).keep hb1; have g1 := hG1.at_ (i := 0) rfl; have gz := hG1.frozen 0; have lT := hT.lt; have lG := hG1.lt; replace hb1 : w.grownBy w1 (some g) := only_below (only_alloc (World.grownBy.refl _ _) _) hb1)
          have y := fun (v : Value) (o : Obj) => ((((((hT.far (p := ⟨g, 0, none⟩) (by simp; omega) v).set_ 0 (.int .i64 0)).set_ 1 (.int .i64 0)).set_ 2 (.slice none 0 0)).alloc o : Blk _ _ #[.int .i64 0, .int .i64 0, .slice none 0 0])).three
          refine bodyPost_ret (v := .agg #[.int .i64 0, .int .i64 0, .slice none 0 0]) (by simp [results, Try.results103, go_sem, y]) rfl ⟨_, _, rfl, ?_, ?_, ?_, ?_⟩
          · simp [Tm.ks]
          · exact Fresh.nil
          · exact ((((hG1.set_ 0 (.bool false)).far (by simp; omega) _).far (by simp; omega) _).far (by simp; omega) _).alloc _
          · exact only_alloc (only_setCell (only_setCell (only_setCell (only_setCell hb1 (.inl rfl) _) (.inr (by simp)) _) (.inr (by simp)) _) (.inr (by simp)) _) _
      | some t =>
        obtain ⟨k2, n2, ks2⟩ := t
        rw [show (some (Tm.mk k2 n2 ks2)).getD (.mk 0 0 []) = .mk k2 n2 ks2 from rfl, show (some (Tm.mk k2 n2 ks2)).isSome = true from rfl, Bool.and_true]
        cases b
        · go_enter Try.func103, Try.ntmps103
          go_wp2_with (go_at_call 92; refine (shift_any k' n' ks' A' c' d 0 _ (by omega) (by omega) (by omega) H4.out (hrd.alloc _)).mono ?_; rw [hsi]; intro e w1 hp; obtain ⟨A1, c1, rfl, hl1, hf1, hb1⟩ := gotO_some hp; clear hp; have hT : Blk w1 w.heap.size #[.int .i64 0, .int .i64 0, .slice none 0 0] := (Blk.new_ _ 25 _ rfl).keep hb1; obtain ⟨d0, d1, d2⟩ := hT.three; have e0 := hT.frozen 0; have e1 := hT.frozen 1; have e2 := hT.frozen 2; have hG1 := (hg.alloc (.cells #[.int .i64 0, .int .i64 0, .slice none 0 0] 25)).keep hb1; have g1 := hG1.at_ (i := 0) rfl; have gz := hG1.frozen 0; have lT := hT.lt; have lG := hG1.lt; replace hf1 : Fresh (w.heap.size + 1) w1 A1 ks2 := hf1.mono (by simp); replace hb1 : w.grownBy w1 (some g) := only_below (only_alloc (World.grownBy.refl _ _) _) hb1)
          have y := fun (v : Value) (o : Obj) => ((((((hT.far (p := ⟨g, 0, none⟩) (by simp; omega) v).set_ 0 (.int .i64 k2)).set_ 1 (.int .i64 n2)).set_ 2 (.slice A1 ks2.length c1)).alloc o : Blk _ _ #[.int .i64 k2, .int .i64 n2, .slice A1 ks2.length c1])).three
          refine bodyPost_ret (v := .agg #[.int .i64 k2, .int .i64 n2, .slice A1 ks2.length c1]) (by simp [results, Try.results103, go_sem, y]) rfl ⟨_, _, rfl, ?_, ?_, ?_, ?_⟩
          · exact hl1
          · exact (((((hf1.setCell (by simp; omega) _).setCell (by simp) _).setCell (by simp) _).setCell (by simp) _).alloc _).mono (by simp)
          · exact ((((hG1.set_ 0 (.bool false)).far (by simp; omega) _).far (by simp; omega) _).far (by simp; omega) _).alloc _
          · exact only_alloc (only_setCell (only_setCell (only_setCell (only_setCell hb1 (.inl rfl) _) (.inr (by simp)) _) (.inr (by simp)) _) (.inr (by simp)) _) _
        · go_enter Try.func103, Try.ntmps103
          go_wp2_with (go_at_call 92; refine (shift_any k' n' ks' A' c' d 0 _ (by omega) (by omega) (by omega) H4.out (hrd.alloc _)).mono ?_; rw [hsi]; intro e w1 hp; obtain ⟨A1, c1, rfl, hl1, hf1, hb1⟩ := gotO_some hp; clear hp; have hT : Blk w1 w.heap.size #[.int .i64 0, .int .i64 0, .slice none 0 0] := (Blk.new_ _ 25 _ rfl).keep hb1; obtain ⟨d0, d1, d2⟩ := hT.three; have e0 := hT.frozen 0; have e1 := hT.frozen 1; have e2 := hT.frozen 2; have hG1 := (hg.alloc (.cells #[.int .i64 0, .int .i64 0, .slice none 0 0] 25)).keep hb1; have g1 := hG1.at_ (i := 0) rfl; have gz := hG1.frozen 0; have lT := hT.lt; have lG := hG1.lt; replace hf1 : Fresh (w.heap.size + 1) w1 A1 ks2 := hf1.mono (by simp); replace hb1 : w.grownBy w1 (some g) := only_below (only_alloc (World.grownBy.refl _ _) _) hb1)
          have y := fun (v : Value) (o : Obj) => ((((((hT.far (p := ⟨g, 0, none⟩) (by simp; omega) v).set_ 0 (.int .i64 k2)).set_ 1 (.int .i64 n2)).set_ 2 (.slice A1 ks2.length c1)).alloc o : Blk _ _ #[.int .i64 k2, .int .i64 n2, .slice A1 ks2.length c1])).three
          refine bodyPost_ret (v := .agg #[.int .i64 k2, .int .i64 n2, .slice A1 ks2.length c1]) (by simp [results, Try.results103, go_sem, y]) rfl ⟨_, _, rfl, ?_, ?_, ?_, ?_⟩
          · exact hl1
          · exact (((((hf1.setCell (by simp; omega) _).setCell (by simp) _).setCell (by simp) _).setCell (by simp) _).alloc _).mono (by simp)
          · exact ((((hG1.set_ 0 (.bool true)).far (by simp; omega) _).far (by simp; omega) _).far (by simp; omega) _).alloc _
          · exact only_alloc (only_setCell (only_setCell (only_setCell (only_setCell hb1 (.inl rfl) _) (.inr (by simp)) _) (.inr (by simp)) _) (.inr (by simp)) _) _
end Go.Proofs.Ytodkenpmhhbppaa

namespace Go.Proofs.Ytodkenpmhhbppaa
open Go.RowKit
set_option linter.unusedSimpArgs false
set_option linter.unusedVariables false

theorem validT_size {t : Tm} (h : validT t = true) : t.size ≤ 400 := by simp only [validT, Bool.and_eq_true, decide_eq_true_eq] at h; exact h.2
theorem filF_size (args : List Tm) (n d : Int) : (filF args n d).size ≤ 400 := by
  unfold filF
  split
  · simp [Tm.size, sizes]
  · split
    · simp [Tm.size, sizes]
    · unfold shiftI
      split
      · split
        · rename_i h; exact validT_size h
        · simp [Tm.size, sizes]
      · simp [Tm.size, sizes]
/-- what fill answers -/
def fillI (args : List Tm) (t : Tm) : Option Tm := if chgOk (filOk args) 0 t = true then (if validT (chg (filF args) 0 t) = true then some (chg (filF args) 0 t) else none) else none

set_option maxHeartbeats 2000000 in
set_option maxRecDepth 100000 in
theorem fill_any (k n : Int) (ks : List Tm) (A : Option Addr) (c : Nat) (args : List Tm) (B : Option Addr) (cb : Nat) (w : World) (hla : args.length ≤ 1000) (hsa : ∀ t, t ∈ args → shape 30 t = true) (hza : sizes args ≤ 1000000000) (hRa : Rd w B 0 args) (hM : sizes ks ≤ 1000) (hs : shape 30 (.mk k n ks) = true) (hr : Rd w A 0 ks) :
    Calls Try.prog 59 #[(.agg #[.int .i64 k, .int .i64 n, .slice A ks.length c]), .slice B args.length cb] w (GotO w (fillI args (.mk k n ks))) := by
  have hrp : RdP (· ≠ w.heap.size + 3) w A 0 ks := hr.rdp.mono (fun b hb => by have hb : b < w.heap.size := hb; show b ≠ _; omega)
  have hRp : RdP (· ≠ w.heap.size + 3) w B 0 args := hRa.rdp.mono (fun b hb => by have hb : b < w.heap.size := hb; show b ≠ _; omega)
  obtain ⟨k2, n2, ks2, hct⟩ := tm_eta (chg (filF args) 0 (.mk k n ks))
  have hsz2 : sizes ks2 ≤ 1000000001 := by
    have := (chg_size (by omega) (filF_size args)).1 (.mk k n ks) 0
    rw [hct, Tm.size, Tm.size] at this
    omega
  cases hok : chgOk (filOk args) 0 (.mk k n ks) with
  | false =>
    have hz : fillI args (.mk k n ks) = none := by rw [fillI, hok]; rfl
    rw [hz]
    clear hz
    go_enter Try.func59, Try.ntmps59
    go_wp2_with (go_at_call 102; refine (changed_any (fill1_ok (args := args) (B := B) (cb := cb) (ba := w.heap.size + 1) (g := w.heap.size + 3) hla hsa hza (((Blk.new_ _ 23 _ (by simp)).alloc _).alloc _) ((((hRp.alloc _).alloc _).alloc _).alloc _) (by omega)) (run_enter Try.func103 (by kernel_rfl) (by kernel_rfl)) (sizes ks + 1) k n ks A c 0 30 _ true (by omega) hs (by omega) (by omega) (by omega) (World.grownBy.refl _ _) (Blk.new_ _ 4 _ (by simp)) ((((hrp.alloc _).alloc _).alloc _).alloc _)).mono ?_; rw [hct, hok]; intro e w6 hpost; obtain ⟨A6, c6, rfl, hl6, hf6, hG6, hg6⟩ := gotG_mk hpost; clear hpost; have hT6 : Blk w6 (w.heap.size + 1 + 1) #[.int .i64 0, .int .i64 0, .slice none 0 0] := ((Blk.new_ _ 25 _ (by simp)).alloc _).grown hg6 (by simp); have f0 := hG6.at_ (i := 0) rfl; obtain ⟨d0, d1, d2⟩ := hT6.three; have e0 := hT6.frozen 0; have e1 := hT6.frozen 1; have e2 := hT6.frozen 2; have lT := hT6.lt; have lG := hG6.lt; have hb6 : Below w.heap.size w w6 := (((((Below.refl _ _).alloc (Nat.le_refl _) _).alloc (by simp) _).alloc (by simp; omega) _).alloc (by simp; omega) _).grown hg6 (by simp; omega) (fun k e => by cases e; omega); replace hf6 := hf6.mono (B' := w.heap.size + 4) (by simp))
    have y := fun o => (((((hT6.set_ 0 (.int .i64 0)).set_ 1 (.int .i64 0)).set_ 2 (.slice none 0 0)).alloc o : Blk _ _ #[.int .i64 0, .int .i64 0, .slice none 0 0])).three
    refine bodyPost_ret (v := .tuple #[zeroV, .bool false]) (by simp [results, Try.results59, go_sem, y, zeroV]) rfl ⟨rfl, ?_⟩
    exact (((hb6.setCell (by simp; omega) _).setCell (by simp; omega) _).setCell (by simp; omega) _).alloc (by simp [World.setCell]; omega) _
  | true =>
    cases hv : validT (.mk k2 n2 ks2) with
    | false =>
      have hz : fillI args (.mk k n ks) = none := by rw [fillI, hok, if_pos rfl, hct, hv]; rfl
      rw [hz]
      clear hz
      go_enter Try.func59, Try.ntmps59
      go_wp2_with (first | (go_at_call 102; refine (changed_any (fill1_ok (args := args) (B := B) (cb := cb) (ba := w.heap.size + 1) (g := w.heap.size + 3) hla hsa hza (((Blk.new_ _ 23 _ (by simp)).alloc _).alloc _) ((((hRp.alloc _).alloc _).alloc _).alloc _) (by omega)) (run_enter Try.func103 (by kernel_rfl) (by kernel_rfl)) (sizes ks + 1) k n ks A c 0 30 _ true (by omega) hs (by omega) (by omega) (by omega) (World.grownBy.refl _ _) (Blk.new_ _ 4 _ (by simp)) ((((hrp.alloc _).alloc _).alloc _).alloc _)).mono ?_; rw [hct, hok]; intro e w6 hpost; obtain ⟨A6, c6, rfl, hl6, hf6, hG6, hg6⟩ := gotG_mk hpost; clear hpost; have hT6 : Blk w6 (w.heap.size + 1 + 1) #[.int .i64 0, .int .i64 0, .slice none 0 0] := ((Blk.new_ _ 25 _ (by simp)).alloc _).grown hg6 (by simp); have f0 := hG6.at_ (i := 0) rfl; obtain ⟨d0, d1, d2⟩ := hT6.three; have e0 := hT6.frozen 0; have e1 := hT6.frozen 1; have e2 := hT6.frozen 2; have lT := hT6.lt; have lG := hG6.lt; have hb6 : Below w.heap.size w w6 := (((((Below.refl _ _).alloc (Nat.le_refl _) _).alloc (by simp) _).alloc (by simp; omega) _).alloc (by simp; omega) _).grown hg6 (by simp; omega) (fun k e => by cases e; omega); replace hf6 := hf6.mono (B' := w.heap.size + 4) (by simp)) | (go_at_call 82; refine (valid_no k2 n2 ks2 A6 c6 _ (by omega) (hf6.rd.alloc _) hv).mono ?_; rintro e w8 ⟨rfl, hb8⟩; have hT8 : Blk w8 (w.heap.size + 1 + 1) #[.int .i64 0, .int .i64 0, .slice none 0 0] := (hT6.alloc _).keep hb8; obtain ⟨x0, x1, x2⟩ := hT8.three; have e80 := hT8.frozen 0; have e81 := hT8.frozen 1; have e82 := hT8.frozen 2; replace hb8 : Below w.heap.size w w8 := (hb6.alloc hb6.size _).trans (hb8.mono (by have := hb6.size; simp; omega)); have hzz : zeroV = .agg #[.int .i64 0, .int .i64 0, .slice none 0 0] := rfl))
      refine bodyPost_ret (v := .tuple #[zeroV, .bool false]) (by simp [results, Try.results59, go_sem, x0, x1, x2, zeroV]) rfl ⟨rfl, ?_⟩
      exact ((hb8.setCell (by simp; omega) _).setCell (by simp; omega) _).setCell (by simp; omega) _
    | true =>
      have hz : fillI args (.mk k n ks) = some (.mk k2 n2 ks2) := by rw [fillI, hok, if_pos rfl, hct, hv]; rfl
      rw [hz]
      clear hz
      go_enter Try.func59, Try.ntmps59
      go_wp2_with (first | (go_at_call 102; refine (changed_any (fill1_ok (args := args) (B := B) (cb := cb) (ba := w.heap.size + 1) (g := w.heap.size + 3) hla hsa hza (((Blk.new_ _ 23 _ (by simp)).alloc _).alloc _) ((((hRp.alloc _).alloc _).alloc _).alloc _) (by omega)) (run_enter Try.func103 (by kernel_rfl) (by kernel_rfl)) (sizes ks + 1) k n ks A c 0 30 _ true (by omega) hs (by omega) (by omega) (by omega) (World.grownBy.refl _ _) (Blk.new_ _ 4 _ (by simp)) ((((hrp.alloc _).alloc _).alloc _).alloc _)).mono ?_; rw [hct, hok]; intro e w6 hpost; obtain ⟨A6, c6, rfl, hl6, hf6, hG6, hg6⟩ := gotG_mk hpost; clear hpost; have hT6 : Blk w6 (w.heap.size + 1 + 1) #[.int .i64 0, .int .i64 0, .slice none 0 0] := ((Blk.new_ _ 25 _ (by simp)).alloc _).grown hg6 (by simp); have f0 := hG6.at_ (i := 0) rfl; obtain ⟨d0, d1, d2⟩ := hT6.three; have e0 := hT6.frozen 0; have e1 := hT6.frozen 1; have e2 := hT6.frozen 2; have lT := hT6.lt; have lG := hG6.lt; have hb6 : Below w.heap.size w w6 := (((((Below.refl _ _).alloc (Nat.le_refl _) _).alloc (by simp) _).alloc (by simp; omega) _).alloc (by simp; omega) _).grown hg6 (by simp; omega) (fun k e => by cases e; omega); replace hf6 := hf6.mono (B' := w.heap.size + 4) (by simp)) | (go_at_call 82; refine (valid_yes k2 n2 ks2 A6 c6 _ (by omega) (hf6.rd.alloc _) hv).mono ?_; rintro e w8 ⟨rfl, hb8⟩; have hf8 := (hf6.alloc (.cells #[.int .i64 k2, .int .i64 n2, .slice A6 ks2.length c6] 25)).below hb8; have hT8 : Blk w8 (w.heap.size + 1 + 1) #[.int .i64 0, .int .i64 0, .slice none 0 0] := (hT6.alloc _).keep hb8; obtain ⟨x0, x1, x2⟩ := hT8.three; have e80 := hT8.frozen 0; have e81 := hT8.frozen 1; have e82 := hT8.frozen 2; replace hb8 : Below w.heap.size w w8 := (hb6.alloc hb6.size _).trans (hb8.mono (by have := hb6.size; simp; omega))))
      refine bodyPost_ret (v := .tuple #[.agg #[.int .i64 k2, .int .i64 n2, .slice A6 ks2.length c6], .bool true]) (by simp [results, Try.results59, go_sem, x0, x1, x2]) rfl ⟨A6, c6, rfl, hl6, ?_, ?_⟩
      · exact (((hf8.setCell (by simp) _).setCell (by simp) _).setCell (by simp) _).mono (by omega)
      · exact ((hb8.setCell (by simp; omega) _).setCell (by simp; omega) _).setCell (by simp; omega) _
end Go.Proofs.Ytodkenpmhhbppaa

namespace Go.Proofs.Ytodkenpmhhbppaa
open Go.RowKit
set_option linter.unusedSimpArgs false
set_option linter.unusedVariables false

set_option maxHeartbeats 1000000 in
set_option maxRecDepth 100000 in
theorem fillTerm1_any (k n : Int) (ks : List Tm) (A : Option Addr) (c : Nat) (w : World) (hM : sizes ks ≤ 1099511627775) (hr : Rd w A 0 ks) :
    Calls Try.prog 58 #[.agg #[.int .i64 k, .int .i64 n, .slice A ks.length c]] w fun e w' => e = .returned (.bool (!validT (.mk k n ks))) ∧ Below w.heap.size w w' := by
  go_enter Try.func58, Try.ntmps58
  go_wp2_with (go_at_call 34; refine (iTermValid_any k n ks A c _ hM (hr.alloc _)).mono ?_; rintro e w1 ⟨rfl, hb1⟩; replace hb1 : Below w.heap.size w w1 := ((Below.refl _ _).alloc (Nat.le_refl _) _).trans (hb1.mono (by simp)))
  go_ret
  exact ⟨rfl, hb1⟩

/-- what is asked of a test of terms -/
def TestOk (F : Nat) (p : Tm → Bool) : Prop := ∀ (k n : Int) (ks : List Tm) (A : Option Addr) (c : Nat) (w : World), sizes ks ≤ 1099511627775 → Rd w A 0 ks →
  Calls Try.prog F #[.agg #[.int .i64 k, .int .i64 n, .slice A ks.length c]] w fun e w' => e = .returned (.bool (p (.mk k n ks))) ∧ Below w.heap.size w w'

set_option maxHeartbeats 1000000 in
set_option maxRecDepth 100000 in
theorem indexFunc_any {F : Nat} {p : Tm → Bool} (hF : TestOk F p) (hrun : ∀ (args : Array Value) (w : World), (callFunc F args).run Try.prog w = .ok (.enter F args) w) (ks : List Tm) (A : Option Addr) (c : Nat) (w : World) (hM : sizes ks ≤ 1099511627775) (hr : Rd w A 0 ks) :
    Calls Try.prog 101 #[.slice A ks.length c, .func (.func F) #[] #[]] w fun e w' => ∃ r : Int, e = .returned (.int .i64 r) ∧ decide (0 ≤ r) = ks.any p ∧ Below w.heap.size w w' := by
  have hlen := length_le_sizes ks
  go_enter Try.func101, Try.ntmps101
  go_wp2_with fail
  go_loopw [8] (fun i wr => ∃ j : Nat, j ≤ ks.length ∧ i = .int .i64 j ∧ Hid (∀ t, t ∈ ks.take j → p t = false) ∧ Below w.heap.size w wr) (fun i _ => ks.length - (intOf i).toNat)
  case atStart => exact ⟨0, Nat.zero_le _, rfl, hide (by simp), Below.refl _ _⟩
  case round =>
    obtain ⟨j, hj, rfl, hall, hb⟩ := hrel
    by_cases hlt : j < ks.length
    · obtain ⟨b, off, k1, n1, ks1, A1, c1, rfl, hkj, hc1, hc2, hc3, hl1, hr1⟩ := (hr.below hb).at_ hlt
      have hsz := sizes_le (List.getElem_mem hlt)
      rw [hkj] at hsz
      simp only [Tm.size] at hsz
      have H3 := hide hkj
      clear hkj
      go_wp2_with (refine (hF k1 n1 ks1 A1 c1 _ (by omega) hr1).mono ?_; rintro e w3 ⟨rfl, hb3⟩)
      · rename_i hbx
        go_ret
        refine ⟨_, rfl, ?_, hb.trans (hb3.mono hb.size)⟩
        rw [decide_eq_true (by omega)]
        refine (List.any_eq_true.2 ⟨ks[j], List.getElem_mem hlt, ?_⟩).symm
        rw [H3.out]; exact hbx
      · rename_i hbx
        have hp1 : p (.mk k1 n1 ks1) = false := by simpa using hbx
        go_roundw
        case rel => exact ⟨j + 1, hlt, by go_num, hide (all_take hlt hall.out (by rw [H3.out]; exact hp1)), hb.trans (hb3.mono hb.size)⟩
        case measure => simp [intOf]; omega
    · have hje : j = ks.length := by omega
      go_wp2_with fail
      go_ret
      refine ⟨-1, rfl, ?_, hb⟩
      have ha := hall.out
      rw [hje, List.take_length] at ha
      refine (List.any_eq_false.2 fun t ht => ?_).symm
      rw [ha t ht]; exact Bool.false_ne_true

set_option maxHeartbeats 1000000 in
set_option maxRecDepth 100000 in
theorem contains_any {F : Nat} {p : Tm → Bool} (hF : TestOk F p) (hrun : ∀ (args : Array Value) (w : World), (callFunc F args).run Try.prog w = .ok (.enter F args) w) (ks : List Tm) (A : Option Addr) (c : Nat) (w : World) (hM : sizes ks ≤ 1099511627775) (hr : Rd w A 0 ks) :
    Calls Try.prog 57 #[.slice A ks.length c, .func (.func F) #[] #[]] w fun e w' => e = .returned (.bool (ks.any p)) ∧ Below w.heap.size w w' := by
  go_enter Try.func57, Try.ntmps57
  go_wp2_with (go_at_call 101; refine (indexFunc_any hF hrun ks A c _ hM hr).mono ?_; rintro e w1 ⟨r, rfl, hr1, hb1⟩)
  go_ret
  exact ⟨rfl, hb1⟩

/-- what FillTerm answers -/
def fillTI (t : Tm) (args : List Tm) : Option Tm := if validT t = true ∧ args.length ≤ 6 ∧ (args.any fun a => !validT a) = false then fillI args t else none
set_option maxHeartbeats 1000000 in
set_option maxRecDepth 100000 in
theorem isHoles_any (n : Int) (w : World) : Calls Try.prog 56 #[.int .i64 n] w fun e w' => e = .returned (.bool (decide (0 ≤ n) && decide (n ≤ 6))) ∧ w = w' := by
  go_enter Try.func56, Try.ntmps56
  go_wp2_with (go_at_call 69; refine (within_any _ _ _ _).mono ?_; rintro e w1 ⟨rfl, rfl⟩)
  go_ret
  exact ⟨rfl, rfl⟩
theorem test62 : TestOk 58 (fun a => !validT a) := fun k n ks A c w hM hr => fillTerm1_any k n ks A c w hM hr
end Go.Proofs.Ytodkenpmhhbppaa

namespace Go.Proofs.Ytodkenpmhhbppaa
open Go.RowKit
set_option linter.unusedSimpArgs false
set_option linter.unusedVariables false

set_option maxHeartbeats 2000000 in
set_option maxRecDepth 100000 in
theorem iFillTerm_any (k n : Int) (ks : List Tm) (A : Option Addr) (c : Nat) (args : List Tm) (B : Option Addr) (cb : Nat) (w : World) (hM : sizes ks ≤ 1048576) (hMa : sizes args ≤ 1048576) (hr : Rd w A 0 ks) (hRa : Rd w B 0 args) :
    Calls Try.prog 17 #[(.agg #[.int .i64 k, .int .i64 n, .slice A ks.length c]), .slice B args.length cb] w (GotO w (fillTI (.mk k n ks) args)) := by
  have hlen := length_le_sizes ks
  have hlena := length_le_sizes args
  cases hv : validT (.mk k n ks) with
  | false =>
    have hz : fillTI (.mk k n ks) args = none := by rw [fillTI, if_neg]; rintro ⟨h, -⟩; rw [hv] at h; cases h
    rw [hz]
    go_enter Try.func17, Try.ntmps17
    go_wp2_with (go_at_call 34; refine (iTermValid_any k n ks A c _ (by omega) ((hr.alloc _).alloc _)).mono ?_; rw [hv]; rintro e w1 ⟨rfl, hb1⟩; have hB1 : Blk w1 w.heap.size #[.int .i64 k, .int .i64 n, .slice A ks.length c] := ((Blk.new_ w 25 #[.int .i64 k, .int .i64 n, .slice A ks.length c] rfl).alloc _).keep hb1; obtain ⟨p0, p1, p2⟩ := hB1.three; have hT1 : Blk w1 (w.heap.size + 1) #[.int .i64 0, .int .i64 0, .slice none 0 0] := (Blk.new_ _ 25 _ (by simp)).keep hb1; obtain ⟨d0, d1, d2⟩ := hT1.three; have e0 := hT1.frozen 0; have e1 := hT1.frozen 1; have e2 := hT1.frozen 2; have hr1 := ((hr.alloc (.cells #[.int .i64 k, .int .i64 n, .slice A ks.length c] 25)).alloc (.cells #[.int .i64 0, .int .i64 0, .slice none 0 0] 25)).below hb1; have ha1 := ((hRa.alloc (.cells #[.int .i64 k, .int .i64 n, .slice A ks.length c] 25)).alloc (.cells #[.int .i64 0, .int .i64 0, .slice none 0 0] 25)).below hb1; replace hb1 : Below w.heap.size w w1 := (((Below.refl _ _).alloc (Nat.le_refl _) _).alloc (by simp) _).trans (hb1.mono (by simp; omega)))
    refine bodyPost_ret (v := .tuple #[zeroV, .bool false]) (by simp [results, Try.results17, go_sem, d0, d1, d2, zeroV]) rfl ⟨rfl, ?_⟩
    exact ((hb1.setCell (by simp) _).setCell (by simp) _).setCell (by simp) _
  | true =>
    by_cases hla : args.length ≤ 6
    · have h60 : (decide (0 ≤ (args.length : Int)) && decide ((args.length : Int) ≤ 6)) = true := by simp; omega
      cases hany : args.any (fun a => !validT a) with
      | true =>
        have hz : fillTI (.mk k n ks) args = none := by rw [fillTI, if_neg]; rintro ⟨-, -, h⟩; rw [hany] at h; cases h
        rw [hz]
        go_enter Try.func17, Try.ntmps17
        go_wp2_with (first | (go_at_call 34; refine (iTermValid_any k n ks A c _ (by omega) ((hr.alloc _).alloc _)).mono ?_; rw [hv]; rintro e w1 ⟨rfl, hb1⟩; have hB1 : Blk w1 w.heap.size #[.int .i64 k, .int .i64 n, .slice A ks.length c] := ((Blk.new_ w 25 #[.int .i64 k, .int .i64 n, .slice A ks.length c] rfl).alloc _).keep hb1; obtain ⟨p0, p1, p2⟩ := hB1.three; have hT1 : Blk w1 (w.heap.size + 1) #[.int .i64 0, .int .i64 0, .slice none 0 0] := (Blk.new_ _ 25 _ (by simp)).keep hb1; obtain ⟨d0, d1, d2⟩ := hT1.three; have e0 := hT1.frozen 0; have e1 := hT1.frozen 1; have e2 := hT1.frozen 2; have hr1 := ((hr.alloc (.cells #[.int .i64 k, .int .i64 n, .slice A ks.length c] 25)).alloc (.cells #[.int .i64 0, .int .i64 0, .slice none 0 0] 25)).below hb1; have ha1 := ((hRa.alloc (.cells #[.int .i64 k, .int .i64 n, .slice A ks.length c] 25)).alloc (.cells #[.int .i64 0, .int .i64 0, .slice none 0 0] 25)).below hb1; replace hb1 : Below w.heap.size w w1 := (((Below.refl _ _).alloc (Nat.le_refl _) _).alloc (by simp) _).trans (hb1.mono (by simp; omega))) | (go_at_call 56; refine (isHoles_any _ _).mono ?_; rw [h60]; rintro e w2 ⟨rfl, rfl⟩) | (go_at_call 57; refine (contains_any test62 (run_enter Try.func58 (by kernel_rfl) (by kernel_rfl)) args B cb _ (by omega) ha1).mono ?_; rw [hany]; rintro e w3 ⟨rfl, hb3⟩; have hB3 := hB1.keep hb3; obtain ⟨s0, s1, s2⟩ := hB3.three; have hT3 := hT1.keep hb3; obtain ⟨t0, t1, t2⟩ := hT3.three; have u0 := hT3.frozen 0; have u1 := hT3.frozen 1; have u2 := hT3.frozen 2; have hr3 := hr1.below hb3; have ha3 := ha1.below hb3; replace hb3 := hb1.trans (hb3.mono hb1.size)))
        refine bodyPost_ret (v := .tuple #[zeroV, .bool false]) (by simp [results, Try.results17, go_sem, t0, t1, t2, zeroV]) rfl ⟨rfl, ?_⟩
        exact ((hb3.setCell (by simp) _).setCell (by simp) _).setCell (by simp) _
      | false =>
        have hz : fillTI (.mk k n ks) args = fillI args (.mk k n ks) := by rw [fillTI, if_pos ⟨hv, hla, hany⟩]
        have hs : shape 30 (.mk k n ks) = true := by simp only [validT, Bool.and_eq_true] at hv; exact hv.1
        have hsz := validT_size hv
        rw [Tm.size] at hsz
        have hsa : ∀ t, t ∈ args → shape 30 t = true := fun t ht => by
          have := List.any_eq_false.1 hany t ht
          simp only [Bool.not_eq_true', Bool.not_eq_false] at this
          simp only [validT, Bool.and_eq_true] at this
          exact this.1
        rw [hz]
        have hsa' := hide hsa
        clear hsa
        cases hfi : fillI args (.mk k n ks) with
        | none =>
          go_enter Try.func17, Try.ntmps17
          go_wp2_with (first | (go_at_call 34; refine (iTermValid_any k n ks A c _ (by omega) ((hr.alloc _).alloc _)).mono ?_; rw [hv]; rintro e w1 ⟨rfl, hb1⟩; have hB1 : Blk w1 w.heap.size #[.int .i64 k, .int .i64 n, .slice A ks.length c] := ((Blk.new_ w 25 #[.int .i64 k, .int .i64 n, .slice A ks.length c] rfl).alloc _).keep hb1; obtain ⟨p0, p1, p2⟩ := hB1.three; have hT1 : Blk w1 (w.heap.size + 1) #[.int .i64 0, .int .i64 0, .slice none 0 0] := (Blk.new_ _ 25 _ (by simp)).keep hb1; obtain ⟨d0, d1, d2⟩ := hT1.three; have e0 := hT1.frozen 0; have e1 := hT1.frozen 1; have e2 := hT1.frozen 2; have hr1 := ((hr.alloc (.cells #[.int .i64 k, .int .i64 n, .slice A ks.length c] 25)).alloc (.cells #[.int .i64 0, .int .i64 0, .slice none 0 0] 25)).below hb1; have ha1 := ((hRa.alloc (.cells #[.int .i64 k, .int .i64 n, .slice A ks.length c] 25)).alloc (.cells #[.int .i64 0, .int .i64 0, .slice none 0 0] 25)).below hb1; replace hb1 : Below w.heap.size w w1 := (((Below.refl _ _).alloc (Nat.le_refl _) _).alloc (by simp) _).trans (hb1.mono (by simp; omega))) | (go_at_call 56; refine (isHoles_any _ _).mono ?_; rw [h60]; rintro e w2 ⟨rfl, rfl⟩) | (go_at_call 57; refine (contains_any test62 (run_enter Try.func58 (by kernel_rfl) (by kernel_rfl)) args B cb _ (by omega) ha1).mono ?_; rw [hany]; rintro e w3 ⟨rfl, hb3⟩; have hB3 := hB1.keep hb3; obtain ⟨s0, s1, s2⟩ := hB3.three; have hT3 := hT1.keep hb3; obtain ⟨t0, t1, t2⟩ := hT3.three; have u0 := hT3.frozen 0; have u1 := hT3.frozen 1; have u2 := hT3.frozen 2; have hr3 := hr1.below hb3; have ha3 := ha1.below hb3; replace hb3 := hb1.trans (hb3.mono hb1.size)) | (go_at_call 59; refine (fill_any k n ks A c args B cb _ (by omega) hsa'.out (by omega) ha3 (by omega) hs hr3).mono ?_; rw [hfi]; intro e w4 hp; obtain ⟨he, hb4⟩ := gotO_none hp; subst he; clear hp; have hT4 := hT3.keep hb4; obtain ⟨v0, v1, v2⟩ := hT4.three; have y0 := hT4.frozen 0; have y1 := hT4.frozen 1; have y2 := hT4.frozen 2; replace hb4 := hb3.trans (hb4.mono hb3.size)))
          refine bodyPost_ret (v := .tuple #[zeroV, .bool false]) (by simp [results, Try.results17, go_sem, v0, v1, v2, zeroV]) rfl ⟨rfl, ?_⟩
          exact ((hb4.setCell (by simp) _).setCell (by simp) _).setCell (by simp) _
        | some t =>
          obtain ⟨k2, n2, ks2⟩ := t
          go_enter Try.func17, Try.ntmps17
          go_wp2_with (first | (go_at_call 34; refine (iTermValid_any k n ks A c _ (by omega) ((hr.alloc _).alloc _)).mono ?_; rw [hv]; rintro e w1 ⟨rfl, hb1⟩; have hB1 : Blk w1 w.heap.size #[.int .i64 k, .int .i64 n, .slice A ks.length c] := ((Blk.new_ w 25 #[.int .i64 k, .int .i64 n, .slice A ks.length c] rfl).alloc _).keep hb1; obtain ⟨p0, p1, p2⟩ := hB1.three; have hT1 : Blk w1 (w.heap.size + 1) #[.int .i64 0, .int .i64 0, .slice none 0 0] := (Blk.new_ _ 25 _ (by simp)).keep hb1; obtain ⟨d0, d1, d2⟩ := hT1.three; have e0 := hT1.frozen 0; have e1 := hT1.frozen 1; have e2 := hT1.frozen 2; have hr1 := ((hr.alloc (.cells #[.int .i64 k, .int .i64 n, .slice A ks.length c] 25)).alloc (.cells #[.int .i64 0, .int .i64 0, .slice none 0 0] 25)).below hb1; have ha1 := ((hRa.alloc (.cells #[.int .i64 k, .int .i64 n, .slice A ks.length c] 25)).alloc (.cells #[.int .i64 0, .int .i64 0, .slice none 0 0] 25)).below hb1; replace hb1 : Below w.heap.size w w1 := (((Below.refl _ _).alloc (Nat.le_refl _) _).alloc (by simp) _).trans (hb1.mono (by simp; omega))) | (go_at_call 56; refine (isHoles_any _ _).mono ?_; rw [h60]; rintro e w2 ⟨rfl, rfl⟩) | (go_at_call 57; refine (contains_any test62 (run_enter Try.func58 (by kernel_rfl) (by kernel_rfl)) args B cb _ (by omega) ha1).mono ?_; rw [hany]; rintro e w3 ⟨rfl, hb3⟩; have hB3 := hB1.keep hb3; obtain ⟨s0, s1, s2⟩ := hB3.three; have hT3 := hT1.keep hb3; obtain ⟨t0, t1, t2⟩ := hT3.three; have u0 := hT3.frozen 0; have u1 := hT3.frozen 1; have u2 := hT3.frozen 2; have hr3 := hr1.below hb3; have ha3 := ha1.below hb3; replace hb3 := hb1.trans (hb3.mono hb1.size)) | (go_at_call 59; refine (fill_any k n ks A c args B cb _ (by omega) hsa'.out (by omega) ha3 (by omega) hs hr3).mono ?_; rw [hfi]; intro e w4 hp; obtain ⟨A4, c4, rfl, hl4, hf4, hb4⟩ := gotO_some hp; clear hp; have hT4 := hT3.keep hb4; have lT3 := hT3.lt; obtain ⟨v0, v1, v2⟩ := hT4.three; have y0 := hT4.frozen 0; have y1 := hT4.frozen 1; have y2 := hT4.frozen 2; replace hb4 := hb3.trans (hb4.mono hb3.size)))
          refine bodyPost_ret (v := .tuple #[.agg #[.int .i64 k2, .int .i64 n2, .slice A4 ks2.length c4], .bool true]) (by simp [results, Try.results17, go_sem, v0, v1, v2]) rfl ⟨A4, c4, rfl, hl4, ?_, ?_⟩
          · exact (((hf4.setCell (by simp; omega) _).setCell (by simp; omega) _).setCell (by simp; omega) _).mono (by omega)
          · exact ((hb4.setCell (by simp) _).setCell (by simp) _).setCell (by simp) _
    · have h60 : (decide (0 ≤ (args.length : Int)) && decide ((args.length : Int) ≤ 6)) = false := by
        rw [Bool.and_eq_false_iff]; right; exact decide_eq_false (by omega)
      have hz : fillTI (.mk k n ks) args = none := by rw [fillTI, if_neg]; rintro ⟨-, h, -⟩; omega
      rw [hz]
      have hla' := hide hla
      clear hla hz
      go_enter Try.func17, Try.ntmps17
      go_wp2_with (first | (go_at_call 34; refine (iTermValid_any k n ks A c _ (by omega) ((hr.alloc _).alloc _)).mono ?_; rw [hv]; rintro e w1 ⟨rfl, hb1⟩; have hB1 : Blk w1 w.heap.size #[.int .i64 k, .int .i64 n, .slice A ks.length c] := ((Blk.new_ w 25 #[.int .i64 k, .int .i64 n, .slice A ks.length c] rfl).alloc _).keep hb1; obtain ⟨p0, p1, p2⟩ := hB1.three; have hT1 : Blk w1 (w.heap.size + 1) #[.int .i64 0, .int .i64 0, .slice none 0 0] := (Blk.new_ _ 25 _ (by simp)).keep hb1; obtain ⟨d0, d1, d2⟩ := hT1.three; have e0 := hT1.frozen 0; have e1 := hT1.frozen 1; have e2 := hT1.frozen 2; have hr1 := ((hr.alloc (.cells #[.int .i64 k, .int .i64 n, .slice A ks.length c] 25)).alloc (.cells #[.int .i64 0, .int .i64 0, .slice none 0 0] 25)).below hb1; have ha1 := ((hRa.alloc (.cells #[.int .i64 k, .int .i64 n, .slice A ks.length c] 25)).alloc (.cells #[.int .i64 0, .int .i64 0, .slice none 0 0] 25)).below hb1; replace hb1 : Below w.heap.size w w1 := (((Below.refl _ _).alloc (Nat.le_refl _) _).alloc (by simp) _).trans (hb1.mono (by simp; omega))) | (go_at_call 56; refine (isHoles_any _ _).mono ?_; rw [h60]; rintro e w2 ⟨rfl, rfl⟩))
      refine bodyPost_ret (v := .tuple #[zeroV, .bool false]) (by simp [results, Try.results17, go_sem, d0, d1, d2, zeroV]) rfl ⟨rfl, ?_⟩
      exact ((hb1.setCell (by simp) _).setCell (by simp) _).setCell (by simp) _
end Go.Proofs.Ytodkenpmhhbppaa
