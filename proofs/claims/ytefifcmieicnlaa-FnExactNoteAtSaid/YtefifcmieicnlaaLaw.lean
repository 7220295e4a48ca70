/-
  The functions of the laws' own package that copy, count and compare terms: what each call computes. No condition.
-/
import Derived.Test.YtefifcmieicnlaaApp
import Derived.Test.YtefifcmieicnlaaReg
import Derived.WalkSpells
import Derived.WalkLawsBesides
namespace Go.Proofs.Ytefifcmieicnlaa
open Go.RowKit
set_option linter.unusedSimpArgs false
set_option linter.unusedVariables false

def szR (left : Int) (m : Nat) : Int := if left < m then -1 else left - m
theorem szR_le (left : Int) (m : Nat) (h0 : 0 ≤ left) : -1 ≤ szR left m ∧ szR left m ≤ left := by unfold szR; split <;> omega
theorem szR_pos {left : Int} {m : Nat} (h : 0 ≤ szR left m) : (m : Int) ≤ left ∧ szR left m = left - m := by unfold szR at *; split <;> simp_all
theorem szR_neg {left : Int} {m : Nat} (h : szR left m < 0) : left < m := by unfold szR at *; split at h <;> omega
theorem szR_no {left : Int} {m : Nat} (h : left < m) : szR left m = -1 := by unfold szR; rw [if_pos h]
theorem szR_yes {left : Int} {m : Nat} (h : m ≤ left) : szR left m = left - m := by unfold szR; rw [if_neg (by omega)]

def sumk : List Tm → Nat | [] => 0 | t :: ts => sizes t.ks + sumk ts
theorem sizes_sumk (ks : List Tm) : sizes ks = ks.length + sumk ks := by
  induction ks with
  | nil => simp [sizes, sumk]
  | cons t ts ih => cases t; simp only [sizes, sumk, Tm.size, Tm.ks, List.length_cons, ih]; omega
theorem sumk_append (a b : List Tm) : sumk (a ++ b) = sumk a + sumk b := by
  induction a with
  | nil => simp [sumk]
  | cons x r ih => simp only [List.cons_append, sumk, ih]; omega
theorem sumk_take (ks : List Tm) (j : Nat) (hj : j < ks.length) : sumk (ks.take (j + 1)) = sumk (ks.take j) + sizes ks[j].ks := by
  rw [List.take_succ_eq_append_getElem hj, sumk_append]; simp [sumk]
theorem sumk_le (ks : List Tm) (j : Nat) : sumk (ks.take j) ≤ sumk ks := by
  have := sumk_append (ks.take j) (ks.drop j); rw [List.take_append_drop] at this; omega

set_option maxHeartbeats 400000 in
theorem szTerm_of {N : Nat} (ih : ∀ (ks : List Tm) (A : Option Addr) (c : Nat) (left : Int) (w : World), sizes ks < N → ks.length ≤ 9223372036854775807 → Rd w A 0 ks → 0 ≤ left → left ≤ 1048576 →
      Calls Try.prog 25 #[.slice A ks.length c, .int .i64 left] w fun e w' => e = .returned (.int .i64 (szR left (sizes ks))) ∧ Below w.heap.size w w')
    (k n : Int) (ks : List Tm) (A : Option Addr) (c : Nat) (left : Int) (w : World) (hN : sizes ks < N) (hl : ks.length ≤ 9223372036854775807) (hr : Rd w A 0 ks) (h0 : 0 ≤ left) (h1 : left ≤ 1048576) :
    Calls Try.prog 14 #[.agg #[.int .i64 k, .int .i64 n, .slice A ks.length c], .int .i64 left] w fun e w' => e = .returned (.int .i64 (szR left (sizes ks))) ∧ Below w.heap.size w w' := by
  have hz := szR_le left (sizes ks) h0
  go_enter Try.func14, Try.ntmps14
  go_wp2_with (go_at_call 25; refine (ih ks A c left _ hN hl (hr.alloc _) h0 h1).mono ?_; rintro e w' ⟨rfl, hb⟩)
  all_goals go_ret
  · exact ⟨ret_int (by omega), ((Below.refl _ _).alloc (Nat.le_refl _) _).trans (hb.mono (by simp))⟩
  · exact ⟨rfl, ((Below.refl _ _).alloc (Nat.le_refl _) _).trans (hb.mono (by simp))⟩

set_option maxHeartbeats 400000 in
theorem szTermS_any (N : Nat) : ∀ (ks : List Tm) (A : Option Addr) (c : Nat) (left : Int) (w : World), sizes ks < N → ks.length ≤ 9223372036854775807 → Rd w A 0 ks → 0 ≤ left → left ≤ 1048576 →
      Calls Try.prog 25 #[.slice A ks.length c, .int .i64 left] w fun e w' => e = .returned (.int .i64 (szR left (sizes ks))) ∧ Below w.heap.size w w' := by
  induction N with
  | zero =>
    intro ks A c left w hN
    exact absurd hN (Nat.not_lt_zero _)
  | succ N ih =>
  intro ks A c left w hN hl hr h0 h1
  have hss := sizes_sumk ks
  by_cases hlen : left < (ks.length : Int)
  · go_enter Try.func25, Try.ntmps25
    go_wp2_with fail
    go_ret
    exact ⟨ret_int (by unfold szR; rw [if_pos (by omega)]), Below.refl _ _⟩
  · have H := hide hss; clear hss
    go_enter Try.func25, Try.ntmps25
    go_wp2_with fail
    go_loopw [1, 5] (fun l i wr => ∃ j : Nat, j ≤ ks.length ∧ i = .int .i64 j ∧ l = .int .i64 (left - ks.length - sumk (ks.take j)) ∧ 0 ≤ left - ks.length - sumk (ks.take j) ∧ Below w.heap.size w wr)
      (fun _ i _ => ks.length - (intOf i).toNat)
    case atStart => exact ⟨0, Nat.zero_le _, rfl, by simp [sumk], by simp [sumk]; omega, Below.refl _ _⟩
    case round =>
      obtain ⟨j, hj, rfl, rfl, hp, hb⟩ := hrel
      by_cases hlt : j < ks.length
      · obtain ⟨b, off, k, n, ks', A', c', rfl, hkj, hc1, hc2, hc3, hl', hr'⟩ := (hr.below hb).at_ hlt
        have hst := sumk_take ks j hlt
        have hsl := sumk_le ks (j + 1)
        have hsz := sizes_le (List.getElem_mem hlt)
        rw [hkj] at hst hsz
        simp only [Tm.ks, Tm.size] at hst hsz
        have hzz := szR_le (left - ks.length - sumk (ks.take j)) (sizes ks') hp
        have H2 := hide hst; have H3 := hide hkj; clear hst hkj
        go_wp2_with (go_at_call 14; refine (szTerm_of ih k n ks' A' c' _ _ (by omega) hl' hr' (by omega) (by omega)).mono ?_; rintro e w' ⟨rfl, hb'⟩)
        · go_ret
          have hneg := szR_neg (by assumption)
          exact ⟨ret_int (szR_no (by have := H.out; have := H2.out; omega)).symm, hb.trans (hb'.mono hb.size)⟩
        · have hpos := szR_pos (by assumption)
          go_roundw
          case rel => exact ⟨j + 1, by omega, by go_num, by rw [hpos.2, H2.out]; go_num, by rw [H2.out]; omega, hb.trans (hb'.mono hb.size)⟩
          case measure => simp [intOf]; omega
      · go_wp2_with fail
        go_ret
        have hjl : j = ks.length := by omega
        subst hjl
        have := H.out
        rw [List.take_length] at *
        exact ⟨ret_int (by rw [szR_yes (by omega)]; omega), hb⟩
theorem szTerm_any (k n : Int) (ks : List Tm) (A : Option Addr) (c : Nat) (left : Int) (w : World) (hl : ks.length ≤ 9223372036854775807) (hr : Rd w A 0 ks) (h0 : 0 ≤ left) (h1 : left ≤ 1048576) :
    Calls Try.prog 14 #[.agg #[.int .i64 k, .int .i64 n, .slice A ks.length c], .int .i64 left] w fun e w' => e = .returned (.int .i64 (szR left (sizes ks))) ∧ Below w.heap.size w w' :=
  szTerm_of (N := sizes ks + 1) (szTermS_any _) k n ks A c left w (by omega) hl hr h0 h1
set_option maxRecDepth 100000 in
set_option maxHeartbeats 400000 in
theorem toTerm_of {N : Nat} (ih : ∀ (ks : List Tm) (A : Option Addr) (c : Nat) (w : World), sizes ks < N → sizes ks ≤ 1099511627776 → Rd w A 0 ks → Calls Try.prog 27 #[.slice A ks.length c] w (GotL w ks))
    (k n : Int) (ks : List Tm) (A : Option Addr) (c : Nat) (w : World) (hN : sizes ks < N) (hM : sizes ks ≤ 1099511627776) (hr : Rd w A 0 ks) :
    Calls Try.prog 16 #[.agg #[.int .i64 k, .int .i64 n, .slice A ks.length c]] w (GotT w k n ks) := by
  have hlen := length_le_sizes ks
  go_enter Try.func16, Try.ntmps16
  go_wp2_with (go_at_call 27; refine (ih ks A c _ hN hM (((hr.alloc _).alloc _).alloc _)).mono ?_; rintro e w1 ⟨A1, c1, rfl, hf1, hb1⟩; obtain ⟨hc, hf⟩ := bcell hb1)
  refine bodyPost_ret (v := .agg #[.int .i64 k, .int .i64 n, .slice A1 ks.length c1]) (by simp [results, Try.results16, go_sem, hc]) rfl ⟨A1, c1, rfl, by omega, ?_, ?_⟩
  · exact ((((hf1.setCell (by simp) _).setCell (by simp) _).setCell (by simp) _).setCell (by simp) _).mono (by simp; omega)
  · exact (((((((Below.refl _ _).alloc (by simp) _).alloc (by simp) _).alloc (by simp; omega) _).trans (hb1.mono (by simp; omega))).setCell (by simp; omega) _).setCell (by simp) _).setCell (by simp) _ |>.setCell (by simp) _

set_option maxRecDepth 100000 in
set_option maxHeartbeats 400000 in
theorem toTermS_any (N : Nat) : ∀ (ks : List Tm) (A : Option Addr) (c : Nat) (w : World), sizes ks < N → sizes ks ≤ 1099511627776 → Rd w A 0 ks → Calls Try.prog 27 #[.slice A ks.length c] w (GotL w ks) := by
  induction N with
  | zero => intro ks A c w hN; exact absurd hN (Nat.not_lt_zero _)
  | succ N ih =>
  intro ks A c w hN hM hr
  have hlen := length_le_sizes ks
  have hmk := mk_terms ks.length (by omega)
  go_enter Try.func27, Try.ntmps27
  go_wp2_with fail
  go_loopw [4] (fun i wr => ∃ j : Nat, j ≤ ks.length ∧ i = .int .i64 j ∧ Fill wr w.heap.size ks.length (ks.take j) ∧ Below w.heap.size w wr) (fun i _ => ks.length - (intOf i).toNat)
  case atStart => exact ⟨0, Nat.zero_le _, rfl, mk_fill _ _, (Below.refl _ _).alloc (Nat.le_refl _) _⟩
  case round =>
    obtain ⟨j, hj, rfl, hfl, hb⟩ := hrel
    by_cases hlt : j < ks.length
    · obtain ⟨b, off, k', n', ks', A', c', rfl, hkj, hc1, hc2, hc3, hl', hr'⟩ := (hr.below hb).at_ hlt
      have hsz := sizes_le (List.getElem_mem hlt)
      rw [hkj] at hsz
      simp only [Tm.size] at hsz
      have H3 := hide hkj
      clear hkj
      have hgl := hfl.lt
      go_wp2_with (go_at_call 16; refine (toTerm_of ih k' n' ks' A' c' _ (by omega) (by omega) hr').mono ?_; rintro e w1 ⟨A1, c1, rfl, hl1, hf1, hb1⟩; obtain ⟨u0, x0⟩ := (hfl.below hb1).cell (j := j * 3) (by omega); obtain ⟨u1, x1⟩ := (hfl.below hb1).cell (j := j * 3 + 1) (by omega); obtain ⟨u2, x2⟩ := (hfl.below hb1).cell (j := j * 3 + 2) (by omega); have z0 := (hfl.below hb1).frozen (j * 3); have z1 := (hfl.below hb1).frozen (j * 3 + 1); have z2 := (hfl.below hb1).frozen (j * 3 + 2))
      go_roundw
      case rel =>
        refine ⟨j + 1, by omega, by go_num, ?_, ?_⟩
        · rw [List.take_succ_eq_append_getElem hlt, H3.out]
          exact hfl.set_ hb1 hf1 hl1 (by simp; omega) hlt
        · exact (((hb.trans (hb1.mono hb.size)).setCell (by simp) _).setCell (by simp) _).setCell (by simp) _
      case measure => simp [intOf]; omega
    · have hjl : j = ks.length := by omega
      subst hjl
      rw [List.take_length] at hfl
      go_wp2_with fail
      go_ret
      exact ⟨_, _, rfl, hfl.fresh (Nat.le_refl _), hb⟩
theorem toTerm_any (k n : Int) (ks : List Tm) (A : Option Addr) (c : Nat) (w : World) (hM : sizes ks ≤ 1099511627776) (hr : Rd w A 0 ks) :
    Calls Try.prog 16 #[.agg #[.int .i64 k, .int .i64 n, .slice A ks.length c]] w (GotT w k n ks) :=
  toTerm_of (N := sizes ks + 1) (toTermS_any _) k n ks A c w (by omega) hM hr
mutual
/-- equal at every level -/
def tmEq : Tm → Tm → Bool
  | .mk k n ks, .mk k' n' ks' => k == k' && n == n' && tmsEq ks ks'
def tmsEq : List Tm → List Tm → Bool
  | [], [] => true
  | t :: ts, u :: us => tmEq t u && tmsEq ts us
  | _, _ => false
end
theorem tmEq_both : (∀ t u, tmEq t u = true ↔ t = u) ∧ (∀ ts us, tmsEq ts us = true ↔ ts = us) := by
  refine Tm.ind2 (fun k n ks ih u => ?_) (fun us => ?_) (fun t ts h1 h2 us => ?_)
  · obtain ⟨k', n', ks'⟩ := u
    simp only [tmEq, Bool.and_eq_true, beq_iff_eq, ih, Tm.mk.injEq, and_assoc]
  · cases us <;> simp [tmsEq]
  · cases us with
    | nil => simp [tmsEq]
    | cons u us => simp only [tmsEq, Bool.and_eq_true, h1, h2, List.cons.injEq]
theorem tmEq_iff {t u : Tm} : tmEq t u = true ↔ t = u := tmEq_both.1 t u
theorem tmsEq_iff {ts us : List Tm} : tmsEq ts us = true ↔ ts = us := tmEq_both.2 ts us
theorem tmEq_self (t : Tm) : tmEq t t = true := tmEq_iff.2 rfl
theorem tmsEq_self (ts : List Tm) : tmsEq ts ts = true := tmsEq_iff.2 rfl
theorem tmsEq_false {ts us : List Tm} (h : ts ≠ us) : tmsEq ts us = false := by
  cases e : tmsEq ts us with
  | false => rfl
  | true => exact absurd (tmsEq_iff.1 e) h

set_option maxRecDepth 100000 in
set_option maxHeartbeats 400000 in
theorem eqTerm_of {N : Nat} (ih : ∀ (ks : List Tm) (A : Option Addr) (c : Nat) (ls : List Tm) (B : Option Addr) (d : Nat) (w : World), sizes ks < N → ks.length ≤ 9223372036854775807 → ls.length ≤ 9223372036854775807 → Rd w A 0 ks → Rd w B 0 ls →
      Calls Try.prog 29 #[.slice A ks.length c, .slice B ls.length d] w fun e w' => e = .returned (.bool (tmsEq ks ls)) ∧ Below w.heap.size w w')
    (k n : Int) (ks : List Tm) (A : Option Addr) (c : Nat) (k' n' : Int) (ls : List Tm) (B : Option Addr) (d : Nat) (w : World) (hN : sizes ks < N) (hl : ks.length ≤ 9223372036854775807) (hl' : ls.length ≤ 9223372036854775807) (hr : Rd w A 0 ks) (hr' : Rd w B 0 ls) :
    Calls Try.prog 18 #[.agg #[.int .i64 k, .int .i64 n, .slice A ks.length c], .agg #[.int .i64 k', .int .i64 n', .slice B ls.length d]] w fun e w' => e = .returned (.bool (tmEq (.mk k n ks) (.mk k' n' ls))) ∧ Below w.heap.size w w' := by
  by_cases hk : k = k'
  · by_cases hn : n = n'
    · subst hk hn
      have h1 : (k == k) = true := by simp
      have h2 : (n == n) = true := by simp
      go_enter Try.func18, Try.ntmps18
      go_wp2_with (go_at_call 29; refine (ih ks A c ls B d _ hN hl hl' ((hr.alloc _).alloc _) ((hr'.alloc _).alloc _)).mono ?_; rintro e w1 ⟨rfl, hb1⟩)
      all_goals go_ret
      all_goals refine ⟨ret_bool ?_, (((Below.refl _ _).alloc (by simp) _).alloc (by simp) _).trans (hb1.mono (by simp; omega))⟩
      all_goals simp_all [tmEq]
    · have h2 : (n == n') = false := by simpa using hn
      subst hk
      go_enter Try.func18, Try.ntmps18
      go_wp2_with fail
      go_ret
      exact ⟨ret_bool (by simp [tmEq, h2]), (((Below.refl _ _).alloc (by simp) _).alloc (by simp) _)⟩
  · have h2 : (k == k') = false := by simpa using hk
    go_enter Try.func18, Try.ntmps18
    go_wp2_with fail
    go_ret
    exact ⟨ret_bool (by simp [tmEq, h2]), (((Below.refl _ _).alloc (by simp) _).alloc (by simp) _)⟩

set_option maxRecDepth 100000 in
set_option maxHeartbeats 400000 in
theorem eqTermS_any (N : Nat) : ∀ (ks : List Tm) (A : Option Addr) (c : Nat) (ls : List Tm) (B : Option Addr) (d : Nat) (w : World), sizes ks < N → ks.length ≤ 9223372036854775807 → ls.length ≤ 9223372036854775807 → Rd w A 0 ks → Rd w B 0 ls →
      Calls Try.prog 29 #[.slice A ks.length c, .slice B ls.length d] w fun e w' => e = .returned (.bool (tmsEq ks ls)) ∧ Below w.heap.size w w' := by
  induction N with
  | zero => intro ks A c ls B d w hN; exact absurd hN (Nat.not_lt_zero _)
  | succ N ih =>
  intro ks A c ls B d w hN hl hl' hr hr'
  by_cases hlen : ks.length = ls.length
  · have hq : ((ks.length : Int) != (ls.length : Int)) = false := by simp [hlen]
    have hH := hide hlen
    have hle : ls.length ≤ ks.length := by omega
    have hge : ks.length ≤ ls.length := by omega
    clear hlen
    go_enter Try.func29, Try.ntmps29
    go_wp2_with fail
    go_loopw [5] (fun i wr => ∃ j : Nat, j ≤ ks.length ∧ i = .int .i64 j ∧ Hid (ks.take j = ls.take j) ∧ Below w.heap.size w wr) (fun i _ => ks.length - (intOf i).toNat)
    case atStart => exact ⟨0, Nat.zero_le _, rfl, hide (by simp), Below.refl _ _⟩
    case round =>
      obtain ⟨j, hj, rfl, heq, hb⟩ := hrel
      by_cases hlt : j < ks.length
      · have hlt' : j < ls.length := by omega
        obtain ⟨b, off, k1, n1, ks1, A1, c1, rfl, hkj, hc1, hc2, hc3, hl1, hr1⟩ := (hr.below hb).at_ hlt
        obtain ⟨b2, off2, k2, n2, ks2, A2, c2, rfl, hkj2, hd1, hd2, hd3, hl2, hr2⟩ := (hr'.below hb).at_ hlt'
        have hsz := sizes_le (List.getElem_mem hlt)
        rw [hkj] at hsz
        simp only [Tm.size] at hsz
        have H3 := hide hkj
        have H4 := hide hkj2
        clear hkj hkj2
        have r1 := rule_of hc1
        have r2 := rule_of hc2
        have r3 := rule_of hc3
        have r4 := rule_of hd1
        have r5 := rule_of hd2
        have r6 := rule_of hd3
        go_wp2_with fail
        refine wp_region_first (fun w' => Below wr.heap.size wr w') [0, 1, 2, 3, 4, 5, 6, 7] [] [8, 9] [_, _, _, _, _, _, _, _] [] [_, _] (by kernel_rfl) (by kernel_rfl) rfl rfl rfl (fun _ _ d _ _ h => by cases d <;> exact h) (Below.refl _ _).drew ?_
        repeat (first | ((refine take_skip (a' := ?_) ?_ ?_ ?_); (rotate_left); (· (simp [Region.wanted, yielded]; done)); (· (simp only [Act.put, List.setIfInBounds_toArray, List.set_cons_zero, List.set_cons_succ]; exact rfl))) | ((refine take_step (v := ?_) (a' := ?_) ?_ ?_ ?_ ?_); (rotate_left 2); (· (simp [Region.wanted, yielded]; done)); (· (intro w' hS'; go_simp; try (with_reducible rfl))); (· (simp only [Act.put, List.setIfInBounds_toArray, List.set_cons_zero, List.set_cons_succ]; exact rfl))))
        refine take_nil (then_nil ?_)
        go_wp2_with (go_at_call 18; refine (eqTerm_of ih k1 n1 ks1 A1 c1 k2 n2 ks2 A2 c2 _ (by omega) hl1 hl2 hr1.drew hr2.drew).mono ?_; rintro e w1 ⟨rfl, hb1⟩)
        · go_ret
          have hne0 : (!tmEq (.mk k1 n1 ks1) (.mk k2 n2 ks2)) = true := by assumption
          have hne : tmEq (.mk k1 n1 ks1) (.mk k2 n2 ks2) = false := by simpa using hne0
          refine ⟨ret_bool (tmsEq_false fun e => ?_).symm, hb.drew.trans (hb1.mono (by simpa using hb.size))⟩
          subst e
          rw [← H3.out, ← H4.out, tmEq_self] at hne
          cases hne
        · have heq0 : (!tmEq (.mk k1 n1 ks1) (.mk k2 n2 ks2)) = false := by assumption
          have heq1 : tmEq (.mk k1 n1 ks1) (.mk k2 n2 ks2) = true := by simpa using heq0
          go_roundw
          case rel => exact ⟨j + 1, by omega, by go_num, hide (by rw [List.take_succ_eq_append_getElem hlt, List.take_succ_eq_append_getElem hlt', heq.out, H3.out, H4.out, tmEq_iff.1 heq1]), hb.drew.trans (hb1.mono (by simpa using hb.size))⟩
          case measure => simp [intOf]; omega
      · go_wp2_with fail
        go_ret
        have hjl : j = ks.length := by omega
        have h5 := heq.out
        rw [hjl, List.take_length, hH.out, List.take_length] at h5
        exact ⟨ret_bool (tmsEq_iff.2 h5).symm, hb⟩
  · have hq : ((ks.length : Int) != (ls.length : Int)) = true := by simp; omega
    go_enter Try.func29, Try.ntmps29
    go_wp2_with fail
    go_ret
    exact ⟨ret_bool (tmsEq_false (fun e => hlen (by rw [e]))).symm, Below.refl _ _⟩
theorem eqTerm_any (k n : Int) (ks : List Tm) (A : Option Addr) (c : Nat) (k' n' : Int) (ls : List Tm) (B : Option Addr) (d : Nat) (w : World) (hl : ks.length ≤ 9223372036854775807) (hl' : ls.length ≤ 9223372036854775807) (hr : Rd w A 0 ks) (hr' : Rd w B 0 ls) :
    Calls Try.prog 18 #[.agg #[.int .i64 k, .int .i64 n, .slice A ks.length c], .agg #[.int .i64 k', .int .i64 n', .slice B ls.length d]] w fun e w' => e = .returned (.bool (tmEq (.mk k n ks) (.mk k' n' ls))) ∧ Below w.heap.size w w' :=
  eqTerm_of (N := sizes ks + 1) (eqTermS_any _) k n ks A c k' n' ls B d w (by omega) hl hl' hr hr'
end Go.Proofs.Ytefifcmieicnlaa
