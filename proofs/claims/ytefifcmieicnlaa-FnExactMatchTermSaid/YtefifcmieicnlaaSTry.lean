/-
  l13Try of the reference. No condition.
-/
import Derived.Test.YtefifcmieicnlaaSMatch
import Derived.Test.YtefifcmieicnlaaSeen
namespace Go.Proofs.Ytefifcmieicnlaa
open Go.RowKit
set_option linter.unusedSimpArgs false
set_option linter.unusedVariables false

theorem ownX_zero (w : World) : ∀ n : Nat, OwX w (List.replicate n zeroT) (List.replicate n [(.int .i64 0 : Value), .int .i64 0, .slice none 0 0]).flatten []
  | 0 => by simpa using OwX.nil
  | n + 1 => by
    rw [List.replicate_succ, List.replicate_succ, List.flatten_cons]
    exact OwX.cons_iff.2 ⟨_, _, [], [], rfl, rfl, OwT.iff.2 ⟨none, 0, rfl, by simp, .inl ⟨rfl, rfl⟩⟩, ownX_zero w n⟩
theorem zero_cells (n : Nat) (hn : n ≤ 6) : (madeCells #[.int .i64 0, .int .i64 0, .slice none 0 0] (n * 3)).toList = ((List.replicate n [(.int .i64 0 : Value), .int .i64 0, .slice none 0 0]).flatten) := by
  rcases (show n = 0 ∨ n = 1 ∨ n = 2 ∨ n = 3 ∨ n = 4 ∨ n = 5 ∨ n = 6 by omega) with rfl | rfl | rfl | rfl | rfl | rfl | rfl <;> simp [madeCells, List.range_succ, List.replicate_succ]
theorem mk_tab (n : Nat) (hn : n ≤ 6) (W : World) (lo : Nat) (hlo : W.heap.size < lo) : Tab (W.alloc (.cells (madeCells #[.int .i64 0, .int .i64 0, .slice none 0 0] (n * 3)) 29)) lo W.heap.size (List.replicate n zeroT) :=
  ⟨hlo, _, [], heap_alloc_new W _, by simp [madeCells], by rw [zero_cells n hn]; exact ownX_zero _ n, List.nodup_nil, by simp⟩
theorem mk_tab' (n : Nat) (hn : n ≤ 6) (W : World) (g lo : Nat) (hg : g = W.heap.size) (hlo : g < lo) : Tab (W.alloc (.cells (madeCells #[.int .i64 0, .int .i64 0, .slice none 0 0] (n * 3)) 29)) lo g (List.replicate n zeroT) := by subst hg; exact mk_tab n hn W lo hlo
theorem bool_info : (Try.prog.info? 4).map (fun i => (i.zero, i.size, i.bytes)) = some (some (.bool false), 1, 1) := by kernel_rfl
theorem mk_bools (n : Nat) (hn : n ≤ 6) (W : World) : (Instr.makeSlice 112 (.int .i64 (n : Int)) (.int .i64 (n : Int))).run Try.prog W = .ok (.slice (some ⟨W.heap.size, 0, none⟩) n n) (W.alloc (.cells (bools (List.replicate n false)) 4)) := by
  obtain ⟨i0, hi, hz0, hz1, hz2⟩ := info_parts bool_info
  have h := run_make_rowN (P := Try.prog) 112 4 i0 _ Try.underlying112 hi hz0 .i64 .i64 n n (Nat.le_refl _) (by rw [hz2]; omega) (by omega) W
  rw [hz1] at h
  rw [h]
  have e : madeCells (Value.bool false).cells (n * 1) = bools (List.replicate n false) := by
    apply Array.ext'
    rcases (show n = 0 ∨ n = 1 ∨ n = 2 ∨ n = 3 ∨ n = 4 ∨ n = 5 ∨ n = 6 by omega) with rfl | rfl | rfl | rfl | rfl | rfl | rfl <;> simp [madeCells, bools, Value.cells, List.range_succ, List.replicate_succ]
  rw [e]

/-- a list and whether it is one -/
def GotLO (w : World) (o : Option (List Tm)) (e : Ending) (w' : World) : Prop :=
  ∃ A c, e = .returned (.tuple #[.slice A (o.getD []).length c, .bool o.isSome]) ∧ Fresh w.heap.size w' A (o.getD []) ∧ Below w.heap.size w w'

set_option maxHeartbeats 2000000 in
set_option maxRecDepth 100000 in
theorem sTry_any (m : Nat) (hm : m ≤ 6) (add : Int) (hadd : 0 ≤ add ∧ add ≤ 6) (k n : Int) (ks : List Tm) (A : Option Addr) (c : Nat) (ku nu : Int) (us : List Tm) (U : Option Addr) (cu : Nat) (w : World) (hv : validT (.mk k n ks) = true) (hvu : validT (.mk ku nu us) = true) (hr : Rd w A 0 ks) (hru : Rd w U 0 us) :
    Calls Try.prog 74 #[.agg #[.int .i64 k, .int .i64 n, .slice A ks.length c], .int .i64 m, .agg #[.int .i64 ku, .int .i64 nu, .slice U us.length cu], .int .i64 add] w (GotLO w (tryS m add (.mk k n ks) (.mk ku nu us))) := by
  have hs : shape 30 (.mk k n ks) = true := by simp only [validT, Bool.and_eq_true] at hv; exact hv.1
  have hrp : RdP (fun b => b ≠ w.heap.size + 1 + 1 ∧ b ≠ w.heap.size + 1 + 1 + 1) w A 0 ks := hr.rdp.mono (fun b hb => by omega)
  have hrup : RdP (fun b => b ≠ w.heap.size + 1 + 1 ∧ b ≠ w.heap.size + 1 + 1 + 1) w U 0 us := hru.rdp.mono (fun b hb => by omega)
  have hml := mt_length m add (.mk k n ks) 0 (.mk ku nu us) (List.replicate m zeroT, List.replicate m false)
  obtain ⟨bq, G2, S2, hmt⟩ : ∃ bq G2 S2, mt m add 0 (.mk k n ks) (.mk ku nu us) (List.replicate m zeroT, List.replicate m false) = (bq, (G2, S2)) := ⟨_, _, _, rfl⟩
  have htr : tryS m add (.mk k n ks) (.mk ku nu us) = if bq = true ∧ S2.all id = true then some G2 else none := by rw [tryS, mt0, hmt]
  rw [hmt] at hml
  simp only [List.length_replicate] at hml
  obtain ⟨hG2, hS2⟩ := hml
  rw [htr]
  obtain ⟨oo, hoo⟩ : ∃ oo, (if bq = true ∧ S2.all id = true then some G2 else none) = oo := ⟨_, rfl⟩
  rw [hoo]
  have hoo' := hide hoo
  have hmt' := hide hmt
  clear hmt htr hoo
  have mk1 := mk_terms m (by omega)
  have mk2 := mk_bools m (by omega)
  go_enter Try.func74, Try.ntmps74
  go_wp2_with (go_at_call 116; refine (sMatch_any m hm add hadd (w.heap.size + 1 + 1 + 1 + 1) (w.heap.size + 1 + 1) (w.heap.size + 1 + 1 + 1) (by omega) (by omega) _ k n ks A c ku nu us U cu 0 30 m m (List.replicate m zeroT) (List.replicate m false) _ (Nat.lt_succ_self _) hv hvu hs (by omega) (by omega) (by simp) (by simp) ((((hrp.alloc _).alloc _).alloc _).alloc _) ((((hrup.alloc _).alloc _).alloc _).alloc _) ((mk_tab' m hm _ _ _ (by simp) (by omega)).alloc _) (Blk.new_ _ _ _ (by simp)) (by simp)).mono ?_; rw [hmt'.out]; rintro e w1 ⟨rfl, hT, hS, ho⟩)
  have hb1 : Below w.heap.size w w1 := ((((((Below.refl _ _).alloc (Nat.le_refl _) _).alloc (by simp) _).alloc (by simp; omega) _).alloc (by simp; omega) _)).trans (ho.below (by simp; omega) (by simp; omega))
  go_loopw [12, 13] (fun b i wr => ∃ j : Nat, j ≤ m ∧ i = .int .i64 j ∧ b = .bool (bq && (S2.take j).all id) ∧ wr = w1) (fun _ i _ => m - (intOf i).toNat)
  case atStart => exact ⟨0, Nat.zero_le _, rfl, by simp, rfl⟩
  case round =>
    obtain ⟨j, hj, rfl, rfl, rfl⟩ := hrel
    by_cases hlt : j < m
    · have xs := hS.at_ (bools_get (S := S2) (j := j) (by omega))
      have hnx : (S2.take (j + 1)).all id = ((S2.take j).all id && S2.getD j false) := by
        rw [List.take_succ_eq_append_getElem (by omega), List.all_append]
        simp [List.getD, List.getElem?_eq_getElem (show j < S2.length by omega)]
      have hnx' := hide hnx
      clear hnx
      generalize hbj : (bq && (S2.take j).all id) = bj
      have hbj' := hide hbj
      clear hbj
      cases bj with
      | true =>
        go_wp2_with fail
        go_roundw
        case rel => exact ⟨j + 1, by omega, by go_num, by rw [hnx'.out, ← Bool.and_assoc, hbj'.out, Bool.true_and]; simp [List.getD, List.getElem?_eq_getElem (show j < S2.length by omega)], by trivial⟩
        case measure => simp [intOf]; omega
      | false =>
        go_wp2_with fail
        go_roundw
        case rel => exact ⟨j + 1, by omega, by go_num, by simp only [hnx'.out, ← Bool.and_assoc, hbj'.out, Bool.false_and], by trivial⟩
        case measure => simp [intOf]; omega
    · have hjl : j = S2.length := by omega
      have hjm : j = m := by omega
      rw [hjl, List.take_length, ← hjl]
      clear hjl
      generalize hbj : (bq && S2.all id) = bj
      have hbj' := hide hbj
      clear hbj
      cases bj with
      | true =>
        have hyes : oo = some G2 := by rw [← hoo'.out, if_pos (by simpa using hbj'.out)]
        subst hyes
        go_wp2_with fail
        go_ret2
        refine ⟨some ⟨w.heap.size + 1 + 1, 0, none⟩, m, by simp [hG2], ?_, hb1⟩
        exact hT.fresh (by omega)
      | false =>
        have hno : oo = none := by rw [← hoo'.out, if_neg (by rintro ⟨h1, h2⟩; have := hbj'.out; rw [h1, h2] at this; cases this)]
        subst hno
        go_wp2_with fail
        go_ret2
        exact ⟨_, _, rfl, Fresh.nil, hb1.alloc hb1.size _⟩
end Go.Proofs.Ytefifcmieicnlaa
