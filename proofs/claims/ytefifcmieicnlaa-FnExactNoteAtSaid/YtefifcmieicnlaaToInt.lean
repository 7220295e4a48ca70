/-
  toIntS of the laws. No condition.
-/
import Derived.Test.YtefifcmieicnlaaIntS
namespace Go.Proofs.Ytefifcmieicnlaa
open Go.RowKit
set_option linter.unusedSimpArgs false
set_option linter.unusedVariables false

def ints (xs : List Int) : Array Value := (xs.map (Value.int .i64)).toArray
theorem ints_size (xs : List Int) : (ints xs).size = xs.length := by simp [ints]
theorem ints_get {xs : List Int} {j : Nat} (h : j < xs.length) : (ints xs)[j]? = some (.int .i64 xs[j]) := by simp [ints, List.getElem?_eq_getElem h]
theorem ints_set (xs : List Int) (j : Nat) (x : Int) : (ints xs).setIfInBounds j (.int .i64 x) = ints (xs.set j x) := by simp [ints, List.map_set]
theorem Blk.rdi {w : World} {g : Nat} {xs : List Int} (h : Blk w g (ints xs)) : RdI w (some ⟨g, 0, none⟩) xs := fun j hj => ⟨g, 0, rfl, by rw [Nat.zero_add]; exact h.at_ (ints_get hj)⟩
theorem int_info3 : (Try.prog.info? 3).map (fun i => (i.zero, i.size, i.bytes)) = some (some (.int .i64 0), 1, 8) := by kernel_rfl
theorem mk_ints (n : Nat) (hn : n ≤ 1099511627776) (W : World) : (Instr.makeSlice 44 (.int .i64 (n : Int)) (.int .i64 (n : Int))).run Try.prog W = .ok (.slice (some ⟨W.heap.size, 0, none⟩) n n) (W.alloc (.cells (ints (List.replicate n 0)) 3)) := by
  obtain ⟨i0, hi, hz0, hz1, hz2⟩ := info_parts int_info3
  have h := run_make_rowN (P := Try.prog) 44 3 i0 _ Try.underlying44 hi hz0 .i64 .i64 n n (Nat.le_refl _) (by rw [hz2]; omega) (by omega) W
  rw [hz1] at h
  rw [h]
  have e : madeCells (Value.int .i64 0).cells (n * 1) = ints (List.replicate n 0) := by
    apply Array.ext'
    simp only [madeCells, ints, Value.cells, Nat.mul_one, Array.toList_map, Array.toList_range, List.map_replicate]
    apply List.ext_getElem
    · simp
    · intro i h1 h2; simp [Nat.mod_one]
  rw [e]

set_option maxHeartbeats 2000000 in
set_option maxRecDepth 100000 in
theorem toIntS_any (xs : List Int) (A : Option Addr) (c : Nat) (w : World) (hx : xs.length ≤ 1099511627776) (hr : RdI w A xs) :
    Calls Try.prog 34 #[.slice A xs.length c] w fun e w' => e = .returned (.slice (some ⟨w.heap.size, 0, none⟩) xs.length xs.length) ∧ Blk w' w.heap.size (ints xs) ∧ Below w.heap.size w w' := by
  have hmk := mk_ints xs.length hx
  go_enter Try.func34, Try.ntmps34
  go_wp2_with fail
  go_loopw [4] (fun i wr => ∃ (j : Nat) (ys : List Int), j ≤ xs.length ∧ i = .int .i64 j ∧ ys.length = xs.length ∧ Hid (ys.take j = xs.take j) ∧ Blk wr w.heap.size (ints ys) ∧ Below w.heap.size w wr) (fun i _ => xs.length - (intOf i).toNat)
  case atStart => exact ⟨0, _, Nat.zero_le _, rfl, by simp, hide (by simp), Blk.new_ _ _ _ rfl, (Below.refl _ _).alloc (Nat.le_refl _) _⟩
  case round =>
    obtain ⟨j, ys, hj, rfl, hyl, hys, hB, hb⟩ := hrel
    by_cases hlt : j < xs.length
    · obtain ⟨b, off, rfl, hc⟩ := hr.below hb j hlt
      generalize hxj : xs[j] = x at hc
      have hxj' := hide hxj
      have y0 := hB.at_ (ints_get (xs := ys) (j := j) (by omega))
      have y1 := hB.frozen j
      clear hxj
      go_wp2_with fail
      go_roundw
      case rel => exact ⟨j + 1, ys.set j x, by omega, by go_num, by simpa using hyl, hide (by rw [List.take_succ_eq_append_getElem hlt, List.take_succ_eq_append_getElem (by simp; omega), List.take_set_of_le (Nat.le_refl _), hys.out, hxj'.out]; simp), by rw [← ints_set]; exact hB.set_ j _, hb.setCell (by simp) _⟩
      case measure => simp [intOf]; omega
    · have hjl : j = xs.length := by omega
      have hyx : ys = xs := by
        have h5 := hys.out
        rw [hjl, List.take_length, ← hyl, List.take_length] at h5
        exact h5
      rw [hyx] at hB
      go_wp2_with fail
      go_ret
      exact ⟨rfl, hB, hb⟩

theorem OnlyIn.set1 {g : Nat} {a w : World} (h : OnlyIn [g] a w) (i : Nat) (u : Value) : OnlyIn [g] a (w.setCell ⟨g, i, none⟩ u) := h.setCell (by simp) u
set_option maxHeartbeats 2000000 in
set_option maxRecDepth 100000 in
theorem markIntS_any (xs : List Int) (g : Nat) (c : Nat) (m : Int) (w : World) (hx : xs.length ≤ 1099511627776) (hm0 : 0 ≤ m) (hm1 : m ≤ 4398046511104) (hB0 : Blk w g (ints xs)) :
    Calls Try.prog 37 #[.slice (some ⟨g, 0, none⟩) xs.length c, .int .i64 m] w fun e w' => e = .returned (.int .i64 (m + xs.length)) ∧ OnlyIn [g] w w' := by
  go_enter Try.func37, Try.ntmps37
  go_wp2_with fail
  go_loopw [1, 5] (fun a i wr => ∃ (j : Nat) (ys : List Int), j ≤ xs.length ∧ i = .int .i64 j ∧ a = .int .i64 (m + j) ∧ ys.length = xs.length ∧ Blk wr g (ints ys) ∧ OnlyIn [g] w wr) (fun _ i _ => xs.length - (intOf i).toNat)
  case atStart => exact ⟨0, xs, Nat.zero_le _, rfl, by simp, rfl, hB0, OnlyIn.refl _ _⟩
  case round =>
    obtain ⟨j, ys, hj, rfl, rfl, hyl, hB, ho⟩ := hrel
    by_cases hlt : j < xs.length
    · have y0 := hB.at_ (ints_get (xs := ys) (j := j) (by omega))
      have y1 := hB.frozen j
      go_wp2_with fail
      go_roundw
      case rel => exact ⟨j + 1, ys.set j (m + j), by omega, by go_num, by go_num, by simpa using hyl, by rw [← ints_set]; exact hB.set_ j _, ho.set1 j _⟩
      case measure => simp [intOf]; omega
    · have hjl : j = xs.length := by omega
      subst hjl
      go_wp2_with fail
      go_ret
      exact ⟨rfl, ho⟩
end Go.Proofs.Ytefifcmieicnlaa
