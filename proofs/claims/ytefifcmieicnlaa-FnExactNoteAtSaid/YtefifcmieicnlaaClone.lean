/-
  slices.Clone of integers. No condition.
-/
import Derived.Test.YtefifcmieicnlaaToInt
import Derived.Test.YtefifcmieicnlaaWalked
import Derived.Lib.SliceRun
namespace Go.Proofs.Ytefifcmieicnlaa
open Go.RowKit
set_option linter.unusedSimpArgs false
set_option linter.unusedVariables false

/-- a slice of integers in a row of its own, which may grow -/
def RowI (B : Nat) (w : World) (v : Value) (xs : List Int) : Prop := w.ownsRow B 3 1 v xs.length (xs.map (Value.int .i64))
theorem RowI.keep {B : Nat} {w w' : World} {v : Value} {xs : List Int} (h : RowI B w v xs) (hk : ∀ b, B ≤ b → b < w.heap.size → w'.heap[b]? = w.heap[b]?) : RowI B w' v xs := by
  refine ⟨h.1, ?_⟩
  rcases h.2 with hn | ⟨g, cap, cur, rfl, hb, hg, r⟩
  · exact .inl hn
  · exact .inr ⟨g, cap, cur, rfl, hb, (hk g hb (Array.getElem?_eq_some_iff.1 hg).1).trans hg, r⟩
theorem RowI.below {B : Nat} {w w' : World} {v : Value} {xs : List Int} (h : RowI B w v xs) (hb : Below w.heap.size w w') : RowI B w' v xs := h.keep fun b _ hl => hb.block b hl
theorem RowI.form {B : Nat} {w : World} {v : Value} {xs : List Int} (h : RowI B w v xs) : ∃ A c, v = .slice A xs.length c ∧ RdI w A xs := by
  rcases h.2 with ⟨rfl, h0⟩ | ⟨g, cap, cur, rfl, hb, hg, hn, hm, hs, htk⟩
  · have : xs = [] := List.eq_nil_of_length_eq_zero h0
    subst this
    exact ⟨none, 0, rfl, fun j hj => absurd hj (Nat.not_lt_zero _)⟩
  · refine ⟨some ⟨g, 0, none⟩, cap, rfl, fun j hj => ⟨g, 0, rfl, ?_⟩⟩
    rw [Nat.zero_add, cell_of_row w g j cur 3 (0, 0) hg]
    have h1 : (cur.toList.take (xs.length * 1))[j]? = (xs.map (Value.int .i64))[j]? := by rw [htk]
    rw [Nat.mul_one, List.getElem?_take, if_pos hj, List.getElem?_map, List.getElem?_eq_getElem hj] at h1
    simpa using h1

set_option maxHeartbeats 2000000 in
set_option maxRecDepth 100000 in
theorem wpList_append_ints {B : Nat} {w : World} {v : Value} {xs ys : List Int} {ad : Addr} {c : Nat} (hp : RowI B w v xs) (hB : B ≤ w.heap.size) (hm : xs.length + ys.length ≤ 1099511627776)
    (hc : ∀ j (hj : j < ys.length), w.cell? (ad.add j) = some (.int .i64 ys[j]))
    {ops : Array Oper} {rest : List Oper} {o : Oper} {a : Act} {Q : Exit → Act → World → Prop} (hgd : o.guard = none) (s x : Operand)
    (ho : o.op = .call { callee := .builtin .append, args := #[s, x], argTypes := #[44, 44] }) (hs : a.eval s = v) (hx : a.eval x = .slice (some ad) ys.length c)
    (h : ∀ v' w', RowI B w' v' (xs ++ ys) → Below B w w' → w.grownBy w' v.ownBlock → wpList Try.prog ops Q rest (a.put o.dst v') w') :
    wpList Try.prog ops Q (o :: rest) a w := by
  refine wpList_plain hgd fun K hK => ?_
  obtain ⟨i, hi, hz, hz1, hz2⟩ := info_parts int_info3
  have hge : ∀ g, v.ownBlock = some g → B ≤ g := fun g hg => (hp.lt g hg).1
  obtain ⟨v', w', hrun, hown, hg, _, hat⟩ := run_append_own_at (P := Try.prog) w B 44 o.type 3 i _ 1 8 Try.underlying44 hi hz hz1 hz2 rfl (by omega) v xs.length _ hp ad ys.length c (ys.map (Value.int .i64)) (by simp) (by
    intro j u hj
    rw [List.getElem?_map] at hj
    cases hy : ys[j]? with
    | none => rw [hy] at hj; cases hj
    | some y =>
      rw [hy] at hj
      obtain ⟨hjl, rfl⟩ := List.getElem?_eq_some_iff.1 hy
      injection hj with hj
      rw [← hj]; exact hc j hjl) (by
    intro u hu
    obtain ⟨y, _, rfl⟩ := List.mem_map.1 hu
    rfl) (by simp only [maxLen]; omega) (by omega) (by omega)
  unfold Oper.wp execOp
  simp only [ho, resolve, invoke, builtin, Sem.run_bind, Sem.run_pure, Result.andThen_ok, List.map_toArray, List.map_cons, List.map_nil, hs, hx, hrun]
  refine hK _ _ (h v' w' ?_ ?_ hg)
  · unfold RowI; rw [List.length_append, List.map_append]; exact hown
  · exact ⟨hg.os, hg.tape, hg.output, hg.size, fun k hk => hg.block k (by omega) (fun e => by have := hge k e.symm; omega)⟩

theorem RowI.empty (w : World) {B : Nat} (hB : B ≤ w.heap.size) : RowI B (w.alloc (.cells #[] 3)) (.slice (some ⟨w.heap.size, 0, none⟩) 0 0) [] :=
  ⟨rfl, .inr ⟨w.heap.size, 0, #[], rfl, hB, heap_alloc_new w _, Nat.le_refl _, by simp [maxLen], rfl, rfl⟩⟩
def GotI (w : World) (xs : List Int) (e : Ending) (w' : World) : Prop := ∃ v, e = .returned v ∧ RowI w.heap.size w' v xs ∧ Below w.heap.size w w'

set_option maxHeartbeats 2000000 in
set_option maxRecDepth 100000 in
theorem clone_any (xs : List Int) (A : Option Addr) (c : Nat) (w : World) (hx : xs.length ≤ 1000000000) (hr : RdI w A xs) :
    Calls Try.prog 139 #[.slice A xs.length c] w (GotI w xs) := by
  have hnil := fun (w : World) (a : Option Addr) (n c : Nat) => Lib.run_eql_slice_nil (P := Try.prog) w 44 3 a n c 0 0 Try.underlying44
  cases A with
  | none =>
    have : xs = [] := by
      cases xs with
      | nil => rfl
      | cons x xs => obtain ⟨b, off, hA, _⟩ := hr 0 (by simp); cases hA
    subst this
    go_enter Try.func139, Try.ntmps139
    go_wp2_with fail
    go_ret
    exact ⟨_, rfl, ⟨rfl, .inl ⟨rfl, rfl⟩⟩, Below.refl _ _⟩
  | some ad =>
    have hcells : ∀ j (hj : j < xs.length), (w.alloc (.cells #[] 3)).cell? (ad.add j) = some (.int .i64 xs[j]) := fun j hj => by
      obtain ⟨b, off, hA, hc⟩ := hr j hj
      injection hA with hA
      subst hA
      refine Keeps.alloc w _ _ _ ?_
      by_cases h0 : j = 0
      · subst h0; simpa [Addr.add] using hc
      · simpa [Addr.add, h0] using hc
    go_enter Try.func139, Try.ntmps139
    go_wp2_with (at_builtin; refine wpList_append_ints (B := w.heap.size) (xs := []) (ys := xs) (ad := ad) (c := c) (RowI.empty w (Nat.le_refl _)) (by simp) (by simp; omega) hcells rfl (.tmp 5) (.tmp 6) rfl rfl rfl ?_; intro v2 w2 hR hb2 hg2)
    go_ret
    exact ⟨_, rfl, hR, ((Below.refl _ _).alloc (Nat.le_refl _) _).trans hb2⟩
end Go.Proofs.Ytefifcmieicnlaa
