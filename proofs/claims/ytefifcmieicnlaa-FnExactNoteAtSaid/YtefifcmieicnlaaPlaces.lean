/-
  The places of a term in their order, and where a path stands among them. No condition.
-/
import Derived.Test.YtefifcmieicnlaaSNote
namespace Go.Proofs.Ytefifcmieicnlaa
open Go.RowKit
set_option linter.unusedSimpArgs false
set_option linter.unusedVariables false

mutual
/-- the paths to the nodes that meet a test, the root first -/
def plT (f : Tm → Bool) : List Int → Tm → List (List Int) | p, .mk k n ks => (if f (.mk k n ks) = true then [p] else []) ++ plL f p 0 ks
def plL (f : Tm → Bool) : List Int → Nat → List Tm → List (List Int) | _, _, [] => [] | p, i, t :: ts => plT f (p ++ [(i : Int)]) t ++ plL f p (i + 1) ts
end
theorem pl_heads (f : Tm → Bool) (t : Tm) : ∀ p x, x ∈ plT f p t → ∃ q, x = p ++ q := by
  refine Tm.rec (motive_1 := fun t => ∀ p x, x ∈ plT f p t → ∃ q, x = p ++ q)
    (motive_2 := fun ts => ∀ p i x, x ∈ plL f p i ts → ∃ (j : Nat) (q : List Int), i ≤ j ∧ x = p ++ (j : Int) :: q) ?_ ?_ ?_ t
  · intro k n ks ih p x hx
    rw [plT] at hx
    rcases List.mem_append.1 hx with hx | hx
    · split at hx
      · rw [List.mem_singleton] at hx; exact ⟨[], by rw [hx, List.append_nil]⟩
      · cases hx
    · obtain ⟨j, q, _, rfl⟩ := ih p 0 x hx; exact ⟨_, rfl⟩
  · intro p i x hx; rw [plL] at hx; cases hx
  · intro t ts h1 h2 p i x hx
    rw [plL] at hx
    rcases List.mem_append.1 hx with hx | hx
    · obtain ⟨q, rfl⟩ := h1 _ x hx; exact ⟨i, q, Nat.le_refl _, by rw [List.append_assoc]; rfl⟩
    · obtain ⟨j, q, hj, rfl⟩ := h2 p (i + 1) x hx; exact ⟨j, q, by omega, rfl⟩
theorem pl_heads2 (f : Tm → Bool) : ∀ (ts : List Tm) p i x, x ∈ plL f p i ts → ∃ (j : Nat) (q : List Int), i ≤ j ∧ x = p ++ (j : Int) :: q
  | [], p, i, x, hx => by rw [plL] at hx; cases hx
  | t :: ts, p, i, x, hx => by
    rw [plL] at hx
    rcases List.mem_append.1 hx with hx | hx
    · obtain ⟨q, rfl⟩ := pl_heads f t _ x hx; exact ⟨i, q, Nat.le_refl _, by rw [List.append_assoc]; rfl⟩
    · obtain ⟨j, q, hj, rfl⟩ := pl_heads2 f ts p (i + 1) x hx; exact ⟨j, q, by omega, rfl⟩
def allT : Tm → Bool := fun _ => true
theorem pl_length (t : Tm) : ∀ p, (plT allT p t).length = t.size := by
  refine Tm.rec (motive_1 := fun t => ∀ p, (plT allT p t).length = t.size) (motive_2 := fun ts => ∀ p i, (plL allT p i ts).length = sizes ts) ?_ ?_ ?_ t
  · intro k n ks ih p; rw [plT, if_pos (show allT (.mk k n ks) = true from rfl), List.length_append, ih, Tm.size, List.length_singleton]; omega
  · intro p i; rfl
  · intro t ts h1 h2 p i; rw [plL, List.length_append, h1, h2, sizes]
theorem int_cons_ne {p : List Int} {i j : Nat} {q r : List Int} (h : p ++ (i : Int) :: q = p ++ (j : Int) :: r) : i = j := by
  have := List.append_cancel_left h
  injection this with h1 h2
  omega
/-- a path stands once among the places, at its number -/
theorem pl_index (t : Tm) : ∀ (p xs : List Int) (u : Tm), atT t xs = some u → ∀ i, (plT allT p t)[i]? = some (p ++ xs) ↔ i = idxT t xs := by
  refine Tm.rec (motive_1 := fun t => ∀ (p xs : List Int) (u : Tm), atT t xs = some u → ∀ i, (plT allT p t)[i]? = some (p ++ xs) ↔ i = idxT t xs)
    (motive_2 := fun ts => ∀ (p : List Int) (i0 a : Nat) (is : List Int) (u : Tm), a < ts.length → atT (ts.getD a default) is = some u → ∀ i, (plL allT p i0 ts)[i]? = some (p ++ ((i0 + a : Nat) : Int) :: is) ↔ i = sizes (ts.take a) + idxT (ts.getD a default) is) ?_ ?_ ?_ t
  · intro k n ks ih p xs u h i
    rw [plT, if_pos (show allT (.mk k n ks) = true from rfl), List.singleton_append]
    cases xs with
    | nil =>
      rw [List.append_nil, idxT]
      cases i with
      | zero => simp
      | succ i =>
        rw [List.getElem?_cons_succ]
        constructor
        · intro h
          obtain ⟨j, q, _, e⟩ := pl_heads2 allT ks p 0 p (List.mem_of_getElem? h)
          have := congrArg List.length e
          simp at this
        · intro h; cases h
    | cons a is =>
      rw [atT] at h
      split at h
      · rename_i hin
        simp only [Tm.kids] at hin
        have h' : atT (ks.getD a.toNat default) is = some u := h
        have hih := ih p 0 a.toNat is u (by omega) h'
        rw [idxT]
        have ea : (((0 + a.toNat : Nat) : Int)) = a := by omega
        rw [ea] at hih
        cases i with
        | zero =>
          rw [List.getElem?_cons_zero]
          constructor
          · intro h
            injection h with h
            have := congrArg List.length h
            simp at this
          · intro h; omega
        | succ i =>
          rw [List.getElem?_cons_succ, hih i]
          simp only [Tm.kids]
          omega
      · cases h
  · intro p i0 a is u h; simp at h
  · intro t ts h1 h2 p i0 a is u ha h i
    rw [plL]
    have hl := pl_length t (p ++ [(i0 : Int)])
    cases a with
    | zero =>
      have h' : atT t is = some u := h
      have hid := idx_lt h'
      have hup : 0 < u.size := by cases u; rw [Tm.size]; omega
      have e0 : (t :: ts).getD 0 default = t := rfl
      rw [e0, List.take_zero, sizes, Nat.zero_add]
      simp only [Nat.add_zero]
      by_cases hi : i < t.size
      · rw [List.getElem?_append_left (by omega), show p ++ (i0 : Int) :: is = (p ++ [(i0 : Int)]) ++ is by simp]
        exact h1 _ is u h' i
      · rw [List.getElem?_append_right (by omega)]
        constructor
        · intro hx
          obtain ⟨j, q, hj, e⟩ := pl_heads2 allT ts p (i0 + 1) _ (List.mem_of_getElem? hx)
          have := int_cons_ne e
          omega
        · intro hx; omega
    | succ a =>
      have h' : atT (ts.getD a default) is = some u := h
      have e0 : (t :: ts).getD (a + 1) default = ts.getD a default := rfl
      have hih := h2 p (i0 + 1) a is u (by simpa using ha) h'
      rw [e0, List.take_succ_cons, sizes]
      by_cases hi : i < t.size
      · rw [List.getElem?_append_left (by omega)]
        constructor
        · intro hx
          obtain ⟨q, e⟩ := pl_heads allT t _ _ (List.mem_of_getElem? hx)
          rw [List.append_assoc] at e
          have := int_cons_ne (q := is) (r := q) e
          omega
        · intro hx; omega
      · rw [List.getElem?_append_right (by omega), hl, show i0 + (a + 1) = i0 + 1 + a by omega, hih (i - t.size)]
        omega
end Go.Proofs.Ytefifcmieicnlaa
