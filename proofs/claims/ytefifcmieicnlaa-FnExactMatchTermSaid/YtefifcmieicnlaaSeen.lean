/-
  Which places matching fills. No condition.
-/
import Derived.Test.YtefifcmieicnlaaTab
import Derived.Test.YtefifcmieicnlaaCountV
namespace Go.Proofs.Ytefifcmieicnlaa
open Go.RowKit
set_option linter.unusedSimpArgs false
set_option linter.unusedVariables false

theorem getD_set (S : List Bool) (i j : Nat) (hi : i < S.length) : (S.set i true).getD j false = true ↔ S.getD j false = true ∨ j = i := by
  simp only [List.getD_eq_getElem?_getD, List.getElem?_set]
  by_cases h : i = j
  · subst h; simp [hi]
  · rw [if_neg h]
    constructor
    · exact .inl
    · rintro (h' | h')
      · exact h'
      · exact absurd h'.symm h
theorem mt_seen (m : Nat) (add : Int) (t : Tm) : ∀ (q : Nat) (d : Int) (u : Tm) (st : St), st.2.length = m → shape q t = true → (mt m add d t u st).1 = true → ∀ j, j < m → ((mt m add d t u st).2.2.getD j false = true ↔ st.2.getD j false = true ∨ 0 < cnV j d t) := by
  refine Tm.rec (motive_1 := fun t => ∀ (q : Nat) (d : Int) (u : Tm) (st : St), st.2.length = m → shape q t = true → (mt m add d t u st).1 = true → ∀ j, j < m → ((mt m add d t u st).2.2.getD j false = true ↔ st.2.getD j false = true ∨ 0 < cnV j d t))
    (motive_2 := fun ts => ∀ (q : Nat) (k d : Int) (i : Nat) (us : List Tm) (st : St), st.2.length = m → ts.length = us.length → (∀ t, t ∈ ts → shape q t = true) → (mtL m add k d i ts us st).1 = true → ∀ j, j < m → ((mtL m add k d i ts us st).2.2.getD j false = true ↔ st.2.getD j false = true ∨ 0 < cnVL j k d i ts)) ?_ ?_ ?_ t
  · intro k n ks ih q d u st hm h ht j hj
    obtain ⟨q', rfl, ha, h0, h1, hk⟩ := shape_pos h
    rw [mt] at ht ⊢
    rw [cnV]
    by_cases hh : k = 1 ∧ d ≤ n
    · rw [if_pos hh] at ht ⊢
      obtain ⟨rfl, hdn⟩ := hh
      have := var_nil ha
      subst this
      rw [cnVL]
      by_cases hlt : n < d + m
      · rw [if_pos hlt] at ht ⊢
        cases hs : shiftI (-d) 0 u with
        | none => rw [hs] at ht; cases ht
        | some low =>
          simp only [hs] at ht ⊢
          have hlm : (n - d).toNat < st.2.length := by omega
          by_cases hse : st.2.getD (n - d).toNat false = true
          · rw [if_pos hse]
            constructor
            · exact .inl
            · rintro (h' | h')
              · exact h'
              · by_cases hj2 : n - d = j
                · rw [show (n - d).toNat = j by omega] at hse; exact hse
                · rw [if_neg (by rintro ⟨-, -, h⟩; exact hj2 h)] at h'; omega
          · rw [if_neg hse]
            simp only
            rw [getD_set _ _ _ hlm]
            constructor
            · rintro (h' | h')
              · exact .inl h'
              · right; rw [if_pos ⟨trivial, hdn, by omega⟩]; omega
            · rintro (h' | h')
              · exact .inl h'
              · right
                by_cases hj2 : n - d = j
                · omega
                · rw [if_neg (by rintro ⟨-, -, h⟩; exact hj2 h)] at h'; omega
      · rw [if_neg hlt]
        constructor
        · exact .inl
        · rintro (h' | h')
          · exact h'
          · rw [if_neg (by rintro ⟨-, -, h⟩; omega)] at h'; omega
    · rw [if_neg hh] at ht ⊢
      rw [show (if k = 1 ∧ d ≤ n ∧ n - d = (j : Int) then 1 else 0) = 0 from if_neg (by rintro ⟨a, b, -⟩; exact hh ⟨a, b⟩), Nat.zero_add]
      by_cases hq : u.k = k ∧ u.n = n ∧ u.kids.length = ks.length
      · rw [if_pos hq] at ht ⊢
        exact ih q' k d 0 _ _ hm hq.2.2.symm hk ht j hj
      · rw [if_neg hq] at ht; cases ht
  · intro q k d i us st hm hl _ _ j hj
    simp [mtL, cnVL]
  · intro t ts h1 h2 q k d i us st hm hl hk ht j hj
    cases us with
    | nil => simp at hl
    | cons u us =>
      rw [mtL] at ht ⊢
      by_cases hb : (mt m add (d + under k i) t u st).1 = true
      · rw [if_pos hb] at ht ⊢
        have a := h1 q (d + under k i) u st hm (hk t List.mem_cons_self) hb j hj
        have b := h2 q k d (i + 1) us (mt m add (d + under k i) t u st).2 (by rw [(mt_length m add t _ u st).2]; exact hm) (by simpa using hl) (fun t ht => hk t (List.mem_cons_of_mem _ ht)) ht j hj
        rw [b, a, cnVL]
        constructor
        · rintro ((h | h) | h)
          · exact .inl h
          · right; omega
          · right; omega
        · rintro (h | h)
          · exact .inl (.inl h)
          · by_cases hz : 0 < cnV j (d + under k i) t
            · exact .inl (.inr hz)
            · right; omega
      · rw [if_neg hb] at ht; cases ht

/-- what matching answers in all -/
def mt0 (m : Nat) (add : Int) (p u : Tm) : Bool × St := mt m add 0 p u (List.replicate m zeroT, List.replicate m false)
def tryS (m : Nat) (add : Int) (p u : Tm) : Option (List Tm) := if (mt0 m add p u).1 = true ∧ (mt0 m add p u).2.2.all id = true then some (mt0 m add p u).2.1 else none
theorem all_getD (S : List Bool) : S.all id = true ↔ ∀ j, j < S.length → S.getD j false = true := by
  rw [List.all_eq_true]
  constructor
  · intro h j hj
    rw [List.getD_eq_getElem?_getD, List.getElem?_eq_getElem hj]
    exact h _ (List.getElem_mem hj)
  · intro h b hb
    obtain ⟨j, hj, rfl⟩ := List.getElem_of_mem hb
    have := h j hj
    rw [List.getD_eq_getElem?_getD, List.getElem?_eq_getElem hj] at this
    exact this
theorem seen_all {m : Nat} {add : Int} {p u : Tm} {q : Nat} (hs : shape q p = true) (ht : (mt0 m add p u).1 = true) : (mt0 m add p u).2.2.all id = true ↔ ∀ j : Nat, j < m → 0 < cnV j 0 p := by
  have hl := (mt_length m add p 0 u (List.replicate m zeroT, List.replicate m false)).2
  simp only [List.length_replicate] at hl
  rw [all_getD, mt0, hl]
  constructor
  · intro h j hj
    rcases (mt_seen m add p q 0 u _ (by simp) hs ht j hj).1 (h j hj) with h' | h'
    · simp [List.getD_eq_getElem?_getD, List.getElem?_replicate, hj] at h'
    · exact h'
  · intro h j hj
    exact (mt_seen m add p q 0 u _ (by simp) hs ht j hj).2 (.inr (h j hj))
/-- a variable that is nowhere: no answer -/
theorem tryS_zero {m : Nat} {add : Int} {p u : Tm} {q : Nat} (hs : shape q p = true) {j : Nat} (hj : j < m) (hz : cnV j 0 p = 0) : tryS m add p u = none := by
  rw [tryS, if_neg]
  rintro ⟨h1, h2⟩
  have := (seen_all hs h1).1 h2 j hj
  omega
theorem tryS_no {m : Nat} {add : Int} {p u : Tm} (h : (mt0 m add p u).1 = false) : tryS m add p u = none := by
  rw [tryS, if_neg]; rintro ⟨h1, _⟩; rw [h] at h1; cases h1
theorem tryS_yes {m : Nat} {add : Int} {p u : Tm} {q : Nat} (hs : shape q p = true) (h : (mt0 m add p u).1 = true) (hz : ∀ j : Nat, j < m → 0 < cnV j 0 p) : tryS m add p u = some (mt0 m add p u).2.1 := by
  rw [tryS, if_pos ⟨h, (seen_all hs h).2 hz⟩]
theorem shiftI_size {by_ cut : Int} {u low : Tm} (h : shiftI by_ cut u = some low) : low.size ≤ 400 := by
  unfold shiftI at h
  split at h
  · split at h
    · rename_i hv; injection h with h; subst h; exact validT_size hv
    · cases h
  · cases h
theorem mem_set {G : List Tm} {j : Nat} {x t : Tm} (h : t ∈ G.set j x) : t ∈ G ∨ t = x := by
  rcases List.mem_or_eq_of_mem_set h with h | h
  · exact .inl h
  · exact .inr h
theorem mt_small (m : Nat) (add : Int) (t : Tm) : ∀ (d : Int) (u : Tm) (st : St), (∀ x, x ∈ st.1 → x.size ≤ 400) → ∀ x, x ∈ (mt m add d t u st).2.1 → x.size ≤ 400 := by
  refine Tm.rec (motive_1 := fun t => ∀ (d : Int) (u : Tm) (st : St), (∀ x, x ∈ st.1 → x.size ≤ 400) → ∀ x, x ∈ (mt m add d t u st).2.1 → x.size ≤ 400)
    (motive_2 := fun ts => ∀ (k d : Int) (i : Nat) (us : List Tm) (st : St), (∀ x, x ∈ st.1 → x.size ≤ 400) → ∀ x, x ∈ (mtL m add k d i ts us st).2.1 → x.size ≤ 400) ?_ ?_ ?_ t
  · intro k n ks ih d u st h
    rw [mt]
    split
    · split
      · split
        · exact h
        · rename_i low hl
          split
          · exact h
          · intro x hx
            rcases mem_set hx with hx | rfl
            · exact h x hx
            · exact shiftI_size hl
      · exact h
    · split
      · exact ih k d 0 _ _ h
      · exact h
  · intro k d i us st h; simpa [mtL] using h
  · intro t ts h1 h2 k d i us st h
    cases us with
    | nil => simpa [mtL] using h
    | cons u us =>
      rw [mtL]
      split
      · exact h2 k d (i + 1) us _ (h1 _ _ _ h)
      · exact h1 _ _ _ h
theorem sizes_all {G : List Tm} (h : ∀ x, x ∈ G → x.size ≤ 400) : sizes G ≤ G.length * 400 := by
  induction G with
  | nil => simp [sizes]
  | cons t ts ih =>
    rw [sizes, List.length_cons]
    have := h t List.mem_cons_self
    have := ih fun x hx => h x (List.mem_cons_of_mem _ hx)
    omega
theorem tryS_size {m : Nat} {add : Int} {p u : Tm} (hm : m ≤ 6) {oo : List Tm} (h : tryS m add p u = some oo) : sizes oo ≤ 2400 ∧ oo.length = m := by
  unfold tryS at h
  split at h
  · injection h with h
    subst h
    have hl := (mt_length m add p 0 u (List.replicate m zeroT, List.replicate m false)).1
    simp only [List.length_replicate] at hl
    have hs := sizes_all (mt_small m add p 0 u (List.replicate m zeroT, List.replicate m false) (by intro x hx; rw [List.eq_of_mem_replicate hx]; simp [zeroT, Tm.size, sizes]))
    rw [hl] at hs
    exact ⟨by rw [mt0]; omega, hl⟩
  · cases h
end Go.Proofs.Ytefifcmieicnlaa
