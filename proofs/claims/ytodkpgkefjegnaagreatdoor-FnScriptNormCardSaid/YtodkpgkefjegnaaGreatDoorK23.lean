/-
  Contracts of the functions that the law reaches, and plain lemmas. No condition.
-/
import Derived.Test.YtodkpgkefjegnaaGreatDoorK3
import Derived.Test.YtodkpgkefjegnaaGreatDoorK7
import Derived.Test.YtodkpgkefjegnaaGreatDoorK11
import Derived.Test.YtodkpgkefjegnaaGreatDoorK14
import Derived.Shelf.Strconv.Itoa3
import Derived.Test.YtodkpgkefjegnaaGreatDoorShelf
import Derived.Lib.ReplaceLaws
import Derived.Lib.AtoiErrMem
import Derived.IntWalk
import Derived.WalkSpells
import Derived.WalkLawsBesides
import Derived.Outline
namespace Go.Proofs.YtodkpgkefjegnaaGreatDoor
set_option linter.unusedSimpArgs false
set_option linter.unusedVariables false
open Go.RowKit
/-- the shapes of the sixteen kinds, a dot for each operand -/
def shpX : List (List UInt8) := [[35], [42], [40, 46, 62, 46, 41], [91, 46, 93, 46], [40, 46, 32, 46, 41], [78], [48], [43, 46], [60, 46, 44, 46, 44, 46, 44, 46, 62], [123, 46, 44, 46, 44, 46, 125], [33, 46], [64, 60, 46, 44, 46, 44, 46, 62], [40, 46, 42, 46, 41], [124, 46, 44, 46, 44, 46, 124], [94, 46], [95, 46]]
/-- what stands around the operands -/
def prt : Nat → List (List UInt8)
  | 3 => [[40], [62], [41]]
  | 4 => [[91], [93], []]
  | 5 => [[40], [32], [41]]
  | 6 => [[78]]
  | 7 => [[48]]
  | 8 => [[43], []]
  | 9 => [[60], [44], [44], [44], [62]]
  | 10 => [[123], [44], [44], [125]]
  | 11 => [[33], []]
  | 12 => [[64, 60], [44], [44], [62]]
  | 13 => [[40], [42], [41]]
  | 14 => [[124], [44], [44], [124]]
  | 15 => [[94], []]
  | 16 => [[95], []]
  | _ => []
/-- behind a part: an operand's text, the next part, and so on -/
def rem : List (List UInt8) → List (List UInt8) → List UInt8
  | x :: xs, p :: ps => x ++ (p ++ rem xs ps)
  | _, _ => []
def inter : List (List UInt8) → List (List UInt8) → List UInt8
  | p :: ps, xs => p ++ rem xs ps
  | [], _ => []
theorem rem_nil {ps : List (List UInt8)} : rem [] ps = [] := by cases ps <;> rfl
theorem rem_drop {xs ps : List (List UInt8)} {j : Nat} {x p : List UInt8} (hx : xs[j]? = some x) (hp : ps[j]? = some p) : rem (xs.drop j) (ps.drop j) = x ++ (p ++ rem (xs.drop (j + 1)) (ps.drop (j + 1))) := by
  obtain ⟨h1, rfl⟩ := List.getElem?_eq_some_iff.1 hx
  obtain ⟨h2, rfl⟩ := List.getElem?_eq_some_iff.1 hp
  rw [List.drop_eq_getElem_cons h1, List.drop_eq_getElem_cons h2, rem]
inductive Tu : Nat → Tm → List UInt8 → Prop
  | num (d k : Nat) (n : Int) (c : UInt8) (h : (k = 1 ∧ n ≤ 9 ∨ k = 2 ∧ n ≤ 3) ∧ 0 ≤ n ∧ (c.toNat : Int) = 48 + n) : Tu (d + 1) (.mk k n []) ((shpX[k - 1]?).getD [] ++ [c])
  | node (d k : Nat) (ts : List Tm) (xs : List (List UInt8)) (hk : 3 ≤ k ∧ k ≤ 16) (hl : (prt k).length = ts.length + 1) (hx : xs.length = ts.length)
      (ht : ∀ (j : Nat) (t : Tm) (x : List UInt8), ts[j]? = some t → xs[j]? = some x → Tu d t x) : Tu (d + 1) (.mk k 0 ts) (inter (prt k) xs)
theorem two_at {α β : Type} {q : α → β → Prop} {t u : α} {x y : β} (h1 : q t x) (h2 : q u y) : ∀ (j : Nat) (a : α) (b : β), [t, u][j]? = some a → [x, y][j]? = some b → q a b
  | 0, a, b, ha, hb => by cases ha; cases hb; exact h1
  | 1, a, b, ha, hb => by cases ha; cases hb; exact h2
  | j + 2, a, b, ha, hb => by simp at ha
theorem one_at {α β : Type} {q : α → β → Prop} {t : α} {x : β} (h1 : q t x) : ∀ (j : Nat) (a : α) (b : β), [t][j]? = some a → [x][j]? = some b → q a b
  | 0, a, b, ha, hb => by cases ha; cases hb; exact h1
  | j + 1, a, b, ha, hb => by simp at ha
theorem none_at {α β : Type} {q : α → β → Prop} {l : List β} : ∀ (j : Nat) (a : α) (b : β), ([] : List α)[j]? = some a → l[j]? = some b → q a b := fun j a b ha => by simp at ha
theorem Tx.tu {d : Nat} {t : Tm} {b : List UInt8} (h : Tx d t b) : Tu d t b := by
  induction h with
  | var d n c h => exact .num d 1 n c ⟨.inl ⟨rfl, h.2.1⟩, h.1, h.2.2⟩
  | sort d n c h => exact .num d 2 n c ⟨.inr ⟨rfl, h.2.1⟩, h.1, h.2.2⟩
  | nat d => exact .node d 6 [] [] ⟨by decide, by decide⟩ rfl rfl none_at
  | zero d => exact .node d 7 [] [] ⟨by decide, by decide⟩ rfl rfl none_at
  | pre d k c t b h ht ih =>
    rcases h with ⟨rfl, rfl⟩ | ⟨rfl, rfl⟩ | ⟨rfl, rfl⟩ | ⟨rfl, rfl⟩
    · have := Tu.node d 8 [t] [b] ⟨by decide, by decide⟩ rfl rfl (one_at ih); simpa [inter, prt, rem] using this
    · have := Tu.node d 11 [t] [b] ⟨by decide, by decide⟩ rfl rfl (one_at ih); simpa [inter, prt, rem] using this
    · have := Tu.node d 15 [t] [b] ⟨by decide, by decide⟩ rfl rfl (one_at ih); simpa [inter, prt, rem] using this
    · have := Tu.node d 16 [t] [b] ⟨by decide, by decide⟩ rfl rfl (one_at ih); simpa [inter, prt, rem] using this
  | rnd d k c t u x y h ht hu i1 i2 =>
    rcases h with ⟨rfl, rfl⟩ | ⟨rfl, rfl⟩ | ⟨rfl, rfl⟩
    · have := Tu.node d 3 [t, u] [x, y] ⟨by decide, by decide⟩ rfl rfl (two_at i1 i2); simpa [inter, prt, rem] using this
    · have := Tu.node d 13 [t, u] [x, y] ⟨by decide, by decide⟩ rfl rfl (two_at i1 i2); simpa [inter, prt, rem] using this
    · have := Tu.node d 5 [t, u] [x, y] ⟨by decide, by decide⟩ rfl rfl (two_at i1 i2); simpa [inter, prt, rem] using this
  | lam d t u x y ht hu i1 i2 => have := Tu.node d 4 [t, u] [x, y] ⟨by decide, by decide⟩ rfl rfl (two_at i1 i2); simpa [inter, prt, rem] using this
  | blk d k m o c ts xs h hm hx ht ih =>
    rcases h with ⟨rfl, rfl, rfl, rfl⟩ | ⟨rfl, rfl, rfl, rfl⟩ | ⟨rfl, rfl, rfl, rfl⟩ | ⟨rfl, rfl, rfl, rfl⟩
    · have := Tu.node d 9 ts xs ⟨by decide, by decide⟩ (by rw [hm]; rfl) (by omega) ih
      match xs, hx with
      | [a, b, c, e], _ => simpa [inter, prt, rem, ser] using this
    · have := Tu.node d 10 ts xs ⟨by decide, by decide⟩ (by rw [hm]; rfl) (by omega) ih
      match xs, hx with
      | [a, b, c], _ => simpa [inter, prt, rem, ser] using this
    · have := Tu.node d 14 ts xs ⟨by decide, by decide⟩ (by rw [hm]; rfl) (by omega) ih
      match xs, hx with
      | [a, b, c], _ => simpa [inter, prt, rem, ser] using this
    · have := Tu.node d 12 ts xs ⟨by decide, by decide⟩ (by rw [hm]; rfl) (by omega) ih
      match xs, hx with
      | [a, b, c], _ => simpa [inter, prt, rem, ser] using this
/-- the kind that a first sign tells -/
def kind0 (k : Nat) : Nat := if k = 5 ∨ k = 13 then 3 else k
theorem prt_kinds {k : Nat} (hk : 3 ≤ k ∧ k ≤ 16) : k = 3 ∨ k = 4 ∨ k = 5 ∨ k = 6 ∨ k = 7 ∨ k = 8 ∨ k = 9 ∨ k = 10 ∨ k = 11 ∨ k = 12 ∨ k = 13 ∨ k = 14 ∨ k = 15 ∨ k = 16 := by omega
/-- a part behind an operand begins with no digit; the empty one is the last -/
theorem prt_sign {k j : Nat} {p : List UInt8} (hk : 3 ≤ k ∧ k ≤ 16) (hp : (prt k)[j + 1]? = some p) : (p = [] ∧ (prt k).length = j + 2) ∨ ∃ c q, p = c :: q ∧ (c.toNat < 48 ∨ 57 < c.toNat) := by
  rcases prt_kinds hk with rfl | rfl | rfl | rfl | rfl | rfl | rfl | rfl | rfl | rfl | rfl | rfl | rfl | rfl <;>
  · simp only [prt] at hp ⊢
    rcases j with _ | _ | _ | _ | j <;> simp at hp <;> subst hp <;> first | (exact .inl ⟨rfl, rfl⟩) | (exact .inr ⟨_, _, rfl, by decide⟩)
open Go.RowKit
/-- a number in decimal -/
def dig (n : Int) : List UInt8 := Lib.decDigits n.toNat
mutual
def textT : Tm → List UInt8
  | .mk k n ks => if k = 1 ∨ k = 2 then (shpX[k.toNat - 1]?).getD [] ++ dig n else inter (prt k.toNat) (textL ks)
def textL : List Tm → List (List UInt8)
  | [] => []
  | t :: ts => textT t :: textL ts
end
theorem textL_length : ∀ ts : List Tm, (textL ts).length = ts.length
  | [] => rfl
  | t :: ts => by rw [textL, List.length_cons, List.length_cons, textL_length ts]
theorem textL_at : ∀ (ts : List Tm) (j : Nat) (t : Tm) (x : List UInt8), ts[j]? = some t → (textL ts)[j]? = some x → x = textT t
  | [], j, t, x, h, _ => by simp at h
  | t :: ts, 0, u, x, h, h2 => by cases h; rw [textL] at h2; cases h2; rfl
  | t :: ts, j + 1, u, x, h, h2 => textL_at ts j u x (by simpa using h) (by rw [textL] at h2; simpa using h2)
theorem dig_one {n : Int} (h0 : 0 ≤ n) (h1 : n ≤ 3) : ∃ c : UInt8, dig n = [c] ∧ (c.toNat : Int) = 48 + n := by
  obtain ⟨m, rfl⟩ := Int.eq_ofNat_of_zero_le h0
  have h5 : m = 0 ∨ m = 1 ∨ m = 2 ∨ m = 3 := by omega
  rcases h5 with rfl | rfl | rfl | rfl
  · exact ⟨48, by simp [dig, Lib.decDigits], by decide⟩
  · exact ⟨49, by simp [dig, Lib.decDigits], by decide⟩
  · exact ⟨50, by simp [dig, Lib.decDigits], by decide⟩
  · exact ⟨51, by simp [dig, Lib.decDigits], by decide⟩
theorem kinds_of {k : Int} {m : Nat} (h : arity k = (m : Int)) :
    (k = 1 ∧ m = 0) ∨ (k = 2 ∧ m = 0) ∨ (k = 6 ∧ m = 0) ∨ (k = 7 ∧ m = 0) ∨ (k = 8 ∧ m = 1) ∨ (k = 11 ∧ m = 1) ∨ (k = 15 ∧ m = 1) ∨ (k = 16 ∧ m = 1) ∨ (k = 3 ∧ m = 2) ∨ (k = 4 ∧ m = 2) ∨ (k = 5 ∧ m = 2) ∨ (k = 13 ∧ m = 2) ∨ (k = 10 ∧ m = 3) ∨ (k = 12 ∧ m = 3) ∨ (k = 14 ∧ m = 3) ∨ (k = 9 ∧ m = 4) := by
  by_cases h1 : k = 1
  · subst h1; have e : arity 1 = 0 := rfl; rw [e] at h; exact (.inl ⟨rfl, by omega⟩)
  by_cases h2 : k = 2
  · subst h2; have e : arity 2 = 0 := rfl; rw [e] at h; exact (.inr (.inl ⟨rfl, by omega⟩))
  by_cases h6 : k = 6
  · subst h6; have e : arity 6 = 0 := rfl; rw [e] at h; exact (.inr (.inr (.inl ⟨rfl, by omega⟩)))
  by_cases h7 : k = 7
  · subst h7; have e : arity 7 = 0 := rfl; rw [e] at h; exact (.inr (.inr (.inr (.inl ⟨rfl, by omega⟩))))
  by_cases h8 : k = 8
  · subst h8; have e : arity 8 = 1 := rfl; rw [e] at h; exact (.inr (.inr (.inr (.inr (.inl ⟨rfl, by omega⟩)))))
  by_cases h11 : k = 11
  · subst h11; have e : arity 11 = 1 := rfl; rw [e] at h; exact (.inr (.inr (.inr (.inr (.inr (.inl ⟨rfl, by omega⟩))))))
  by_cases h15 : k = 15
  · subst h15; have e : arity 15 = 1 := rfl; rw [e] at h; exact (.inr (.inr (.inr (.inr (.inr (.inr (.inl ⟨rfl, by omega⟩)))))))
  by_cases h16 : k = 16
  · subst h16; have e : arity 16 = 1 := rfl; rw [e] at h; exact (.inr (.inr (.inr (.inr (.inr (.inr (.inr (.inl ⟨rfl, by omega⟩))))))))
  by_cases h3 : k = 3
  · subst h3; have e : arity 3 = 2 := rfl; rw [e] at h; exact (.inr (.inr (.inr (.inr (.inr (.inr (.inr (.inr (.inl ⟨rfl, by omega⟩)))))))))
  by_cases h4 : k = 4
  · subst h4; have e : arity 4 = 2 := rfl; rw [e] at h; exact (.inr (.inr (.inr (.inr (.inr (.inr (.inr (.inr (.inr (.inl ⟨rfl, by omega⟩))))))))))
  by_cases h5 : k = 5
  · subst h5; have e : arity 5 = 2 := rfl; rw [e] at h; exact (.inr (.inr (.inr (.inr (.inr (.inr (.inr (.inr (.inr (.inr (.inl ⟨rfl, by omega⟩)))))))))))
  by_cases h13 : k = 13
  · subst h13; have e : arity 13 = 2 := rfl; rw [e] at h; exact (.inr (.inr (.inr (.inr (.inr (.inr (.inr (.inr (.inr (.inr (.inr (.inl ⟨rfl, by omega⟩))))))))))))
  by_cases h10 : k = 10
  · subst h10; have e : arity 10 = 3 := rfl; rw [e] at h; exact (.inr (.inr (.inr (.inr (.inr (.inr (.inr (.inr (.inr (.inr (.inr (.inr (.inl ⟨rfl, by omega⟩)))))))))))))
  by_cases h12 : k = 12
  · subst h12; have e : arity 12 = 3 := rfl; rw [e] at h; exact (.inr (.inr (.inr (.inr (.inr (.inr (.inr (.inr (.inr (.inr (.inr (.inr (.inr (.inl ⟨rfl, by omega⟩))))))))))))))
  by_cases h14 : k = 14
  · subst h14; have e : arity 14 = 3 := rfl; rw [e] at h; exact (.inr (.inr (.inr (.inr (.inr (.inr (.inr (.inr (.inr (.inr (.inr (.inr (.inr (.inr (.inl ⟨rfl, by omega⟩)))))))))))))))
  by_cases h9 : k = 9
  · subst h9; have e : arity 9 = 4 := rfl; rw [e] at h; exact (.inr (.inr (.inr (.inr (.inr (.inr (.inr (.inr (.inr (.inr (.inr (.inr (.inr (.inr (.inr ⟨rfl, by omega⟩)))))))))))))))
  have e : arity k = -1 := by unfold arity; rw [if_neg h1]; rw [if_neg h2]; rw [if_neg h6]; rw [if_neg h7]; rw [if_neg h8]; rw [if_neg h11]; rw [if_neg h15]; rw [if_neg h16]; rw [if_neg h3]; rw [if_neg h4]; rw [if_neg h5]; rw [if_neg h13]; rw [if_neg h10]; rw [if_neg h12]; rw [if_neg h14]; rw [if_neg h9]
  omega
theorem lst1 {l : List Tm} (h : l.length = 1) : ∃ a, l = [a] := by match l, h with | [a], _ => exact ⟨a, rfl⟩
theorem lst2 {l : List Tm} (h : l.length = 2) : ∃ a b, l = [a, b] := by match l, h with | [a, b], _ => exact ⟨a, b, rfl⟩
theorem lst3 {l : List Tm} (h : l.length = 3) : ∃ a b c, l = [a, b, c] := by match l, h with | [a, b, c], _ => exact ⟨a, b, c, rfl⟩
theorem lst4 {l : List Tm} (h : l.length = 4) : ∃ a b c d, l = [a, b, c, d] := by match l, h with | [a, b, c, d], _ => exact ⟨a, b, c, d, rfl⟩
/-- a valid term with small numbers has its text -/
theorem tx_text : (∀ (t : Tm) (d : Nat), shape d t = true → hi3 t = true → Tx d t (textT t)) ∧
    (∀ (ts : List Tm) (d : Nat), (∀ t, t ∈ ts → shape d t = true) → hi3L ts = true → ∀ t, t ∈ ts → Tx d t (textT t)) := by
  refine Tm.ind2 (fun k n ks ih d h h3 => ?_) (fun d _ _ t ht => by cases ht) (fun t ts h1 h2 d h h3 u hu => ?_)
  · obtain ⟨d, rfl, ha, h0, hm, hk⟩ := shape_pos h
    rw [hi3, Bool.and_eq_true, decide_eq_true_eq] at h3
    have ihk := ih d hk h3.2
    rw [textT]
    rcases kinds_of ha with ⟨rfl, hl⟩ | ⟨rfl, hl⟩ | ⟨rfl, hl⟩ | ⟨rfl, hl⟩ | ⟨rfl, hl⟩ | ⟨rfl, hl⟩ | ⟨rfl, hl⟩ | ⟨rfl, hl⟩ | ⟨rfl, hl⟩ | ⟨rfl, hl⟩ | ⟨rfl, hl⟩ | ⟨rfl, hl⟩ | ⟨rfl, hl⟩ | ⟨rfl, hl⟩ | ⟨rfl, hl⟩ | ⟨rfl, hl⟩
    · obtain rfl := List.eq_nil_of_length_eq_zero hl
      obtain ⟨c, hc, hcn⟩ := dig_one h0 h3.1
      rw [if_pos (.inl rfl), hc]
      exact .var d n c ⟨h0, by omega, hcn⟩
    · obtain rfl := List.eq_nil_of_length_eq_zero hl
      obtain ⟨c, hc, hcn⟩ := dig_one h0 h3.1
      rw [if_pos (.inr rfl), hc]
      exact .sort d n c ⟨h0, by omega, hcn⟩
    · obtain rfl := List.eq_nil_of_length_eq_zero hl
      obtain rfl : n = 0 := by have h6 : mostN 6 = 0 := rfl; omega
      exact .nat d
    · obtain rfl := List.eq_nil_of_length_eq_zero hl
      obtain rfl : n = 0 := by have h6 : mostN 7 = 0 := rfl; omega
      exact .zero d
    · obtain ⟨a, rfl⟩ := lst1 hl
      obtain rfl : n = 0 := by have h6 : mostN 8 = 0 := rfl; omega
      have := Tx.pre d 8 43 a (textT a) (.inl ⟨rfl, rfl⟩) (ihk a (by simp))
      simpa [inter, prt, rem, textL] using this
    · obtain ⟨a, rfl⟩ := lst1 hl
      obtain rfl : n = 0 := by have h6 : mostN 11 = 0 := rfl; omega
      have := Tx.pre d 11 33 a (textT a) (.inr (.inl ⟨rfl, rfl⟩)) (ihk a (by simp))
      simpa [inter, prt, rem, textL] using this
    · obtain ⟨a, rfl⟩ := lst1 hl
      obtain rfl : n = 0 := by have h6 : mostN 15 = 0 := rfl; omega
      have := Tx.pre d 15 94 a (textT a) (.inr (.inr (.inl ⟨rfl, rfl⟩))) (ihk a (by simp))
      simpa [inter, prt, rem, textL] using this
    · obtain ⟨a, rfl⟩ := lst1 hl
      obtain rfl : n = 0 := by have h6 : mostN 16 = 0 := rfl; omega
      have := Tx.pre d 16 95 a (textT a) (.inr (.inr (.inr ⟨rfl, rfl⟩))) (ihk a (by simp))
      simpa [inter, prt, rem, textL] using this
    · obtain ⟨a, b, rfl⟩ := lst2 hl
      obtain rfl : n = 0 := by have h6 : mostN 3 = 0 := rfl; omega
      have := Tx.rnd d 3 62 a b (textT a) (textT b) (.inl ⟨rfl, rfl⟩) (ihk a (by simp)) (ihk b (by simp))
      simpa [inter, prt, rem, textL] using this
    · obtain ⟨a, b, rfl⟩ := lst2 hl
      obtain rfl : n = 0 := by have h6 : mostN 4 = 0 := rfl; omega
      have := Tx.lam d a b (textT a) (textT b) (ihk a (by simp)) (ihk b (by simp))
      simpa [inter, prt, rem, textL] using this
    · obtain ⟨a, b, rfl⟩ := lst2 hl
      obtain rfl : n = 0 := by have h6 : mostN 5 = 0 := rfl; omega
      have := Tx.rnd d 5 32 a b (textT a) (textT b) (.inr (.inr ⟨rfl, rfl⟩)) (ihk a (by simp)) (ihk b (by simp))
      simpa [inter, prt, rem, textL] using this
    · obtain ⟨a, b, rfl⟩ := lst2 hl
      obtain rfl : n = 0 := by have h6 : mostN 13 = 0 := rfl; omega
      have := Tx.rnd d 13 42 a b (textT a) (textT b) (.inr (.inl ⟨rfl, rfl⟩)) (ihk a (by simp)) (ihk b (by simp))
      simpa [inter, prt, rem, textL] using this
    · obtain ⟨a, b, c, rfl⟩ := lst3 hl
      obtain rfl : n = 0 := by have h6 : mostN 10 = 0 := rfl; omega
      have := tx3 (d := d) (k := 10) (o := [123]) (c := 125) (.inr (.inl ⟨rfl, rfl, rfl, rfl⟩)) (ihk a (by simp)) (ihk b (by simp)) (ihk c (by simp))
      simpa [inter, prt, rem, textL, ser] using this
    · obtain ⟨a, b, c, rfl⟩ := lst3 hl
      obtain rfl : n = 0 := by have h6 : mostN 12 = 0 := rfl; omega
      have := tx3 (d := d) (k := 12) (o := [64, 60]) (c := 62) (.inr (.inr (.inr ⟨rfl, rfl, rfl, rfl⟩))) (ihk a (by simp)) (ihk b (by simp)) (ihk c (by simp))
      simpa [inter, prt, rem, textL, ser] using this
    · obtain ⟨a, b, c, rfl⟩ := lst3 hl
      obtain rfl : n = 0 := by have h6 : mostN 14 = 0 := rfl; omega
      have := tx3 (d := d) (k := 14) (o := [124]) (c := 124) (.inr (.inr (.inl ⟨rfl, rfl, rfl, rfl⟩))) (ihk a (by simp)) (ihk b (by simp)) (ihk c (by simp))
      simpa [inter, prt, rem, textL, ser] using this
    · obtain ⟨a, b, c, e, rfl⟩ := lst4 hl
      obtain rfl : n = 0 := by have h6 : mostN 9 = 0 := rfl; omega
      have := tx4 (d := d) (k := 9) (o := [60]) (c := 62) (.inl ⟨rfl, rfl, rfl, rfl⟩) (ihk a (by simp)) (ihk b (by simp)) (ihk c (by simp)) (ihk e (by simp))
      simpa [inter, prt, rem, textL, ser] using this
  · rw [hi3L, Bool.and_eq_true] at h3
    rcases List.mem_cons.1 hu with rfl | hu
    · exact h1 d (h _ List.mem_cons_self) h3.1
    · exact h2 d (fun t ht => h t (List.mem_cons_of_mem _ ht)) h3.2 u hu
theorem dec_len {m : Nat} (h : m < 100) : (Lib.decDigits m).length ≤ 2 := by
  rw [Lib.decDigits]
  split
  · simp
  · rw [Lib.decDigits, dif_pos (by omega)]; simp
theorem dig_len {n : Int} (h : n ≤ 20) : (dig n).length ≤ 2 := dec_len (by omega)
/-- how long a text is -/
theorem text_len : (∀ (t : Tm) (d : Nat), shape d t = true → (textT t).length ≤ 6 * t.size) ∧
    (∀ (ts : List Tm) (d : Nat), (∀ t, t ∈ ts → shape d t = true) → ((textL ts).map List.length).sum ≤ 6 * sizes ts) := by
  refine Tm.ind2 (fun k n ks ih d h => ?_) (fun d _ => by simp [textL]) (fun t ts h1 h2 d h => ?_)
  · obtain ⟨d, rfl, ha, h0, hm, hk⟩ := shape_pos h
    have ihk := ih d hk
    have hd := dig_len (n := n) (by have : mostN k ≤ 20 := by unfold mostN; repeat' split <;> omega
                                    omega)
    rw [textT, Tm.size]
    rcases kinds_of ha with ⟨rfl, hl⟩ | ⟨rfl, hl⟩ | ⟨rfl, hl⟩ | ⟨rfl, hl⟩ | ⟨rfl, hl⟩ | ⟨rfl, hl⟩ | ⟨rfl, hl⟩ | ⟨rfl, hl⟩ | ⟨rfl, hl⟩ | ⟨rfl, hl⟩ | ⟨rfl, hl⟩ | ⟨rfl, hl⟩ | ⟨rfl, hl⟩ | ⟨rfl, hl⟩ | ⟨rfl, hl⟩ | ⟨rfl, hl⟩
    · simp [shpX]; omega
    · simp [shpX]; omega
    · simp [prt, inter, rem_nil, List.eq_nil_of_length_eq_zero hl, textL, sizes]
    · simp [prt, inter, rem_nil, List.eq_nil_of_length_eq_zero hl, textL, sizes]
    · obtain ⟨a, rfl⟩ := lst1 hl; simp [prt, inter, rem, textL, sizes] at ihk ⊢; omega
    · obtain ⟨a, rfl⟩ := lst1 hl; simp [prt, inter, rem, textL, sizes] at ihk ⊢; omega
    · obtain ⟨a, rfl⟩ := lst1 hl; simp [prt, inter, rem, textL, sizes] at ihk ⊢; omega
    · obtain ⟨a, rfl⟩ := lst1 hl; simp [prt, inter, rem, textL, sizes] at ihk ⊢; omega
    · obtain ⟨a, b, rfl⟩ := lst2 hl; simp [prt, inter, rem, textL, sizes] at ihk ⊢; omega
    · obtain ⟨a, b, rfl⟩ := lst2 hl; simp [prt, inter, rem, textL, sizes] at ihk ⊢; omega
    · obtain ⟨a, b, rfl⟩ := lst2 hl; simp [prt, inter, rem, textL, sizes] at ihk ⊢; omega
    · obtain ⟨a, b, rfl⟩ := lst2 hl; simp [prt, inter, rem, textL, sizes] at ihk ⊢; omega
    · obtain ⟨a, b, c, rfl⟩ := lst3 hl; simp [prt, inter, rem, textL, sizes] at ihk ⊢; omega
    · obtain ⟨a, b, c, rfl⟩ := lst3 hl; simp [prt, inter, rem, textL, sizes] at ihk ⊢; omega
    · obtain ⟨a, b, c, rfl⟩ := lst3 hl; simp [prt, inter, rem, textL, sizes] at ihk ⊢; omega
    · obtain ⟨a, b, c, e, rfl⟩ := lst4 hl; simp [prt, inter, rem, textL, sizes] at ihk ⊢; omega
  · rw [textL, List.map_cons, List.sum_cons, sizes]
    have := h1 d (h _ List.mem_cons_self)
    have := h2 d (fun t ht => h t (List.mem_cons_of_mem _ ht))
    omega
open Go.RowKit
/-- the cell of the library's that is read holds a number -/
def GM (w : World) : Prop := ∃ m, w.cell? ⟨0, 0, none⟩ = some (.int .i64 m)
theorem GM.below {w w' : World} {B : Nat} (h : GM w) (hb : Below B w w') (hB : 0 < B) : GM w' := by obtain ⟨m, hm⟩ := h; exact ⟨m, (hb.cell (p := ⟨0, 0, none⟩) hB).trans hm⟩
theorem GM.pos {w : World} (h : GM w) : 0 < w.heap.size := by obtain ⟨m, hm⟩ := h; exact World.block_lt_of_cell? w _ hm
theorem GM.keep {w w' : World} (h : GM w) (hb : Below w.heap.size w w') : GM w' := h.below hb h.pos
theorem GM.alloc {w : World} (h : GM w) (o : Obj) : GM (w.alloc o) := h.keep ((Below.refl _ _).alloc (Nat.le_refl _) o)
theorem GM.drew {w : World} (h : GM w) : GM w.drew := h
theorem shpX_get {j : Nat} (hj : j < 16) : ∃ x, shpX[j]? = some x ∧ x.length ≤ 12 := by
  have h : ∀ x, x ∈ shpX → x.length ≤ 12 := by decide
  exact ⟨shpX[j]'hj, List.getElem?_eq_getElem hj, h _ (List.getElem_mem hj)⟩
/-- a kind's shape -/
def shp (k : Nat) : List UInt8 := (shpX[k - 1]?).getD []
theorem shp_parts {k : Nat} (hk : 3 ≤ k ∧ k ≤ 16) : Lib.splitK [46] 0 (Lib.count (shp k) [46]) (shp k) = prt k := by
  rcases prt_kinds hk with rfl | rfl | rfl | rfl | rfl | rfl | rfl | rfl | rfl | rfl | rfl | rfl | rfl | rfl <;> decide +kernel
theorem byt_list (l : List UInt8) : (byt l).data.toList = l := by simp [byt]
theorem byt_data (s : ByteArray) : byt s.data.toList = s := by simp [byt]
theorem split_shape {k : Nat} (hk : 3 ≤ k ∧ k ≤ 16) : Lib.countB (byt (shp k)) ⟨#[46]⟩ + 1 = (prt k).length ∧ ((Lib.splitB ⟨#[46]⟩ 0 (Lib.countB (byt (shp k)) ⟨#[46]⟩) (byt (shp k))).map Value.string).toArray = strs (prt k) := by
  have h1 : Lib.countB (byt (shp k)) ⟨#[46]⟩ = Lib.count (shp k) [46] := by show Lib.count _ _ = _; rw [byt_list]
  have h2 := Lib.splitB_data ⟨#[46]⟩ 0 (Lib.countB (byt (shp k)) ⟨#[46]⟩) (byt (shp k))
  rw [byt_list, show (⟨#[46]⟩ : ByteArray).data.toList = [46] from rfl, h1, shp_parts hk] at h2
  rw [h1]
  refine ⟨?_, ?_⟩
  · rcases prt_kinds hk with rfl | rfl | rfl | rfl | rfl | rfl | rfl | rfl | rfl | rfl | rfl | rfl | rfl | rfl <;> decide +kernel
  · unfold strs
    rw [← h2, List.map_map]
    refine congrArg _ (List.map_congr_left fun x _ => ?_)
    simp only [Function.comp, byt_data]
theorem split_any {k : Nat} (hk : 3 ≤ k ∧ k ≤ 16) (w : World) (hm : GM w) : Calls Tryz.prog 24 #[.string (byt (shp k)), .string ⟨#[46]⟩] w fun e w' =>
    e = .returned (.slice (some ⟨w.heap.size, 0, none⟩) (prt k).length (prt k).length) ∧ Blk w' w.heap.size (strs (prt k)) ∧ Below w.heap.size w w' := by
  obtain ⟨m, hm⟩ := hm
  obtain ⟨h1, h2⟩ := split_shape hk
  refine (Tryz.strings_Split (byt (shp k)) ⟨#[46]⟩ m w (by
    obtain ⟨x, h3, h4⟩ := shpX_get (j := k - 1) (by omega)
    simp only [shp, h3, Option.getD_some, byt, ByteArray.size, List.size_toArray]; omega) hm (by decide)).mono ?_
  rintro e w' ⟨rfl, rfl⟩
  rw [h1, h2]
  exact ⟨rfl, Blk.new _ _ _, (Below.refl _ _).alloc (Nat.le_refl _) _⟩
theorem cut_any (p l : List UInt8) (w : World) : Calls Tryz.prog 153 #[.string (byt (p ++ l)), .string (byt p)] w fun e w' => e = .returned (.tuple #[.string (byt l), .bool true]) ∧ w = w' := by
  refine (Tryz.strings_CutPrefix (byt (p ++ l)) (byt p) w).mono ?_
  rintro e w' ⟨rfl, rfl⟩
  have h1 : Lib.hasPrefix (p ++ l) p = true := by simp [Lib.hasPrefix]
  have h2 : Lib.trimPrefix (p ++ l) p = l := by simp [Lib.trimPrefix, h1]
  rw [byt_list, byt_list, h1, h2]
  exact ⟨rfl, rfl⟩
theorem digit_of {n : Int} {c : UInt8} (h : 0 ≤ n ∧ n ≤ 9 ∧ (c.toNat : Int) = 48 + n) : ∃ i : Nat, n = i ∧ i ≤ 9 ∧ c = UInt8.ofNat (48 + i) := by
  obtain ⟨h1, h2, h3⟩ := h
  obtain ⟨i, rfl⟩ := Int.eq_ofNat_of_zero_le h1
  refine ⟨i, rfl, by omega, ?_⟩
  have : c.toNat = 48 + i := by omega
  rw [← this]; simp
theorem itoa_any (n : Int) (c : UInt8) (h : 0 ≤ n ∧ n ≤ 9 ∧ (c.toNat : Int) = 48 + n) (w : World) : Calls Tryz.prog 47 #[.int .i64 n] w fun e w' => e = .returned (.string (byt [c])) ∧ w = w' := by
  obtain ⟨i, rfl, hi, rfl⟩ := digit_of h
  refine (Tryz.strconv_Itoa_small i (by omega) w).mono ?_
  rintro e w' ⟨rfl, rfl⟩
  refine ⟨?_, rfl⟩
  rw [Lib.decDigits, dif_pos (by omega)]
  rfl
theorem atoi_any (n : Int) (c : UInt8) (h : 0 ≤ n ∧ n ≤ 9 ∧ (c.toNat : Int) = 48 + n) (s : ByteArray) (hs : s = byt [c]) (w : World) : Calls Tryz.prog 187 #[.string s] w fun e w' => e = .returned (.tuple #[.int .i64 n, .nilIface]) ∧ Below w.heap.size w w' := by
  subst hs
  obtain ⟨i, rfl, hi, rfl⟩ := digit_of h
  have hat : Lib.atoi (byt [UInt8.ofNat (48 + i)]).data.toList = some (i : Int) := by
    rw [byt_list]
    have : ∀ j : Fin 10, Lib.atoi [UInt8.ofNat (48 + j.val)] = some (j.val : Int) := by decide +kernel
    exact this ⟨i, by omega⟩
  refine (Tryz.strconv_Atoi _ i (by simp [byt, ByteArray.size]) hat w).mono ?_
  rintro e w' ⟨rfl, t, rfl⟩
  exact ⟨rfl, Lib.bytesWorld_below w 5 t⟩
open Go.RowKit
set_option maxRecDepth 100000 in
theorem shapes_any (w : World) : Calls Tryz.prog 46 #[] w fun e w' => e = .returned (.slice (some ⟨w.heap.size, 0, none⟩) 16 16) ∧ Blk w' w.heap.size (strs shpX) ∧ Below w.heap.size w w' := by
  go_enter Tryz.func46, Tryz.ntmps46
  go_wp2
  go_ret
  exact ⟨rfl, Blk.new_ w 9 (strs shpX) rfl, (Below.refl _ _).alloc (Nat.le_refl _) _⟩
/-- the first signs of the kinds -/
def sgn : List Nat := [35, 42, 40, 91, 40, 78, 48, 43, 60, 123, 33, 64, 40, 124, 94, 95]
theorem byt_head {c : UInt8} {l : List UInt8} {x : List UInt8} (hx : x = c :: l) : ∃ h : 0 < (byt x).size, ((byt x)[0]'h).toNat = c.toNat := by
  subst hx
  exact ⟨by simp [byt, ByteArray.size], rfl⟩
theorem byt_ne {c : UInt8} {l : List UInt8} : ((byt (c :: l)).toList == []) = false ∧ (byt (c :: l)).toList.isEmpty = false := by simp [byt]
theorem sgn_get {j : Nat} (hj : j < 16) : ∃ x z, shpX[j]? = some x ∧ sgn[j]? = some z ∧ z < 256 ∧ ∃ h : 0 < (byt x).size, ((byt x)[0]'h).toNat = z := by
  have h : ∀ i : Fin 16, (shpX[i.val]'i.isLt).head?.map (·.toNat) = some (sgn[i.val]'i.isLt) := by decide +kernel
  have h2 := h ⟨j, hj⟩
  obtain ⟨x, hx⟩ : ∃ x, shpX[j]? = some x := ⟨_, List.getElem?_eq_getElem (show j < shpX.length from hj)⟩
  obtain ⟨z, hz⟩ : ∃ z, sgn[j]? = some z := ⟨_, List.getElem?_eq_getElem (show j < sgn.length from hj)⟩
  obtain ⟨h3, h4⟩ := List.getElem?_eq_some_iff.1 hx
  obtain ⟨h5, h6⟩ := List.getElem?_eq_some_iff.1 hz
  have h7 : x.head?.map (·.toNat) = some z := by rw [← h4, ← h6]; exact h2
  refine ⟨x, z, hx, hz, ?_, ?_⟩
  · have : ∀ z, z ∈ sgn → z < 256 := by decide
    rw [← h6]; exact this _ (List.getElem_mem h5)
  · cases x with
    | nil => simp at h7
    | cons a b =>
      simp only [List.head?_cons, Option.map_some, Option.some.injEq] at h7
      rw [← h7]
      exact byt_head rfl
set_option maxRecDepth 100000 in
set_option maxHeartbeats 2000000 in
theorem kindAt_any (c : UInt8) (l : List UInt8) (s : ByteArray) (hsl : s = byt (c :: l)) (z k : Nat) (hs2 : s.size ≤ 1000000) (hcz : c.toNat = z) (hk : k < 16) (h1 : sgn[k]? = some z) (h2 : ∀ j y, j < k → sgn[j]? = some y → y ≠ z) (w : World) :
    Calls Tryz.prog 151 #[.string s] w fun e w' => e = .returned (.int .i64 ((k : Int) + 1)) ∧ Below w.heap.size w w' := by
  obtain ⟨q1, q2⟩ := byt_ne (c := c) (l := l)
  obtain ⟨hs, hz⟩ := byt_head (c := c) (l := l) rfl
  rw [← hsl] at q1 q2
  rw [hcz] at hz
  replace hz : ∃ hs : 0 < s.size, (s[0]'hs).toNat = z := by subst hsl; exact ⟨hs, hz⟩
  clear hs
  obtain ⟨hs, hz⟩ := hz
  clear hsl hcz
  go_enter Tryz.func151, Tryz.ntmps151
  go_wp2_with (go_at_call 46; refine (shapes_any _).mono ?_; rintro e w1 ⟨rfl, hB, hb1⟩)
  go_loopw [9] (fun i wr => ∃ j : Nat, j ≤ k ∧ i = .int .i64 j ∧ Below w.heap.size w wr ∧ Blk wr w.heap.size (strs shpX)) (fun i _ => 16 - (intOf i).toNat)
  case atStart => exact ⟨0, Nat.zero_le _, rfl, hb1, hB⟩
  case round =>
    obtain ⟨j, hj, rfl, hb, hBr⟩ := hrel
    obtain ⟨x, y, hx, hy, hy2, hxs, hxz⟩ := sgn_get (j := j) (by omega)
    obtain ⟨hjl, hxe⟩ := List.getElem?_eq_some_iff.1 hx
    have hc := hBr.at_ (strs_get hjl)
    rw [hxe] at hc
    have hxs2 : (byt x).size ≤ 100 := by
      obtain ⟨x', h3, h4⟩ := shpX_get (j := j) (by omega)
      rw [hx] at h3; injection h3 with h3; subst h3
      simp only [byt, ByteArray.size, List.size_toArray]; omega
    have hj16 : (j : Int) < 16 := by omega
    generalize hsx : byt x = sx at hc hxs hxz hxs2
    clear hsx hxe hx
    go_wp2_with fail
    refine wp_region_class (fun w' => Below wr.heap.size wr w') (by kernel_rfl) (by kernel_rfl) (Below.refl _ _).drew ?_
    repeat (first | ((refine quiet_skip (a' := ?_) ?_ ?_ ?_); (rotate_left); (· (simp [Region.wanted, yielded, Go.undef]; done)); (· (simp only [Act.put, List.setIfInBounds_toArray, List.set_cons_zero, List.set_cons_succ]; exact rfl))) | ((refine quiet_one (v := ?_) (a' := ?_) ?_ ?_ ?_ ?_); (rotate_left 2); (· (simp [Region.wanted, yielded, Go.undef]; done)); (· (intro w' hS'; go_simp; try (with_reducible rfl))); (· (simp only [Act.put, List.setIfInBounds_toArray, List.set_cons_zero, List.set_cons_succ]; exact rfl))))
    refine quiet_nil ?_
    intro w2 hb2
    have s2 := hb2.size
    have hbw : Below w.heap.size w w2 := hb.trans (hb2.mono hb.size)
    by_cases hjk : j = k
    · subst hjk
      rw [h1] at hy; injection hy with hy; subst hy
      go_wp2_with fail
      go_ret
      exact ⟨ret_int (by omega), hbw⟩
    · have hyz := h2 j y (by omega) hy
      have q3 : ((y : Int) == (z : Int)) = false := beq_eq_false_iff_ne.2 (by omega)
      go_wp2_with fail
      go_roundw
      case rel => exact ⟨j + 1, by omega, by go_num, hbw, hBr.keep hb2⟩
      case measure => simp [intOf]; omega
theorem sgn_first {k : Nat} (hk : 1 ≤ k ∧ k ≤ 16) : ∃ z, sgn[kind0 k - 1]? = some z ∧ (∀ j y, j < kind0 k - 1 → sgn[j]? = some y → y ≠ z) ∧ ((shp k).head?.map (·.toNat)) = some z ∧ z < 256 ∧ (z = 40 ↔ (k = 3 ∨ k = 5 ∨ k = 13)) := by
  have h : ∀ i : Fin 16, sgn[kind0 (i.val + 1) - 1]? = some ((sgn[kind0 (i.val + 1) - 1]?).getD 0) ∧ (∀ j : Fin 16, j.val < kind0 (i.val + 1) - 1 → sgn[j.val]? ≠ some ((sgn[kind0 (i.val + 1) - 1]?).getD 0)) ∧
      ((shp (i.val + 1)).head?.map (·.toNat)) = some ((sgn[kind0 (i.val + 1) - 1]?).getD 0) ∧ ((sgn[kind0 (i.val + 1) - 1]?).getD 0) < 256 ∧ (((sgn[kind0 (i.val + 1) - 1]?).getD 0) = 40 ↔ (i.val + 1 = 3 ∨ i.val + 1 = 5 ∨ i.val + 1 = 13)) := by decide +kernel
  obtain ⟨i, rfl⟩ : ∃ i, k = i + 1 := ⟨k - 1, by omega⟩
  obtain ⟨h1, h2, h3⟩ := h ⟨i, by omega⟩
  refine ⟨_, h1, fun j y hj hy e => ?_, h3⟩
  obtain ⟨hl, _⟩ := List.getElem?_eq_some_iff.1 hy
  exact h2 ⟨j, hl⟩ hj (e ▸ hy)
/-- a text's first sign tells its kind *-/
theorem kindAt_of {k : Nat} (hk : 1 ≤ k ∧ k ≤ 16) {c : UInt8} {x l : List UInt8} (hx : shp k = c :: x) (hl : l.length ≤ 100000) (w : World) :
    Calls Tryz.prog 151 #[.string (byt (c :: l))] w fun e w' => e = .returned (.int .i64 (kind0 k : Nat)) ∧ Below w.heap.size w w' := by
  obtain ⟨z, h1, h2, h3, h4, h5⟩ := sgn_first hk
  rw [hx] at h3
  simp only [List.head?_cons, Option.map_some, Option.some.injEq] at h3
  have hk0 : 1 ≤ kind0 k ∧ kind0 k ≤ 16 := by unfold kind0; split <;> omega
  have := kindAt_any c l _ rfl z (kind0 k - 1) (by simp [byt, ByteArray.size]; omega) h3 (by omega) h1 h2 w
  rwa [show ((kind0 k - 1 : Nat) : Int) + 1 = ((kind0 k : Nat) : Int) by omega] at this
theorem byt_take1 (c : UInt8) (l : List UInt8) : (byt (c :: l)).extract 0 1 = byt [c] := by
  refine ByteArray.ext ?_
  rw [ByteArray.data_extract]
  exact Array.ext' (by simp [byt])
theorem byt_drop1 (c : UInt8) (l : List UInt8) : (byt (c :: l)).extract 1 (byt (c :: l)).size = byt l := by
  refine ByteArray.ext ?_
  rw [ByteArray.data_extract]
  exact Array.ext' (by simp [byt, ByteArray.size])
/-- a text begins with no digit -/
def NdL : List UInt8 → Prop | [] => True | c :: _ => c.toNat < 48 ∨ 57 < c.toNat
set_option maxRecDepth 100000 in
set_option maxHeartbeats 4000000 in
theorem readNumber_any (n : Int) (c : UInt8) (h : 0 ≤ n ∧ n ≤ 9 ∧ (c.toNat : Int) = 48 + n) (rest : List UInt8) (hr : NdL rest) (hl : rest.length ≤ 100000) (w : World) :
    Calls Tryz.prog 152 #[.string (byt (c :: rest))] w fun e w' => e = .returned (.tuple #[.int .i64 n, .string (byt rest)]) ∧ Below w.heap.size w w' := by
  obtain ⟨s, hs⟩ : ∃ s, byt (c :: rest) = s := ⟨_, rfl⟩
  have hat := hide (atoi_any n c h (s.extract 0 1) (by subst hs; exact byt_take1 c rest))
  have hsz : s.size = rest.length + 1 := by subst hs; simp [byt, ByteArray.size]
  obtain ⟨hi, hc⟩ : ∃ hi : 0 < s.size, (s[0]'hi).toNat = c.toNat := by subst hs; exact byt_head rfl
  have hnd : ∀ hi : 1 < s.size, (s[1]'hi).toNat < 48 ∨ 57 < (s[1]'hi).toNat := by
    subst hs
    intro hi
    cases rest with
    | nil => simp [byt, ByteArray.size] at hi
    | cons a b => exact hr
  have hrest : s.extract 1 (rest.length + 1) = byt rest := by rw [← hsz]; subst hs; exact byt_drop1 c rest
  have hsg : (1 : Int) ≤ (rest.length : Int) + 1 := by omega
  have hsl : s.size ≤ 1000000 := by omega
  rw [hs]
  clear hs hr
  generalize hz : c.toNat = z at hc h
  have hn' := hide h
  have d1 : decide ((48 : Int) ≤ (z : Int)) = true := decide_eq_true (by omega)
  have d2 : decide ((z : Int) ≤ 57) = true := decide_eq_true (by omega)
  clear h hz
  go_enter Tryz.func152, Tryz.ntmps152
  go_wp2
  go_loopw [4] (fun v wr => ∃ k : Nat, k ≤ 1 ∧ v = .int .i64 (k : Nat) ∧ wr = w) (fun v _ => 1 - (intOf v).toNat)
  case atStart => exact ⟨0, by omega, rfl, by first | trivial | rfl⟩
  case round =>
    obtain ⟨k, hk, rfl, rfl⟩ := hrel
    by_cases hk0 : k = 0
    · subst hk0
      go_wp2
      go_roundw
      case rel => exact ⟨1, by omega, rfl, by first | trivial | rfl⟩
      case measure => simp [intOf]
    · obtain rfl : k = 1 := by omega
      clear hk hk0
      by_cases hl1 : 1 < s.size
      · have hnd1 := hnd hl1
        obtain ⟨c2, hc2⟩ : ∃ c2, (s[1]'hl1).toNat = c2 := ⟨_, rfl⟩
        rw [hc2] at hnd1
        by_cases h5 : c2 < 48
        · have e1 : decide ((48 : Int) ≤ (c2 : Int)) = false := decide_eq_false (by omega)
          go_wp2_with (go_at_call 187; refine (hat.out _).mono ?_; rintro e w1 ⟨rfl, hb1⟩)
          refine wp_region_class (fun w' => Below w1.heap.size w1 w') (by kernel_rfl) (by kernel_rfl) (Below.refl _ _).drew ?_
          repeat (first | ((refine quiet_skip (a' := ?_) ?_ ?_ ?_); (rotate_left); (· (simp [Region.wanted, yielded, Go.undef]; done)); (· (simp only [Act.put, List.setIfInBounds_toArray, List.set_cons_zero, List.set_cons_succ]; exact rfl))) | ((refine quiet_one (v := ?_) (a' := ?_) ?_ ?_ ?_ ?_); (rotate_left 2); (· (simp [Region.wanted, yielded, Go.undef]; done)); (· (intro w' hS'; go_simp; try (with_reducible rfl))); (· (simp only [Act.put, List.setIfInBounds_toArray, List.set_cons_zero, List.set_cons_succ]; exact rfl))))
          refine quiet_nil ?_
          intro w2 hb2
          go_wp2_with fail
          go_ret2
          exact ⟨by rw [← hrest]; rfl, hb1.trans (hb2.mono hb1.size)⟩
        · have e1 : decide ((48 : Int) ≤ (c2 : Int)) = true := decide_eq_true (by omega)
          have e2 : decide ((c2 : Int) ≤ 57) = false := decide_eq_false (by omega)
          go_wp2_with (go_at_call 187; refine (hat.out _).mono ?_; rintro e w1 ⟨rfl, hb1⟩)
          refine wp_region_class (fun w' => Below w1.heap.size w1 w') (by kernel_rfl) (by kernel_rfl) (Below.refl _ _).drew ?_
          repeat (first | ((refine quiet_skip (a' := ?_) ?_ ?_ ?_); (rotate_left); (· (simp [Region.wanted, yielded, Go.undef]; done)); (· (simp only [Act.put, List.setIfInBounds_toArray, List.set_cons_zero, List.set_cons_succ]; exact rfl))) | ((refine quiet_one (v := ?_) (a' := ?_) ?_ ?_ ?_ ?_); (rotate_left 2); (· (simp [Region.wanted, yielded, Go.undef]; done)); (· (intro w' hS'; go_simp; try (with_reducible rfl))); (· (simp only [Act.put, List.setIfInBounds_toArray, List.set_cons_zero, List.set_cons_succ]; exact rfl))))
          refine quiet_nil ?_
          intro w2 hb2
          go_wp2_with fail
          go_ret2
          exact ⟨by rw [← hrest]; rfl, hb1.trans (hb2.mono hb1.size)⟩
      · go_wp2_with (go_at_call 187; refine (hat.out _).mono ?_; rintro e w1 ⟨rfl, hb1⟩)
        refine wp_region_class (fun w' => Below w1.heap.size w1 w') (by kernel_rfl) (by kernel_rfl) (Below.refl _ _).drew ?_
        repeat (first | ((refine quiet_skip (a' := ?_) ?_ ?_ ?_); (rotate_left); (· (simp [Region.wanted, yielded, Go.undef]; done)); (· (simp only [Act.put, List.setIfInBounds_toArray, List.set_cons_zero, List.set_cons_succ]; exact rfl))) | ((refine quiet_one (v := ?_) (a' := ?_) ?_ ?_ ?_ ?_); (rotate_left 2); (· (simp [Region.wanted, yielded, Go.undef]; done)); (· (intro w' hS'; go_simp; try (with_reducible rfl))); (· (simp only [Act.put, List.setIfInBounds_toArray, List.set_cons_zero, List.set_cons_succ]; exact rfl))))
        refine quiet_nil ?_
        intro w2 hb2
        go_wp2_with fail
        go_ret2
        exact ⟨by rw [← hrest]; rfl, hb1.trans (hb2.mono hb1.size)⟩
end Go.Proofs.YtodkpgkefjegnaaGreatDoor
