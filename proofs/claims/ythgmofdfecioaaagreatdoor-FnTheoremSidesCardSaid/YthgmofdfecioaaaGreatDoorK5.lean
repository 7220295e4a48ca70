/-
  Texts of this claim, merged: contracts of the functions that the law reaches. No condition.
-/
import Derived.Test.YthgmofdfecioaaaGreatDoorK1
import Derived.Test.YthgmofdfecioaaaGreatDoorK2
import Derived.Test.YthgmofdfecioaaaGreatDoorK3
import Derived.Test.YthgmofdfecioaaaGreatDoorK4
import Derived.WalkSpells
import Derived.WalkLawsBesides
import Derived.Deep.DeepCutAuto

namespace Go.Proofs.YthgmofdfecioaaaGreatDoor
open Go.RowKit
set_option linter.unusedSimpArgs false
set_option linter.unusedVariables false

theorem shape_pos {q : Nat} {k n : Int} {ks : List Tm} (h : shape q (.mk k n ks) = true) : ∃ q', q = q' + 1 ∧ arity k = (ks.length : Int) ∧ 0 ≤ n ∧ n ≤ mostN k ∧ ∀ t, t ∈ ks → shape q' t = true := by
  cases q with
  | zero => simp [shape] at h
  | succ q => exact ⟨q, rfl, (shape_split q k n ks).1 h⟩
theorem var_nil {ks : List Tm} (h : arity 1 = (ks.length : Int)) : ks = [] := by
  have h0 : arity 1 = 0 := rfl
  rw [h0] at h
  exact List.eq_nil_of_length_eq_zero (by omega)

theorem shS_chg (by_ cut : Int) (t : Tm) : ∀ (q : Nat) (e : Int), shape q t = true → chg (shF by_ cut) e t = shS by_ (cut + e) t := by
  refine Tm.rec (motive_1 := fun t => ∀ (q : Nat) (e : Int), shape q t = true → chg (shF by_ cut) e t = shS by_ (cut + e) t)
    (motive_2 := fun ts => ∀ (q : Nat) (k e : Int) (i : Nat), (∀ t, t ∈ ts → shape q t = true) → chgs (shF by_ cut) k e i ts = shSL by_ k (cut + e) i ts) ?_ ?_ ?_ t
  · intro k n ks ih q e h
    obtain ⟨q', rfl, ha, h0, h1, hk⟩ := shape_pos h
    rw [chg, shS]
    by_cases h1 : k = 1
    · subst h1
      have := var_nil ha
      subst this
      rw [if_pos rfl, shF, shSL]
      congr 1
      by_cases hc : cut ≤ n - e
      · rw [if_pos hc, if_pos ⟨rfl, by omega⟩]
      · rw [if_neg hc, if_neg (by rintro ⟨-, h⟩; omega)]
    · rw [if_neg h1, if_neg (by rintro ⟨h, -⟩; exact h1 h), ih q' k e 0 hk]
  · intro q k e i _; rfl
  · intro t ts h1 h2 q k e i hk
    rw [chgs, shSL, h1 q _ (hk t List.mem_cons_self), h2 q k e (i + 1) (fun t ht => hk t (List.mem_cons_of_mem _ ht)), show cut + (e + under k i) = cut + e + under k i by omega]

theorem shOk_of_shape (by_ cut : Int) (hb : 0 ≤ by_) (t : Tm) : ∀ (q p : Nat) (e : Int), shape q t = true → shape p (shS by_ (cut + e) t) = true → chgOk (shOk by_ cut) e t = true := by
  refine Tm.rec (motive_1 := fun t => ∀ (q p : Nat) (e : Int), shape q t = true → shape p (shS by_ (cut + e) t) = true → chgOk (shOk by_ cut) e t = true)
    (motive_2 := fun ts => ∀ (q p : Nat) (k e : Int) (i : Nat), (∀ t, t ∈ ts → shape q t = true) → (∀ t, t ∈ shSL by_ k (cut + e) i ts → shape p t = true) → chgsOk (shOk by_ cut) k e i ts = true) ?_ ?_ ?_ t
  · intro k n ks ih q p e h hp
    obtain ⟨q', rfl, ha, h0, h1, hk⟩ := shape_pos h
    rw [shS] at hp
    obtain ⟨p', rfl, hpa, hp0, hp1, hpk⟩ := shape_pos hp
    rw [chgOk]
    by_cases h1 : k = 1
    · subst h1
      have h20 : mostN 1 = 20 := rfl
      rw [if_pos rfl, shOk]
      by_cases hc : cut ≤ n - e
      · rw [if_pos ⟨rfl, by omega⟩] at hp1
        rw [if_pos hc, decide_eq_true (by omega), decide_eq_true (by omega)]; rfl
      · rw [if_neg hc]
    · rw [if_neg h1]; exact ih q' p' k e 0 hk hpk
  · intro q p k e i _ _; rfl
  · intro t ts h1 h2 q p k e i hk hp
    rw [shSL] at hp
    rw [chgsOk, h1 q p _ (hk t List.mem_cons_self) (by rw [show cut + (e + under k i) = cut + e + under k i by omega]; exact hp _ List.mem_cons_self), h2 q p k e (i + 1) (fun t ht => hk t (List.mem_cons_of_mem _ ht)) (fun t ht => hp t (List.mem_cons_of_mem _ ht))]; rfl

theorem shape_up {p q : Nat} (h : p ≤ q) (t : Tm) : shape p t = true → shape q t = true := by
  induction p generalizing q t with
  | zero => intro hp; simp [shape] at hp
  | succ p ih =>
    intro hp
    obtain ⟨k, n, ks⟩ := t
    obtain ⟨q', rfl⟩ : ∃ q', q = q' + 1 := ⟨q - 1, by omega⟩
    obtain ⟨a, b, c, d⟩ := (shape_split p k n ks).1 hp
    exact (shape_split q' k n ks).2 ⟨a, b, c, fun t ht => ih (by omega) t (d t ht)⟩

/-- what fill lays in a variable's place is the reference's, where it goes well -/
theorem shiftI_some {d : Int} {a : Tm} (hs : shape 30 a = true) (h : (shiftI d 0 a).isSome = true) : (shiftI d 0 a).getD (.mk 0 0 []) = shS d 0 a := by
  unfold shiftI at h ⊢
  split
  · rename_i h1
    rw [if_pos h1] at h
    split
    · rw [Option.getD_some, shS_chg d 0 a 30 0 hs, Int.zero_add]
    · rename_i h2; rw [if_neg h2] at h; cases h
  · rename_i h1; rw [if_neg h1] at h; cases h
theorem shiftI_ok {d : Int} {a : Tm} (hd : 0 ≤ d) (hs : shape 30 a = true) (h : validT (shS d 0 a) = true) : (shiftI d 0 a).isSome = true := by
  have hsh : shape 30 (shS d 0 a) = true := by simp only [validT, Bool.and_eq_true] at h; exact h.1
  have h1 : chgOk (shOk d 0) 0 a = true := shOk_of_shape d 0 hd a 30 30 0 hs (by rw [Int.zero_add]; exact hsh)
  unfold shiftI
  rw [if_pos h1, shS_chg d 0 a 30 0 hs, Int.zero_add, if_pos h]; rfl

section
variable {args : List Tm} (hsa : ∀ t, t ∈ args → shape 30 t = true)
include hsa
theorem filled (t : Tm) : ∀ (q : Nat) (d : Int), 0 ≤ d → shape q t = true → chgOk (filOk args) d t = true → chg (filF args) d t = flS args d t := by
  refine Tm.rec (motive_1 := fun t => ∀ (q : Nat) (d : Int), 0 ≤ d → shape q t = true → chgOk (filOk args) d t = true → chg (filF args) d t = flS args d t)
    (motive_2 := fun ts => ∀ (q : Nat) (k d : Int) (i : Nat), 0 ≤ d → (∀ t, t ∈ ts → shape q t = true) → chgsOk (filOk args) k d i ts = true → chgs (filF args) k d i ts = flSL args k d i ts) ?_ ?_ ?_ t
  · intro k n ks ih q d hd h hok
    obtain ⟨q', rfl, ha, h0, h1, hk⟩ := shape_pos h
    rw [chgOk] at hok
    rw [chg, flS]
    by_cases h1 : k = 1
    · subst h1
      have := var_nil ha
      subst this
      rw [if_pos rfl] at hok ⊢
      unfold filOk at hok
      unfold filF
      by_cases h2 : n - d < 0
      · rw [if_pos h2, if_neg (by rintro ⟨-, h⟩; omega), flSL]
      · rw [if_neg h2] at hok ⊢
        rw [if_pos (show (1 : Int) = 1 ∧ d ≤ n from ⟨rfl, by omega⟩)]
        by_cases h3 : (args.length : Int) ≤ n - d
        · rw [if_pos h3, if_neg (show ¬ n < d + (args.length : Int) by omega)]
        · rw [if_neg h3] at hok ⊢
          rw [if_pos (show n < d + (args.length : Int) by omega)]
          have hlt : (n - d).toNat < args.length := by omega
          have hsx : shape 30 (args.getD (n - d).toNat default) = true := by
            rw [List.getD_eq_getElem?_getD, List.getElem?_eq_getElem hlt, Option.getD_some]; exact hsa _ (List.getElem_mem hlt)
          exact shiftI_some hsx hok
    · rw [if_neg h1] at hok ⊢
      rw [if_neg (by rintro ⟨h, -⟩; exact h1 h), ih q' k d 0 hd hk hok]
  · intro q k d i _ _ _; rfl
  · intro t ts h1 h2 q k d i hd hk hok
    rw [chgsOk, Bool.and_eq_true] at hok
    rw [chgs, flSL, h1 q _ (by have := under_le k i; omega) (hk t List.mem_cons_self) hok.1, h2 q k d (i + 1) hd (fun t ht => hk t (List.mem_cons_of_mem _ ht)) hok.2]

theorem fill_ok (t : Tm) : ∀ (q p : Nat) (d : Int), 0 ≤ d → p ≤ 30 → shape q t = true → shape p (flS args d t) = true → (flS args d t).size ≤ 400 → chgOk (filOk args) d t = true := by
  refine Tm.rec (motive_1 := fun t => ∀ (q p : Nat) (d : Int), 0 ≤ d → p ≤ 30 → shape q t = true → shape p (flS args d t) = true → (flS args d t).size ≤ 400 → chgOk (filOk args) d t = true)
    (motive_2 := fun ts => ∀ (q p : Nat) (k d : Int) (i : Nat), 0 ≤ d → p ≤ 30 → (∀ t, t ∈ ts → shape q t = true) → (∀ t, t ∈ flSL args k d i ts → shape p t = true) → sizes (flSL args k d i ts) ≤ 400 → chgsOk (filOk args) k d i ts = true) ?_ ?_ ?_ t
  · intro k n ks ih q p d hd hp h hs hz
    obtain ⟨q', rfl, ha, h0, h1, hk⟩ := shape_pos h
    rw [chgOk]
    rw [flS] at hs hz
    by_cases h1 : k = 1
    · subst h1
      rw [if_pos rfl]
      unfold filOk
      by_cases h2 : n - d < 0
      · rw [if_pos h2]
      · rw [if_neg h2]
        by_cases h3 : (args.length : Int) ≤ n - d
        · rw [if_pos h3]
        · rw [if_neg h3]
          rw [if_pos (show (1 : Int) = 1 ∧ d ≤ n from ⟨rfl, by omega⟩), if_pos (show n < d + (args.length : Int) by omega)] at hs hz
          have hlt : (n - d).toNat < args.length := by omega
          have hsx : shape 30 (args.getD (n - d).toNat default) = true := by
            rw [List.getD_eq_getElem?_getD, List.getElem?_eq_getElem hlt, Option.getD_some]; exact hsa _ (List.getElem_mem hlt)
          refine shiftI_ok hd hsx ?_
          rw [validT, shape_up hp _ hs, decide_eq_true hz]; rfl
    · rw [if_neg h1]
      have hn : ¬ (k = 1 ∧ d ≤ n) := by rintro ⟨h, -⟩; exact h1 h
      rw [if_neg hn] at hs hz
      obtain ⟨p', rfl, hpa, hp0, hp1, hpk⟩ := shape_pos hs
      rw [Tm.size] at hz
      exact ih q' p' k d 0 hd (by omega) hk hpk (by omega)
  · intro q p k d i _ _ _ _ _; rfl
  · intro t ts h1 h2 q p k d i hd hp hk hs hz
    rw [flSL] at hs hz
    rw [sizes] at hz
    rw [chgsOk, h1 q p _ (by have := under_le k i; omega) hp (hk t List.mem_cons_self) (hs _ List.mem_cons_self) (by omega), h2 q p k d (i + 1) hd hp (fun t ht => hk t (List.mem_cons_of_mem _ ht)) (fun t ht => hs t (List.mem_cons_of_mem _ ht)) (by omega)]; rfl
end

theorem fill_same (t : Tm) (args : List Tm) : fillTS t args = fillTI t args := by
  unfold fillTS fillTI
  by_cases hv : validT t = true
  · by_cases hl : args.length ≤ 6
    · by_cases ha : (args.any fun a => !validT a) = false
      · rw [if_pos (⟨hv, hl, ha⟩ : _ ∧ _ ∧ _)]
        have hval : ∀ t, t ∈ args → shape 30 t = true := fun t ht => by
          have : validT t = true := by simpa using List.any_eq_false.1 ha t ht
          simp only [validT, Bool.and_eq_true] at this
          exact this.1
        have hs : shape 30 t = true := by simp only [validT, Bool.and_eq_true] at hv; exact hv.1
        unfold fillI
        by_cases hok : chgOk (filOk args) 0 t = true
        · rw [if_pos hok, filled hval t 30 0 (Int.le_refl 0) hs hok]
          by_cases h4 : validT (flS args 0 t) = true
          · rw [if_pos ⟨hv, hl, ha, h4⟩, if_pos h4]
          · rw [if_neg (by rintro ⟨-, -, -, h⟩; exact h4 h), if_neg h4]
        · rw [if_neg hok, if_neg]
          rintro ⟨-, -, -, h4⟩
          simp only [validT, Bool.and_eq_true, decide_eq_true_eq] at h4
          exact hok (fill_ok hval t 30 30 0 (Int.le_refl 0) (Nat.le_refl _) hs h4.1 h4.2)
      · rw [if_neg (by rintro ⟨-, -, h, -⟩; exact ha h), if_neg (by rintro ⟨-, -, h⟩; exact ha h)]
    · rw [if_neg (by rintro ⟨-, h, -⟩; exact hl h), if_neg (by rintro ⟨-, h, -⟩; exact hl h)]
  · rw [if_neg (by rintro ⟨h, -⟩; exact hv h), if_neg (by rintro ⟨h, -⟩; exact hv h)]
end Go.Proofs.YthgmofdfecioaaaGreatDoor

namespace Go.Proofs.YthgmofdfecioaaaGreatDoor
open Go.RowKit
set_option linter.unusedSimpArgs false
set_option linter.unusedVariables false

mutual
/-- no variable that lies between cut and cut + by -/
def kpS (by_ : Int) : Int → Tm → Bool | d, .mk k n ks => if k = 1 ∧ d ≤ n ∧ n < d + by_ then false else kpSL by_ k d 0 ks
def kpSL (by_ : Int) : Int → Int → Nat → List Tm → Bool | _, _, _, [] => true | k, d, i, t :: ts => kpS by_ (d + under k i) t && kpSL by_ k d (i + 1) ts
end
theorem kpSL_append (by_ k d : Int) (us : List Tm) : ∀ (ts : List Tm) (i : Nat), kpSL by_ k d i (ts ++ us) = (kpSL by_ k d i ts && kpSL by_ k d (i + ts.length) us)
  | [], i => by simp [kpSL]
  | t :: ts, i => by rw [List.cons_append, kpSL, kpSL, kpSL_append by_ k d us ts (i + 1), List.length_cons, show i + 1 + ts.length = i + (ts.length + 1) from by omega, Bool.and_assoc]
theorem kpSL_take (by_ k d : Int) {ks : List Tm} {j : Nat} (hj : j < ks.length) : kpSL by_ k d 0 (ks.take (j + 1)) = (kpSL by_ k d 0 (ks.take j) && kpS by_ (d + under k j) ks[j]) := by
  rw [List.take_succ_eq_append_getElem hj, kpSL_append, List.length_take, Nat.min_eq_left (Nat.le_of_lt hj), Nat.zero_add, kpSL, kpSL, Bool.and_true]
theorem kpSL_no (by_ k d : Int) {ks : List Tm} {j : Nat} (hj : j < ks.length) (h : kpS by_ (d + under k j) ks[j] = false) : kpSL by_ k d 0 ks = false := by
  have h1 : kpSL by_ k d 0 (ks.take (j + 1)) = false := by rw [kpSL_take by_ k d hj, h, Bool.and_false]
  have h2 : ks = ks.take (j + 1) ++ ks.drop (j + 1) := (List.take_append_drop _ _).symm
  rw [h2, kpSL_append, h1, Bool.false_and]

/-- the two tests of a shift down are one -/
theorem kp_ok {dp : Int} (h0 : 0 ≤ dp) (t : Tm) : ∀ (q : Nat) (d : Int), 0 ≤ d → shape q t = true → chgOk (shOk (-dp) 0) d t = kpS dp d t := by
  refine Tm.rec (motive_1 := fun t => ∀ (q : Nat) (d : Int), 0 ≤ d → shape q t = true → chgOk (shOk (-dp) 0) d t = kpS dp d t)
    (motive_2 := fun ts => ∀ (q : Nat) (k d : Int) (i : Nat), 0 ≤ d → (∀ t, t ∈ ts → shape q t = true) → chgsOk (shOk (-dp) 0) k d i ts = kpSL dp k d i ts) ?_ ?_ ?_ t
  · intro k n ks ih q d hd h
    obtain ⟨q', rfl, ha, h0, h1, hk⟩ := shape_pos h
    rw [chgOk, kpS]
    by_cases h1 : k = 1
    · subst h1
      have h20 : n ≤ 20 := by simpa [mostN] using h1
      have := var_nil ha
      subst this
      rw [if_pos rfl, shOk, kpSL]
      by_cases h2 : d ≤ n
      · rw [if_pos (by omega), decide_eq_true (show n + -dp ≤ 20 by omega), Bool.and_true]
        by_cases h3 : n < d + dp
        · rw [if_pos ⟨rfl, h2, h3⟩, decide_eq_false (by omega)]
        · rw [if_neg (by rintro ⟨-, -, h⟩; exact h3 h), decide_eq_true (by omega)]
      · rw [if_neg (by omega), if_neg (by rintro ⟨-, h, -⟩; exact h2 h)]
    · rw [if_neg h1, if_neg (by rintro ⟨h, -⟩; exact h1 h), ih q' k d 0 hd hk]
  · intro q k d i _ _; rfl
  · intro t ts h1 h2 q k d i hd hk
    rw [chgsOk, kpSL, h1 q _ (by have := under_le k i; omega) (hk t List.mem_cons_self), h2 q k d (i + 1) hd (fun t ht => hk t (List.mem_cons_of_mem _ ht))]
theorem shS_shape {dp : Int} (h0 : 0 ≤ dp) (t : Tm) : ∀ (q : Nat) (d : Int), 0 ≤ d → shape q t = true → kpS dp d t = true → shape q (shS (-dp) d t) = true := by
  refine Tm.rec (motive_1 := fun t => ∀ (q : Nat) (d : Int), 0 ≤ d → shape q t = true → kpS dp d t = true → shape q (shS (-dp) d t) = true)
    (motive_2 := fun ts => ∀ (q : Nat) (k d : Int) (i : Nat), 0 ≤ d → (∀ t, t ∈ ts → shape q t = true) → kpSL dp k d i ts = true → ∀ t, t ∈ shSL (-dp) k d i ts → shape q t = true) ?_ ?_ ?_ t
  · intro k n ks ih q d hd h hkp
    obtain ⟨q', rfl, ha, hn0, hn1, hk⟩ := shape_pos h
    rw [kpS] at hkp
    rw [shS]
    by_cases h1 : k = 1 ∧ d ≤ n ∧ n < d + dp
    · rw [if_pos h1] at hkp; cases hkp
    · rw [if_neg h1] at hkp
      refine (shape_split _ _ _ _).2 ⟨by rw [shSL_length]; exact ha, ?_, ?_, ih q' k d 0 hd hk hkp⟩
      · split
        · rename_i h2
          have : ¬ n < d + dp := fun h => h1 ⟨h2.1, h2.2, h⟩
          omega
        · exact hn0
      · split
        · omega
        · exact hn1
  · intro q k d i _ _ _ t ht; rw [shSL] at ht; cases ht
  · intro t ts h1 h2 q k d i hd hk hkp u hu
    rw [kpSL, Bool.and_eq_true] at hkp
    rw [shSL] at hu
    rcases List.mem_cons.1 hu with rfl | hu
    · exact h1 q _ (by have := under_le k i; omega) (hk t List.mem_cons_self) hkp.1
    · exact h2 q k d (i + 1) hd (fun t ht => hk t (List.mem_cons_of_mem _ ht)) hkp.2 u hu
/-- a shift down of a valid term goes well just where no variable is lost, and is the reference's -/
theorem shiftI_down {dp : Int} (h0 : 0 ≤ dp) {u : Tm} (hv : validT u = true) : shiftI (-dp) 0 u = if kpS dp 0 u = true then some (shS (-dp) 0 u) else none := by
  have hs : shape 30 u = true := by simp only [validT, Bool.and_eq_true] at hv; exact hv.1
  unfold shiftI
  rw [kp_ok h0 u 30 0 (Int.le_refl 0) hs]
  split
  · rename_i hk
    rw [shS_chg (-dp) 0 u 30 0 hs, Int.zero_add, if_pos]
    rw [validT, shS_shape h0 u 30 0 (Int.le_refl 0) hs hk, shS_size, decide_eq_true (validT_size hv)]; rfl
  · rfl
end Go.Proofs.YthgmofdfecioaaaGreatDoor

namespace Go.Proofs.YthgmofdfecioaaaGreatDoor
open Go.RowKit
set_option linter.unusedSimpArgs false
set_option linter.unusedVariables false

mutual
def sbS (u : Tm) : Int → Int → Tm → Tm
  | x, d, .mk k n ks => if k = 1 ∧ n = x then shS d 0 u else .mk k (if k = 1 ∧ x < n then n - 1 else n) (sbSL u k x d 0 ks)
def sbSL (u : Tm) : Int → Int → Int → Nat → List Tm → List Tm | _, _, _, _, [] => [] | k, x, d, i, t :: ts => sbS u (x + under k i) (d + under k i) t :: sbSL u k x d (i + 1) ts
end
theorem sbSL_append (u : Tm) (k x d : Int) (us : List Tm) : ∀ (ts : List Tm) (i : Nat), sbSL u k x d i (ts ++ us) = sbSL u k x d i ts ++ sbSL u k x d (i + ts.length) us
  | [], i => by simp [sbSL]
  | t :: ts, i => by rw [List.cons_append, sbSL, sbSL, sbSL_append u k x d us ts (i + 1), List.cons_append, List.length_cons, show i + 1 + ts.length = i + (ts.length + 1) from by omega]
theorem sbSL_length (u : Tm) (k x d : Int) : ∀ (ts : List Tm) (i : Nat), (sbSL u k x d i ts).length = ts.length
  | [], i => by simp [sbSL]
  | t :: ts, i => by rw [sbSL, List.length_cons, List.length_cons, sbSL_length u k x d ts (i + 1)]
theorem sbSL_take (u : Tm) (k x d : Int) {ks : List Tm} {j : Nat} (hj : j < ks.length) : sbSL u k x d 0 (ks.take (j + 1)) = sbSL u k x d 0 (ks.take j) ++ [sbS u (x + under k j) (d + under k j) ks[j]] := by
  rw [List.take_succ_eq_append_getElem hj, sbSL_append, List.length_take, Nat.min_eq_left (Nat.le_of_lt hj), Nat.zero_add, sbSL, sbSL]
/-- its size -/
theorem sbS_size (u : Tm) {m : Nat} (hm : u.size ≤ m) (h1 : 1 ≤ m) (t : Tm) : ∀ x d, (sbS u x d t).size ≤ t.size * m := by
  refine (Tm.ind2 (p := fun t => ∀ x d, (sbS u x d t).size ≤ t.size * m) (q := fun ts => ∀ k x d i, sizes (sbSL u k x d i ts) ≤ sizes ts * m) ?_ ?_ ?_).1 t
  · intro k n ks ih x d
    rw [sbS]
    split
    · rw [shS_size, Tm.size, Nat.add_mul]
      omega
    · have := ih k x d 0
      rw [Tm.size, Tm.size, Nat.add_mul]
      omega
  · intro k x d i; simp [sbSL, sizes]
  · intro t ts h1 h2 k x d i
    have a := h1 (x + under k i) (d + under k i)
    have b := h2 k x d (i + 1)
    rw [sbSL, sizes, sizes, Nat.add_mul]
    omega
set_option maxHeartbeats 2000000 in
set_option maxRecDepth 100000 in
theorem sSubst_any (ku nu : Int) (us : List Tm) (hus : shape 30 (.mk ku nu us) = true) (huz : sizes us ≤ 1000000) (N : Nat) : ∀ (k n : Int) (ks : List Tm) (A : Option Addr) (c : Nat) (U : Option Addr) (cu : Nat) (x d : Int) (q : Nat) (w : World), sizes ks < N → sizes ks ≤ 1000000 → shape q (.mk k n ks) = true → 0 ≤ x → x + q ≤ 900 → 0 ≤ d → d + q ≤ 900 → Rd w A 0 ks → Rd w U 0 us →
    ∀ (k2 n2 : Int) (ks2 : List Tm), sbS (.mk ku nu us) x d (.mk k n ks) = .mk k2 n2 ks2 →
    Calls Tryz.prog 82 #[.agg #[.int .i64 k, .int .i64 n, .slice A ks.length c], .int .i64 x, .agg #[.int .i64 ku, .int .i64 nu, .slice U us.length cu], .int .i64 d] w (GotT w k2 n2 ks2) := by
  induction N with
  | zero => intro k n ks A c U cu x d q w hN; exact absurd hN (Nat.not_lt_zero _)
  | succ N ih =>
  intro k n ks A c U cu x d q w hN hM hsh hx0 hxq hd0 hdq hr hru kr nr ksr hfl
  have hlen := length_le_sizes ks
  obtain ⟨q, rfl⟩ : ∃ q', q = q' + 1 := by cases q with | zero => simp [shape] at hsh | succ q => exact ⟨q, rfl⟩
  obtain ⟨ha, hm1, hm2, hkids⟩ := (shape_split q k n ks).1 hsh
  rw [sbS] at hfl
  have hus' := hide hus
  by_cases hk : k = 1
  · subst hk
    have hks : ks = [] := by
      have h0 : arity 1 = 0 := rfl
      rw [h0] at ha
      exact List.eq_nil_of_length_eq_zero (by omega)
    subst hks
    have h20 : mostN 1 = 20 := rfl
    rw [h20] at hm2
    clear hkids hsh ha h20
    by_cases hnx : n = x
    · rw [if_pos ⟨rfl, hnx⟩, shS] at hfl
      injection hfl with h1 h2 h3
      subst h1 h2 h3
      obtain ⟨n2, hn2⟩ : ∃ n2, (if ku = 1 ∧ 0 ≤ nu then nu + d else nu) = n2 := ⟨_, rfl⟩
      have hn2' := hide hn2
      rw [hn2]
      clear hn2
      subst hnx
      go_enter Tryz.func82, Tryz.ntmps82
      go_wp2_with (go_at_call 104; refine (sShift_any _ ku nu us U cu d 0 30 _ (Nat.lt_succ_self _) (by omega) hus'.out (by omega) (by omega) (by omega) (((hru.alloc _).alloc _).alloc _)).mono ?_; rw [hn2'.out]; rintro e w1 ⟨A1, c1, rfl, hl1, hf1, hb1⟩; have hT : Blk w1 (w.heap.size + 1 + 1) #[.int .i64 0, .int .i64 0, .slice none 0 0] := (Blk.new_ _ 27 _ (by simp)).keep hb1; obtain ⟨d0, d1, d2⟩ := hT.three; have e0 := hT.frozen 0; have e1 := hT.frozen 1; have e2 := hT.frozen 2; replace hf1 : Fresh (w.heap.size + 3) w1 A1 (shSL d ku 0 0 us) := hf1.mono (by simp); replace hb1 : Below w.heap.size w w1 := ((((Below.refl _ _).alloc (Nat.le_refl _) _).alloc (by simp) _).alloc (by simp; omega) _).trans (hb1.mono (by simp; omega)))
      refine bodyPost_ret (v := .agg #[.int .i64 ku, .int .i64 n2, .slice A1 (shSL d ku 0 0 us).length c1]) (by simp [results, Tryz.results82, go_sem, d0, d1, d2]) rfl ⟨A1, c1, by simp, hl1, ?_, ?_⟩
      · exact (((hf1.setCell (by simp) _).setCell (by simp) _).setCell (by simp) _).mono (by omega)
      · exact ((hb1.setCell (by simp; omega) _).setCell (by simp; omega) _).setCell (by simp; omega) _
    · rw [if_neg (by rintro ⟨-, h⟩; exact hnx h)] at hfl
      have q0 : (n == x) = false := by simpa using hnx
      by_cases hxn : x < n
      · rw [if_pos ⟨rfl, hxn⟩] at hfl
        injection hfl with h1 h2 h3
        subst h1 h2 h3
        have q2 : decide (x < n) = true := by simpa using hxn
        clear hnx
        go_enter Tryz.func82, Tryz.ntmps82
        go_wp2_with fail
        go_loopw [10] (fun i wr => i = .int .i64 0 ∧ Blk wr (w.heap.size + 1 + 1 + 1) #[.int .i64 1, .int .i64 (n - 1), .slice none 0 0] ∧ Blk wr (w.heap.size + 1 + 1) #[.int .i64 0, .int .i64 0, .slice none 0 0] ∧ Blk wr w.heap.size #[.int .i64 1, .int .i64 n, .slice A 0 c] ∧ Below w.heap.size w wr)
          (fun _ _ => 0)
        case atStart => exact ⟨rfl, Blk.new_ _ _ _ (by simp), (Blk.new_ _ _ _ (by simp)).alloc _, (((Blk.new_ _ _ _ rfl).alloc _).alloc _).alloc _, ((((Below.refl _ _).alloc (by simp) _).alloc (by simp) _).alloc (by simp; omega) _).alloc (by simp; omega) _⟩
        case round =>
          obtain ⟨rfl, hB3, hB2, hB1, hb⟩ := hrel
          have b2 := hB1.at_ (i := 2) rfl
          obtain ⟨c0, c1, c2⟩ := hB3.three
          obtain ⟨d0, d1, d2⟩ := hB2.three
          have e0 := hB2.frozen 0
          have e1 := hB2.frozen 1
          have e2 := hB2.frozen 2
          go_wp2_with fail
          refine bodyPost_ret (v := .agg #[.int .i64 1, .int .i64 (n - 1), .slice none 0 0]) (by simp [results, Tryz.results82, go_sem, d0, d1, d2]) rfl ⟨none, 0, by simp [sbSL], by simp [sbSL], ?_, ?_⟩
          · simpa [sbSL] using (Fresh.nil : Fresh w.heap.size _ none [])
          · exact ((hb.setCell (by simp; omega) _).setCell (by simp; omega) _).setCell (by simp; omega) _
      · rw [if_neg (by rintro ⟨-, h⟩; exact hxn h)] at hfl
        injection hfl with h1 h2 h3
        subst h1 h2 h3
        have q2 : decide (x < n) = false := by simpa using hxn
        clear hnx
        go_enter Tryz.func82, Tryz.ntmps82
        go_wp2_with fail
        go_loopw [10] (fun i wr => i = .int .i64 0 ∧ Blk wr (w.heap.size + 1 + 1 + 1) #[.int .i64 1, .int .i64 (n), .slice none 0 0] ∧ Blk wr (w.heap.size + 1 + 1) #[.int .i64 0, .int .i64 0, .slice none 0 0] ∧ Blk wr w.heap.size #[.int .i64 1, .int .i64 n, .slice A 0 c] ∧ Below w.heap.size w wr)
          (fun _ _ => 0)
        case atStart => exact ⟨rfl, Blk.new_ _ _ _ (by simp), (Blk.new_ _ _ _ (by simp)).alloc _, (((Blk.new_ _ _ _ rfl).alloc _).alloc _).alloc _, ((((Below.refl _ _).alloc (by simp) _).alloc (by simp) _).alloc (by simp; omega) _).alloc (by simp; omega) _⟩
        case round =>
          obtain ⟨rfl, hB3, hB2, hB1, hb⟩ := hrel
          have b2 := hB1.at_ (i := 2) rfl
          obtain ⟨c0, c1, c2⟩ := hB3.three
          obtain ⟨d0, d1, d2⟩ := hB2.three
          have e0 := hB2.frozen 0
          have e1 := hB2.frozen 1
          have e2 := hB2.frozen 2
          go_wp2_with fail
          refine bodyPost_ret (v := .agg #[.int .i64 1, .int .i64 (n), .slice none 0 0]) (by simp [results, Tryz.results82, go_sem, d0, d1, d2]) rfl ⟨none, 0, by simp [sbSL], by simp [sbSL], ?_, ?_⟩
          · simpa [sbSL] using (Fresh.nil : Fresh w.heap.size _ none [])
          · exact ((hb.setCell (by simp; omega) _).setCell (by simp; omega) _).setCell (by simp; omega) _
  · have hn : ¬ (k = 1 ∧ n = x) := by rintro ⟨h, -⟩; exact hk h
    rw [if_neg hn, if_neg (by rintro ⟨h, -⟩; exact hk h)] at hfl
    injection hfl with h1 h2 h3
    subst h1 h2 h3
    have hkids' := hide hkids
    have hm2' := hide hm2
    clear hkids ha hsh hm2
    have q1 : (k == 1) = false := by simpa using hk
    clear hn hk
    go_enter Tryz.func82, Tryz.ntmps82
    go_wp2_with fail
    go_loopw [10, 11] (fun i _ wr => ∃ (j : Nat) (v : Value), j ≤ ks.length ∧ i = .int .i64 j ∧ Part (w.heap.size + 4) wr v (sbSL (.mk ku nu us) k x d 0 (ks.take j)) ∧ Blk wr (w.heap.size + 1 + 1 + 1) #[.int .i64 k, .int .i64 (n), v] ∧ Blk wr (w.heap.size + 1 + 1) #[.int .i64 0, .int .i64 0, .slice none 0 0] ∧ Blk wr (w.heap.size + 1) #[.int .i64 ku, .int .i64 nu, .slice U us.length cu] ∧ Blk wr w.heap.size #[.int .i64 k, .int .i64 n, .slice A ks.length c] ∧ Below w.heap.size w wr)
      (fun i _ _ => ks.length - (intOf i).toNat)
    case atStart => exact ⟨0, _, Nat.zero_le _, rfl, Part.nil, Blk.new_ _ _ _ (by simp), (Blk.new_ _ _ _ (by simp)).alloc _, ((Blk.new_ _ _ _ (by simp)).alloc _).alloc _, (((Blk.new_ _ _ _ rfl).alloc _).alloc _).alloc _, ((((Below.refl _ _).alloc (by simp) _).alloc (by simp) _).alloc (by simp; omega) _).alloc (by simp; omega) _⟩
    case round =>
      obtain ⟨j, v, hj, rfl, hp, hB3, hB2, hBu, hB1, hb⟩ := hrel
      have c12 := hB1.at_ (i := 2) rfl
      have c10 := hB1.at_ (i := 0) rfl
      by_cases hlt : j < ks.length
      · obtain ⟨b, off, k', n', ks', A', c', rfl, hkj, hc1, hc2, hc3, hl', hr'⟩ := (hr.below hb).at_ hlt
        have hsz := sizes_le (List.getElem_mem hlt)
        have hsk := hkids'.out _ (List.getElem_mem hlt)
        rw [hkj] at hsz hsk
        simp only [Tm.size] at hsz
        have H3 := hide hkj
        have H4 := hide hsk
        clear hkj hsk
        have hz := hB3.lt
        obtain ⟨k2, n2, ks2, hct⟩ : ∃ k2 n2 ks2, sbS (.mk ku nu us) (x + under k j) (d + under k j) (.mk k' n' ks') = .mk k2 n2 ks2 := tm_eta _
        have hct' := hide hct
        clear hct
        have hun := under_le k j
        go_wp2_with (go_at_call 105; refine (sUnder_any _ _ _).mono ?_; rintro e w9 ⟨rfl, rfl⟩)
        have x2 := hB3.rule (i := 2) rfl
        have a0 := hBu.rule (i := 0) rfl
        have a1 := hBu.rule (i := 1) rfl
        have a2 := hBu.rule (i := 2) rfl
        have b2 := hB1.rule (i := 2) rfl
        have y0 := rule_of hc1
        have y1 := rule_of hc2
        have y2 := rule_of hc3
        refine wp_region_firstY (fun w' => Below wr.heap.size wr w') [0, 1, 2, 3, 4, 5, 6, 7, 8, 9, 10, 11, 12, 13] [14, 15] [16, 17, 18] [_, _, _, _, _, _, _, _, _, _, _, _, _, _] [_, _] [_, _, _] (by kernel_rfl) (by kernel_rfl) rfl rfl rfl (fun _ _ d _ _ h => by cases d <;> exact h) (Below.refl _ _).drew ?_
        repeat (first | ((refine takeY_skip (a' := ?_) ?_ ?_ ?_); (rotate_left); (· (simp [Region.wanted, yielded]; done)); (· (simp only [List.getElem_toArray, List.getElem_cons_zero, List.getElem_cons_succ, Act.put, List.setIfInBounds_toArray, List.set_cons_zero, List.set_cons_succ]; exact rfl))) | ((refine takeY_step (v := ?_) (a' := ?_) ?_ ?_ ?_ ?_); (rotate_left 2); (· (simp [Region.wanted, yielded]; done)); (· (intro w' hS'; go_simp; try (with_reducible rfl))); (· (simp only [List.getElem_toArray, List.getElem_cons_zero, List.getElem_cons_succ, Act.put, List.setIfInBounds_toArray, List.set_cons_zero, List.set_cons_succ]; exact rfl))))
        refine takeY_nil (then_cons ?_)
        go_wp2_with (go_at_call 82; refine (ih k' n' ks' A' c' U cu (x + under k j) (d + under k j) q _ (by omega) (by omega) H4.out (by omega) (by omega) (by omega) (by omega) hr'.drew (hru.below hb).drew k2 n2 ks2 hct'.out).mono ?_; rintro e w1 ⟨A1, c1, rfl, hl1, hf1, hb1⟩)
        have hx1 : Below wr.heap.size wr w1 := (Below.refl _ _).drew.trans hb1
        refine mid_intro hx1 (then_cons ?_)
        go_wp2_with fail
        refine mid_intro (hx1.alloc hx1.size _) (then_nil ?_)
        refine wpList_append_built (B := w.heap.size + 4) (m := j) hp.drew hb1 (by simp; omega) hf1 hl1 (by rw [sbSL_length]; simp; omega) (by omega) rfl (.tmp 54) (.tmp 68) rfl rfl rfl ?_
        intro A2 c2 w2 hp2 hb2 hg2
        have q3 : Blk w2 (w.heap.size + 1 + 1 + 1) #[.int .i64 k, .int .i64 (n), v] := (hB3.below hx1 (by omega)).below hb2 (by omega)
        have q2 : Blk w2 (w.heap.size + 1 + 1) #[.int .i64 0, .int .i64 0, .slice none 0 0] := (hB2.below hx1 (by omega)).below hb2 (by omega)
        have qu : Blk w2 (w.heap.size + 1) #[.int .i64 ku, .int .i64 nu, .slice U us.length cu] := (hBu.below hx1 (by omega)).below hb2 (by omega)
        have q1' : Blk w2 w.heap.size #[.int .i64 k, .int .i64 n, .slice (some ⟨b, off, none⟩) ks.length c] := (hB1.below hx1 (by omega)).below hb2 (by omega)
        have c3 : w2.cell? ⟨w.heap.size + 1 + 1 + 1, 2, none⟩ = some v := q3.at_ rfl
        have z3 := q3.frozen 2
        have hbf : Below w.heap.size w w2 := (hb.trans (hx1.mono (by omega))).trans (hb2.mono (by omega))
        clear x2 y0 y1 y2 b2 a0 a1 a2
        go_wp2_with fail
        go_roundw
        case rel => exact ⟨j + 1, _, by omega, by go_num, by rw [sbSL_take _ k x d hlt, H3.out, hct'.out]; exact hp2.setCell (by simp) _, q3.set_ 2 _, q2.far (by simp) _, qu.far (by simp) _, q1'.far (by simp; omega) _, hbf.setCell (by simp; omega) _⟩
        case measure => simp [intOf]; omega
      · have hjl : j = ks.length := by omega
        subst hjl
        rw [List.take_length] at hp
        obtain ⟨Ar, cr, rfl, hfr⟩ := hp.fresh
        obtain ⟨c0, c1, c2⟩ := hB3.three
        obtain ⟨d0, d1, d2⟩ := hB2.three
        have e0 := hB2.frozen 0
        have e1 := hB2.frozen 1
        have e2 := hB2.frozen 2
        go_wp2_with fail
        refine bodyPost_ret (v := .agg #[.int .i64 k, .int .i64 (n), .slice Ar (sbSL (.mk ku nu us) k x d 0 ks).length cr]) (by simp [results, Tryz.results82, go_sem, d0, d1, d2]) rfl ⟨Ar, cr, rfl, by rw [sbSL_length]; omega, ?_, ?_⟩
        · exact (((hfr.setCell (by simp) _).setCell (by simp) _).setCell (by simp) _).mono (by omega)
        · exact ((hb.setCell (by simp; omega) _).setCell (by simp; omega) _).setCell (by simp; omega) _
end Go.Proofs.YthgmofdfecioaaaGreatDoor

namespace Go.Proofs.YthgmofdfecioaaaGreatDoor
open Go.RowKit
set_option linter.unusedSimpArgs false
set_option linter.unusedVariables false

/-- the term of a number -/
def numT : Nat → Tm | 0 => .mk 7 0 [] | n + 1 => .mk 8 0 [numT n]
theorem numT_size (n : Nat) : (numT n).size = n + 1 := by
  induction n with
  | zero => rfl
  | succ n ih => simp only [numT, Tm.size, sizes, ih]
theorem numT_n (n : Nat) : (numT n).n = 0 := by cases n <;> rfl
/-- a row of new terms is a term's operands -/
theorem row_fresh {B g : Nat} {w : World} {us : List Tm} {xs : List Value} {f : List Nat} (h : OwX w us xs f) (hg : Blk w g xs.toArray) (hn : f.Nodup) (hf : ∀ b, b ∈ f → B ≤ b ∧ b ≠ g) (hB : B ≤ g) (hu : us ≠ []) : Fresh B w (some ⟨g, 0, none⟩) us := by
  obtain ⟨t, ht⟩ := hg
  have hl := h.length
  refine ⟨g :: f, .inr ⟨g, xs.toArray, t, f, hu, rfl, ht, rfl, ?_⟩, List.nodup_cons.2 ⟨fun hm => (hf g hm).2 rfl, hn⟩, fun b hb => ?_⟩
  · rw [show xs.toArray.toList = xs from rfl, List.take_of_length_le (by omega)]
    exact h
  · rcases List.mem_cons.1 hb with rfl | hb
    · exact hB
    · exact (hf b hb).1
set_option maxRecDepth 100000 in
theorem inode_any (k : Int) (v : Value) (hv : ∃ A l c, v = .slice A l c) (w : World) : Calls Tryz.prog 26 #[.int .i64 k, v] w fun e w' => e = .returned (.agg #[.int .i64 k, .int .i64 0, v]) ∧ Below w.heap.size w w' := by
  obtain ⟨A, l, c, rfl⟩ := hv
  go_enter Tryz.func26, Tryz.ntmps26
  go_wp2
  refine bodyPost_ret (v := .agg #[.int .i64 k, .int .i64 0, .slice A l c]) (by simp [results, Tryz.results26, go_sem]) rfl ⟨rfl, ?_⟩
  exact (Below.refl _ _).alloc (Nat.le_refl _) _
theorem isNumber_any (n : Int) (w : World) : Calls Tryz.prog 24 #[.int .i64 n] w fun e w' => e = .returned (.bool (decide (0 ≤ n) && decide (n ≤ 20))) ∧ w = w' := by
  go_enter Tryz.func24, Tryz.ntmps24
  go_wp2_with (go_at_call 36; refine (within_any _ _ _ _).mono ?_; rintro e w' ⟨rfl, rfl⟩)
  go_ret
  exact ⟨rfl, rfl⟩
set_option maxHeartbeats 4000000 in
set_option maxRecDepth 100000 in
theorem inumeral_any (m : Nat) (hm : m ≤ 1000) (w : World) : Calls Tryz.prog 27 #[.int .i64 m] w (GotT w (numT m).k 0 (numT m).ks) := by
  go_enter Tryz.func27, Tryz.ntmps27
  go_wp2_with (go_at_call 26; refine (inode_any 7 _ ⟨_, _, _, rfl⟩ _).mono ?_; rintro e w1 ⟨rfl, hb1⟩; have hZ := (Blk.new_ w 27 #[.int .i64 0, .int .i64 0, .slice none 0 0] rfl).keep hb1; have g1 : Below w.heap.size w w1 := ((Below.refl _ _).alloc (Nat.le_refl _) _).trans (hb1.mono (by simp)); have s1 := hZ.lt)
  go_loopw [0] (fun i wr => ∃ (j : Nat) (A : Option Addr) (c : Nat), j ≤ m ∧ i = .int .i64 ((m - j : Nat) : Int) ∧ Blk wr w1.heap.size #[.int .i64 (numT j).k, .int .i64 0, .slice A (numT j).ks.length c] ∧ (numT j).ks.length ≤ 1 ∧ Fresh (w1.heap.size + 1) wr A (numT j).ks ∧ Blk wr w.heap.size #[.int .i64 0, .int .i64 0, .slice none 0 0] ∧ Below w.heap.size w wr) (fun i _ => (intOf i).toNat)
  case atStart => exact ⟨0, none, 0, Nat.zero_le _, rfl, Blk.new_ _ 27 _ rfl, by simp [numT, Tm.ks], Fresh.nil, hZ.alloc _, g1.alloc (by omega) _⟩
  case round =>
    obtain ⟨j, A, c, hj, rfl, hT, hl, hf, hZr, hb⟩ := hrel
    obtain ⟨x0, x1, x2⟩ := hT.three
    have f0 := hT.frozen 0
    have f1 := hT.frozen 1
    have f2 := hT.frozen 2
    have lt := hT.lt
    by_cases hlt : j < m
    · have hq : decide ((0 : Int) < ((m - j : Nat) : Int)) = true := decide_eq_true (by omega)
      have hq2 : (0 : Int) < ((m - j : Nat) : Int) := by omega
      have he : ∃ kj ksj, numT j = .mk kj 0 ksj := by cases j <;> exact ⟨_, _, rfl⟩
      obtain ⟨kj, ksj, he⟩ := he
      have hnext : (numT (j + 1)).k = 8 ∧ (numT (j + 1)).ks = [.mk kj 0 ksj] := by rw [← he]; exact ⟨rfl, rfl⟩
      rw [he] at x0 x2 hT hl hf
      simp only [Tm.k, Tm.ks] at x0 x2 hT hl hf
      have he' := hide he
      obtain ⟨fp, hO, hnd, hge⟩ := hf
      have hOl := hO.lt
      clear he hnext
      have lz := hZr.lt
      go_wp2_with (go_at_call 26; refine (inode_any 8 _ ⟨_, _, _, rfl⟩ _).mono ?_; rintro e w2 ⟨rfl, hb2⟩; have hN := (Blk.new_ wr 27 #[.int .i64 kj, .int .i64 0, .slice A ksj.length c] rfl).keep hb2; replace hT := (hT.alloc (.cells #[.int .i64 kj, .int .i64 0, .slice A ksj.length c] 27)).keep hb2; have hO2 : Ow w2 A ksj fp := hO.frame (fun b hb => (hb2.block b (by have := hOl b hb; simp; omega)).trans (Below.heap_alloc wr _ b (hOl b hb))); replace hZr := (hZr.alloc (.cells #[.int .i64 kj, .int .i64 0, .slice A ksj.length c] 27)).keep hb2; clear x0 x1 x2 f0 f1 f2; have x0 := hT.three.1; have x1 := hT.three.2.1; have x2 := hT.three.2.2; have f0 := hT.frozen 0; have f1 := hT.frozen 1; have f2 := hT.frozen 2; have s2 : wr.heap.size + 1 ≤ w2.heap.size := (by have := hb2.size; simpa using this); have g2 : Below w.heap.size w w2 := (hb.alloc hb.size _).trans (hb2.mono (by have := hb.size; simp; omega)))
      have hfr : Fresh (w1.heap.size + 1) w2 (some ⟨wr.heap.size, 0, none⟩) [.mk kj 0 ksj] := row_fresh (OwX.one (OwT.iff.2 ⟨A, c, rfl, by omega, hO2⟩)) hN hnd (fun b hb => ⟨hge b hb, by have := hOl b hb; omega⟩) (by omega) (by simp)
      go_roundw
      case rel =>
        refine ⟨j + 1, some ⟨wr.heap.size, 0, none⟩, 1, by omega, by rw [show ((m - (j + 1) : Nat) : Int) = ((m - j : Nat) : Int) - 1 by omega], ((hT.set_ 0 _).set_ 1 _).set_ 2 _, by show 1 ≤ 1; omega, ?_, ((hZr.far (by simp; omega) _).far (by simp; omega) _).far (by simp; omega) _, ((g2.setCell (by simp; omega) _).setCell (by simp; omega) _).setCell (by simp; omega) _⟩
        show Fresh _ _ _ [numT j]
        rw [he'.out]
        exact ((hfr.setCell (by simp) _).setCell (by simp) _).setCell (by simp) _
      case measure => simp [intOf]; omega
    · obtain rfl : j = m := by omega
      have hq : decide ((0 : Int) < ((j - j : Nat) : Int)) = false := decide_eq_false (by omega)
      have hq2 : ¬ (0 : Int) < ((j - j : Nat) : Int) := by omega
      obtain ⟨d0, d1, d2⟩ := hZr.three
      have e0 := hZr.frozen 0
      have e1 := hZr.frozen 1
      have e2 := hZr.frozen 2
      have lz := hZr.lt
      go_wp2_with fail
      refine bodyPost_ret (v := .agg #[.int .i64 (numT j).k, .int .i64 0, .slice A (numT j).ks.length c]) (by simp [results, Tryz.results27, go_sem, d0, d1, d2]) rfl ⟨A, c, rfl, by omega, ?_, ((hb.setCell (by simp) _).setCell (by simp) _).setCell (by simp) _⟩
      exact (((hf.setCell (by simp; omega) _).setCell (by simp; omega) _).setCell (by simp; omega) _).mono (by omega)
set_option maxHeartbeats 4000000 in
set_option maxRecDepth 100000 in
theorem snumeral_any (m : Nat) (hm : m ≤ 1000) (w : World) : Calls Tryz.prog 54 #[.int .i64 m] w (GotT w (numT m).k 0 (numT m).ks) := by
  go_enter Tryz.func54, Tryz.ntmps54
  go_wp2_with (go_at_call 78; refine (sLeaf_any 7 0 _).mono ?_; rintro e w1 ⟨rfl, hb1⟩; have hZ := (Blk.new_ w 27 #[.int .i64 0, .int .i64 0, .slice none 0 0] rfl).keep hb1; have g1 : Below w.heap.size w w1 := ((Below.refl _ _).alloc (Nat.le_refl _) _).trans (hb1.mono (by simp)); have s1 := hZ.lt)
  go_loopw [4] (fun i wr => ∃ (j : Nat) (A : Option Addr) (c : Nat), j ≤ m ∧ i = .int .i64 j ∧ Blk wr w1.heap.size #[.int .i64 (numT j).k, .int .i64 0, .slice A (numT j).ks.length c] ∧ (numT j).ks.length ≤ 1 ∧ Fresh (w1.heap.size + 1) wr A (numT j).ks ∧ Blk wr w.heap.size #[.int .i64 0, .int .i64 0, .slice none 0 0] ∧ Below w.heap.size w wr) (fun i _ => m - (intOf i).toNat)
  case atStart => exact ⟨0, none, 0, Nat.zero_le _, rfl, Blk.new_ _ 27 _ rfl, by simp [numT, Tm.ks], Fresh.nil, hZ.alloc _, g1.alloc (by omega) _⟩
  case round =>
    obtain ⟨j, A, c, hj, rfl, hT, hl, hf, hZr, hb⟩ := hrel
    obtain ⟨x0, x1, x2⟩ := hT.three
    have f0 := hT.frozen 0
    have f1 := hT.frozen 1
    have f2 := hT.frozen 2
    have lt := hT.lt
    by_cases hlt : j < m
    · have he : ∃ kj ksj, numT j = .mk kj 0 ksj := by cases j <;> exact ⟨_, _, rfl⟩
      obtain ⟨kj, ksj, he⟩ := he
      rw [he] at x0 x2 hT hl hf
      simp only [Tm.k, Tm.ks] at x0 x2 hT hl hf
      have he' := hide he
      obtain ⟨fp, hO, hnd, hge⟩ := hf
      clear he
      have lz := hZr.lt
      go_wp2_with (go_at_call 32; refine (l1Node_any (B := w1.heap.size + 1) (us := [.mk kj 0 ksj]) 8 (by simp; omega) (OwX.one (OwT.iff.2 ⟨A, c, rfl, by omega, hO.frame (fun b hb => Below.heap_alloc wr _ b (hO.lt b hb))⟩)) hnd hge (by simp) _ 1 (Blk.new_ _ 27 _ rfl)).mono ?_; rintro e w2 ⟨A2, c2, rfl, hf2, hb2⟩; replace hT := (hT.alloc (.cells #[.int .i64 kj, .int .i64 0, .slice A ksj.length c] 27)).keep hb2; replace hZr := (hZr.alloc (.cells #[.int .i64 kj, .int .i64 0, .slice A ksj.length c] 27)).keep hb2; clear x0 x1 x2 f0 f1 f2; have x0 := hT.three.1; have x1 := hT.three.2.1; have x2 := hT.three.2.2; have f0 := hT.frozen 0; have f1 := hT.frozen 1; have f2 := hT.frozen 2; have s2 : wr.heap.size + 1 ≤ w2.heap.size := (by have := hb2.size; simpa using this); have g2 : Below w.heap.size w w2 := (hb.alloc hb.size _).trans (hb2.mono (by have := hb.size; simp; omega)))
      go_roundw
      case rel =>
        refine ⟨j + 1, A2, c2, by omega, by go_num, ((hT.set_ 0 _).set_ 1 _).set_ 2 _, by show 1 ≤ 1; omega, ?_, ((hZr.far (by simp; omega) _).far (by simp; omega) _).far (by simp; omega) _, ((g2.setCell (by simp; omega) _).setCell (by simp; omega) _).setCell (by simp; omega) _⟩
        show Fresh _ _ _ [numT j]
        rw [he'.out]
        exact ((hf2.setCell (by simp) _).setCell (by simp) _).setCell (by simp) _
      case measure => simp [intOf]; omega
    · obtain rfl : j = m := by omega
      obtain ⟨d0, d1, d2⟩ := hZr.three
      have e0 := hZr.frozen 0
      have e1 := hZr.frozen 1
      have e2 := hZr.frozen 2
      have lz := hZr.lt
      go_wp2_with fail
      refine bodyPost_ret (v := .agg #[.int .i64 (numT j).k, .int .i64 0, .slice A (numT j).ks.length c]) (by simp [results, Tryz.results54, go_sem, d0, d1, d2]) rfl ⟨A, c, rfl, by omega, ?_, ((hb.setCell (by simp) _).setCell (by simp) _).setCell (by simp) _⟩
      exact (((hf.setCell (by simp; omega) _).setCell (by simp; omega) _).setCell (by simp; omega) _).mono (by omega)
/-- what Numeral answers -/
def numO (n : Int) : Option Tm := if 0 ≤ n ∧ n ≤ 20 then some (numT n.toNat) else none
theorem tm_parts (t : Tm) : t = .mk t.k t.n t.ks := by cases t; rfl
set_option maxHeartbeats 2000000 in
set_option maxRecDepth 100000 in
theorem sNumeral_any (n : Int) (w : World) : Calls Tryz.prog 30 #[.int .i64 n] w (GotP w (numO n)) := by
  by_cases h : 0 ≤ n ∧ n ≤ 20
  · obtain ⟨m, rfl⟩ := Int.eq_ofNat_of_zero_le h.1
    have d1 : decide ((m : Int) < 0) = false := decide_eq_false (by omega)
    have d2 : decide ((20 : Int) < (m : Int)) = false := decide_eq_false (by omega)
    have hm : m ≤ 1000 := by omega
    have ho : numO (m : Int) = some (numT m) := by rw [numO, if_pos h, Int.toNat_natCast]
    rw [ho]
    clear h ho
    go_enter Tryz.func30, Tryz.ntmps30
    go_wp2_with (go_at_call 54; refine (snumeral_any m hm _).mono ?_; rintro e w1 ⟨A, c, rfl, hl, hf, hb1⟩; have hZ := (Blk.new_ w 27 #[.int .i64 0, .int .i64 0, .slice none 0 0] rfl).keep hb1; obtain ⟨d0, d1, d2⟩ := hZ.three; have e0 := hZ.frozen 0; have e1 := hZ.frozen 1; have e2 := hZ.frozen 2; have g1 : Below w.heap.size w w1 := ((Below.refl _ _).alloc (Nat.le_refl _) _).trans (hb1.mono (by simp)))
    refine bodyPost_ret (v := .tuple #[.agg #[.int .i64 (numT m).k, .int .i64 0, .slice A (numT m).ks.length c], .bool true]) (by simp [results, Tryz.results30, go_sem, d0, d1, d2]) rfl ⟨(numT m).k, 0, (numT m).ks, A, c, ?_, rfl, hl, ?_, ((g1.setCell (by simp) _).setCell (by simp) _).setCell (by simp) _⟩
    · have := tm_parts (numT m); rw [numT_n] at this; exact this
    · exact (((hf.setCell (by simp) _).setCell (by simp) _).setCell (by simp) _).mono (by simp)
  · have ho : numO n = none := by rw [numO, if_neg h]
    rw [ho]
    by_cases h1 : n < 0
    · have d1 : decide (n < 0) = true := decide_eq_true h1
      clear h ho
      go_enter Tryz.func30, Tryz.ntmps30
      go_wp2
      refine bodyPost_ret (v := .tuple #[.agg #[.int .i64 0, .int .i64 0, .slice none 0 0], .bool false]) (by simp [results, Tryz.results30, go_sem]) rfl ⟨0, 0, [], none, 0, rfl, rfl, by simp, Fresh.nil, ?_⟩
      exact (Below.refl _ _).alloc (Nat.le_refl _) _
    · have d1 : decide (n < 0) = false := decide_eq_false h1
      have d2 : decide (20 < n) = true := decide_eq_true (by omega)
      clear h ho
      go_enter Tryz.func30, Tryz.ntmps30
      go_wp2
      refine bodyPost_ret (v := .tuple #[.agg #[.int .i64 0, .int .i64 0, .slice none 0 0], .bool false]) (by simp [results, Tryz.results30, go_sem]) rfl ⟨0, 0, [], none, 0, rfl, rfl, by simp, Fresh.nil, ?_⟩
      exact (Below.refl _ _).alloc (Nat.le_refl _) _

/-- what SubstTerm of the reference answers at the innermost variable, both terms valid -/
def instS (u t : Tm) : Option Tm := if validT (sbS u 0 0 t) = true then some (sbS u 0 0 t) else none
theorem index_any (w : World) : Calls Tryz.prog 81 #[.int .i64 0] w fun e w' => e = .returned (.bool true) ∧ w = w' := by
  go_enter Tryz.func81, Tryz.ntmps81
  go_wp2
  go_ret
  exact ⟨rfl, rfl⟩
set_option maxHeartbeats 4000000 in
set_option maxRecDepth 100000 in
theorem sSubstTerm_any (k n : Int) (ks : List Tm) (A : Option Addr) (c : Nat) (ku nu : Int) (us : List Tm) (U : Option Addr) (cu : Nat) (w : World) (hv : validT (.mk k n ks) = true) (hu : validT (.mk ku nu us) = true) (hr : Rd w A 0 ks) (hru : Rd w U 0 us) :
    Calls Tryz.prog 56 #[.agg #[.int .i64 k, .int .i64 n, .slice A ks.length c], .int .i64 0, .agg #[.int .i64 ku, .int .i64 nu, .slice U us.length cu]] w (GotP w (instS (.mk ku nu us) (.mk k n ks))) := by
  have hM := validT_size' hv
  have hMu := validT_size' hu
  have hsu : shape 30 (.mk ku nu us) = true := by simp only [validT, Bool.and_eq_true] at hu; exact hu.1
  have hst : shape 30 (.mk k n ks) = true := by simp only [validT, Bool.and_eq_true] at hv; exact hv.1
  obtain ⟨k2, n2, ks2, hres⟩ : ∃ k2 n2 ks2, sbS (.mk ku nu us) 0 0 (.mk k n ks) = .mk k2 n2 ks2 := by cases h : sbS (.mk ku nu us) 0 0 (.mk k n ks); exact ⟨_, _, _, rfl⟩
  have hsz2 : sizes ks2 ≤ 1000000 := by
    have := sbS_size (.mk ku nu us) (m := 401) (by rw [Tm.size]; omega) (by omega) (.mk k n ks) 0 0
    rw [hres, Tm.size, Tm.size] at this
    have h2 : (sizes ks + 1) * 401 ≤ 401 * 401 := Nat.mul_le_mul (by omega) (Nat.le_refl _)
    omega
  have hsub := hide (fun A c U cu (w : World) (h1 : Rd w A 0 ks) (h2 : Rd w U 0 us) => sSubst_any ku nu us hsu (by omega) (sizes ks + 1) k n ks A c U cu 0 0 30 w (Nat.lt_succ_self _) (by omega) hst (by omega) (by omega) (by omega) (by omega) h1 h2 k2 n2 ks2 hres)
  have hv' := hide hv
  have hu' := hide hu
  have hi : instS (.mk ku nu us) (.mk k n ks) = if validT (.mk k2 n2 ks2) = true then some (.mk k2 n2 ks2) else none := by rw [instS, hres]
  rw [hi]
  clear hv hu hsu hst hres hi
  cases hv2 : validT (.mk k2 n2 ks2) with
  | true =>
    have hv2' := hide hv2
    clear hv2
    go_enter Tryz.func56, Tryz.ntmps56
    go_wp2_with (first
      | (go_at_call 55; have _t := hf3; refine (sTermValid_any k2 n2 ks2 A3 c3 _ (by omega) (hf3.rd.alloc _)).mono ?_; rw [hv2'.out]; rintro e w4 ⟨rfl, hb4⟩; replace hZ := (hZ.alloc (.cells #[.int .i64 k2, .int .i64 n2, .slice A3 ks2.length c3] 27)).keep hb4; have hX := (Blk.new_ w3 27 #[.int .i64 k2, .int .i64 n2, .slice A3 ks2.length c3] rfl).keep hb4; obtain ⟨x0, x1, x2⟩ := hX.three; obtain ⟨d0, d1, d2⟩ := hZ.three; have e0 := hZ.frozen 0; have e1 := hZ.frozen 1; have e2 := hZ.frozen 2; have lz := hZ.lt; have lx := hX.lt; have s4 : w3.heap.size + 1 ≤ w4.heap.size := (by have := hb4.size; simpa using this); have g4 := (g3.alloc g3.size _).trans (hb4.mono (by have := g3.size; simp; omega)))
      | (go_at_call 82; refine (hsub.out A c U cu _ hr2 hru2).mono ?_; rintro e w3 ⟨A3, c3, rfl, hl3, hf3, hb3⟩; replace hA := hA.keep hb3; replace hU := hU.keep hb3; replace hZ := hZ.keep hb3; clear a0 a1 a2 u0 u1 u2; obtain ⟨a0, a1, a2⟩ := hA.three; obtain ⟨u0, u1, u2⟩ := hU.three; have lA := hA.lt; have g3 := g2.trans (hb3.mono g2.size); have s23 := hb3.size)
      | (go_at_call 81; refine (index_any _).mono ?_; rintro e w9 ⟨rfl, rfl⟩)
      | (go_at_call 55; have _t := hb1; refine (sTermValid_any ku nu us U cu _ (by omega) hru1).mono ?_; rw [hu'.out]; rintro e w2 ⟨rfl, hb2⟩; replace hA := hA.keep hb2; replace hU := hU.keep hb2; replace hZ := hZ.keep hb2; clear a0 a1 a2 u0 u1 u2; obtain ⟨a0, a1, a2⟩ := hA.three; obtain ⟨u0, u1, u2⟩ := hU.three; have lA := hA.lt; have g2 := g1.trans (hb2.mono g1.size); have s22 := hb2.size; have hr2 := hr1.below hb2; have hru2 := hru1.below hb2)
      | (go_at_call 55; refine (sTermValid_any k n ks A c _ (by omega) (((hr.alloc _).alloc _).alloc _)).mono ?_; rw [hv'.out]; rintro e w1 ⟨rfl, hb1⟩; have hA := ((Blk.new_ w 27 #[.int .i64 k, .int .i64 n, .slice A ks.length c] rfl).alloc (.cells #[.int .i64 ku, .int .i64 nu, .slice U us.length cu] 27)).alloc (.cells #[.int .i64 0, .int .i64 0, .slice none 0 0] 27); replace hA := hA.keep hb1; have hU : Blk w1 (w.heap.size + 1) #[.int .i64 ku, .int .i64 nu, .slice U us.length cu] := ((Blk.new_ _ 27 _ (by simp)).alloc _).keep hb1; have hZ : Blk w1 (w.heap.size + 1 + 1) #[.int .i64 0, .int .i64 0, .slice none 0 0] := (Blk.new_ _ 27 _ (by simp)).keep hb1; obtain ⟨a0, a1, a2⟩ := hA.three; obtain ⟨u0, u1, u2⟩ := hU.three; have g1 : Below w.heap.size w w1 := (((Below.refl _ _).alloc (Nat.le_refl _) _).alloc (by simp) _).alloc (by simp; omega) _ |>.trans (hb1.mono (by simp; omega)); have lA := hA.lt; have s12 : w.heap.size + 1 + 1 + 1 ≤ w1.heap.size := (by have := hb1.size; simpa using this); have hr1 := (((hr.alloc _).alloc _).alloc _).below hb1; have hru1 := (((hru.alloc _).alloc _).alloc _).below hb1))
    refine bodyPost_ret (v := .tuple #[.agg #[.int .i64 k2, .int .i64 n2, .slice A3 ks2.length c3], .bool true]) (by simp [results, Tryz.results56, go_sem, d0, d1, d2]) rfl ⟨k2, n2, ks2, A3, c3, by simp, by simp, hl3, ?_, ((g4.setCell (by simp; omega) _).setCell (by simp; omega) _).setCell (by simp; omega) _⟩
    have hf4 := (hf3.alloc (.cells #[.int .i64 k2, .int .i64 n2, .slice A3 ks2.length c3] 27)).below hb4
    exact ((((hf4.setCell (a := ⟨w.heap.size + 1 + 1, 0, none⟩) (by simp; omega) _).setCell (by simp; omega) _).setCell (by simp; omega) _).mono (by omega))
  | false =>
    have hv2' := hide hv2
    clear hv2
    go_enter Tryz.func56, Tryz.ntmps56
    go_wp2_with (first
      | (go_at_call 55; have _t := hf3; refine (sTermValid_any k2 n2 ks2 A3 c3 _ (by omega) (hf3.rd.alloc _)).mono ?_; rw [hv2'.out]; rintro e w4 ⟨rfl, hb4⟩; replace hZ := (hZ.alloc (.cells #[.int .i64 k2, .int .i64 n2, .slice A3 ks2.length c3] 27)).keep hb4; have hX := (Blk.new_ w3 27 #[.int .i64 k2, .int .i64 n2, .slice A3 ks2.length c3] rfl).keep hb4; obtain ⟨x0, x1, x2⟩ := hX.three; obtain ⟨d0, d1, d2⟩ := hZ.three; have e0 := hZ.frozen 0; have e1 := hZ.frozen 1; have e2 := hZ.frozen 2; have lz := hZ.lt; have lx := hX.lt; have s4 : w3.heap.size + 1 ≤ w4.heap.size := (by have := hb4.size; simpa using this); have g4 := (g3.alloc g3.size _).trans (hb4.mono (by have := g3.size; simp; omega)))
      | (go_at_call 82; refine (hsub.out A c U cu _ hr2 hru2).mono ?_; rintro e w3 ⟨A3, c3, rfl, hl3, hf3, hb3⟩; replace hA := hA.keep hb3; replace hU := hU.keep hb3; replace hZ := hZ.keep hb3; clear a0 a1 a2 u0 u1 u2; obtain ⟨a0, a1, a2⟩ := hA.three; obtain ⟨u0, u1, u2⟩ := hU.three; have lA := hA.lt; have g3 := g2.trans (hb3.mono g2.size); have s23 := hb3.size)
      | (go_at_call 81; refine (index_any _).mono ?_; rintro e w9 ⟨rfl, rfl⟩)
      | (go_at_call 55; have _t := hb1; refine (sTermValid_any ku nu us U cu _ (by omega) hru1).mono ?_; rw [hu'.out]; rintro e w2 ⟨rfl, hb2⟩; replace hA := hA.keep hb2; replace hU := hU.keep hb2; replace hZ := hZ.keep hb2; clear a0 a1 a2 u0 u1 u2; obtain ⟨a0, a1, a2⟩ := hA.three; obtain ⟨u0, u1, u2⟩ := hU.three; have lA := hA.lt; have g2 := g1.trans (hb2.mono g1.size); have s22 := hb2.size; have hr2 := hr1.below hb2; have hru2 := hru1.below hb2)
      | (go_at_call 55; refine (sTermValid_any k n ks A c _ (by omega) (((hr.alloc _).alloc _).alloc _)).mono ?_; rw [hv'.out]; rintro e w1 ⟨rfl, hb1⟩; have hA := ((Blk.new_ w 27 #[.int .i64 k, .int .i64 n, .slice A ks.length c] rfl).alloc (.cells #[.int .i64 ku, .int .i64 nu, .slice U us.length cu] 27)).alloc (.cells #[.int .i64 0, .int .i64 0, .slice none 0 0] 27); replace hA := hA.keep hb1; have hU : Blk w1 (w.heap.size + 1) #[.int .i64 ku, .int .i64 nu, .slice U us.length cu] := ((Blk.new_ _ 27 _ (by simp)).alloc _).keep hb1; have hZ : Blk w1 (w.heap.size + 1 + 1) #[.int .i64 0, .int .i64 0, .slice none 0 0] := (Blk.new_ _ 27 _ (by simp)).keep hb1; obtain ⟨a0, a1, a2⟩ := hA.three; obtain ⟨u0, u1, u2⟩ := hU.three; have g1 : Below w.heap.size w w1 := (((Below.refl _ _).alloc (Nat.le_refl _) _).alloc (by simp) _).alloc (by simp; omega) _ |>.trans (hb1.mono (by simp; omega)); have lA := hA.lt; have s12 : w.heap.size + 1 + 1 + 1 ≤ w1.heap.size := (by have := hb1.size; simpa using this); have hr1 := (((hr.alloc _).alloc _).alloc _).below hb1; have hru1 := (((hru.alloc _).alloc _).alloc _).below hb1))
    refine bodyPost_ret (v := .tuple #[.agg #[.int .i64 0, .int .i64 0, .slice none 0 0], .bool false]) (by simp [results, Tryz.results56, go_sem, d0, d1, d2]) rfl ⟨0, 0, [], none, 0, by simp, by simp, by simp, Fresh.nil, ((g4.setCell (by simp; omega) _).setCell (by simp; omega) _).setCell (by simp; omega) _⟩
set_option maxHeartbeats 2000000 in
set_option maxRecDepth 100000 in
theorem sInst_any (k n : Int) (ks : List Tm) (A : Option Addr) (c : Nat) (ku nu : Int) (us : List Tm) (U : Option Addr) (cu : Nat) (w : World) (hv : validT (.mk k n ks) = true) (hu : validT (.mk ku nu us) = true) (hr : Rd w A 0 ks) (hru : Rd w U 0 us) :
    Calls Tryz.prog 33 #[.agg #[.int .i64 k, .int .i64 n, .slice A ks.length c], .agg #[.int .i64 ku, .int .i64 nu, .slice U us.length cu]] w (GotP w (instS (.mk ku nu us) (.mk k n ks))) := by
  have hs := hide (fun (w : World) (h1 : Rd w A 0 ks) (h2 : Rd w U 0 us) => sSubstTerm_any k n ks A c ku nu us U cu w hv hu h1 h2)
  obtain ⟨o, ho⟩ : ∃ o, instS (.mk ku nu us) (.mk k n ks) = o := ⟨_, rfl⟩
  rw [ho] at hs ⊢
  clear hv hu ho
  go_enter Tryz.func33, Tryz.ntmps33
  go_wp2_with (go_at_call 56; refine (hs.out _ (((hr.alloc _).alloc _).alloc _) (((hru.alloc _).alloc _).alloc _)).mono ?_; rintro e w3 ⟨k3, n3, ks3, A3, c3, hk, rfl, hl3, hf3, hb3⟩; have hk' := hide hk; clear hk; have hZ3 : Blk w3 (w.heap.size + 1 + 1) #[.int .i64 0, .int .i64 0, .slice none 0 0] := (Blk.new_ _ 27 _ (by simp)).keep hb3; obtain ⟨d0, d1, d2⟩ := hZ3.three; have e0 := hZ3.frozen 0; have e1 := hZ3.frozen 1; have e2 := hZ3.frozen 2; have g3 : Below w.heap.size w w3 := (((Below.refl _ _).alloc (Nat.le_refl _) _).alloc (by simp) _).alloc (by simp; omega) _ |>.trans (hb3.mono (by simp; omega)))
  refine bodyPost_ret (v := .tuple #[.agg #[.int .i64 k3, .int .i64 n3, .slice A3 ks3.length c3], .bool o.isSome]) (by simp [results, Tryz.results33, go_sem, d0, d1, d2]) rfl ⟨k3, n3, ks3, A3, c3, hk'.out, rfl, hl3, ?_, ((g3.setCell (by simp; omega) _).setCell (by simp; omega) _).setCell (by simp; omega) _⟩
  exact (((hf3.setCell (by simp) _).setCell (by simp) _).setCell (by simp) _).mono (by simp; omega)
end Go.Proofs.YthgmofdfecioaaaGreatDoor

namespace Go.Proofs.YthgmofdfecioaaaGreatDoor
open Go.RowKit
set_option linter.unusedSimpArgs false
set_option linter.unusedVariables false

mutual
/-- equal at every level -/
def tmEq : Tm → Tm → Bool
  | .mk k n ks, .mk k' n' ks' => k == k' && n == n' && tmsEq ks ks'
def tmsEq : List Tm → List Tm → Bool
  | [], [] => true
  | t :: ts, u :: us => tmEq t u && tmsEq ts us
  | _, _ => false
end
theorem tmEq_both : (∀ t u, tmEq t u = true ↔ t = u) ∧ (∀ ts us, tmsEq ts us = true ↔ ts = us) := by
  refine Tm.ind2 (fun k n ks ih u => ?_) (fun us => ?_) (fun t ts h1 h2 us => ?_)
  · obtain ⟨k', n', ks'⟩ := u
    simp only [tmEq, Bool.and_eq_true, beq_iff_eq, ih, Tm.mk.injEq, and_assoc]
  · cases us <;> simp [tmsEq]
  · cases us with
    | nil => simp [tmsEq]
    | cons u us => simp only [tmsEq, Bool.and_eq_true, h1, h2, List.cons.injEq]
theorem tmEq_iff {t u : Tm} : tmEq t u = true ↔ t = u := tmEq_both.1 t u
theorem tmsEq_iff {ts us : List Tm} : tmsEq ts us = true ↔ ts = us := tmEq_both.2 ts us
theorem tmEq_self (t : Tm) : tmEq t t = true := tmEq_iff.2 rfl
theorem tmsEq_self (ts : List Tm) : tmsEq ts ts = true := tmsEq_iff.2 rfl
theorem tmsEq_false {ts us : List Tm} (h : ts ≠ us) : tmsEq ts us = false := by
  cases e : tmsEq ts us with
  | false => rfl
  | true => exact absurd (tmsEq_iff.1 e) h
end Go.Proofs.YthgmofdfecioaaaGreatDoor

namespace Go.Proofs.YthgmofdfecioaaaGreatDoor
open Go.RowKit
set_option linter.unusedSimpArgs false
set_option linter.unusedVariables false

/-- nothing but the blocks of a list has turned -/
structure OnlyIn (fp : List Nat) (w w' : World) : Prop where
  os : w'.os = w.os
  tape : w'.tape = w.tape
  output : w'.output = w.output
  size : w.heap.size ≤ w'.heap.size
  block : ∀ b, b < w.heap.size → b ∉ fp → w'.heap[b]? = w.heap[b]?
theorem OnlyIn.refl (fp : List Nat) (w : World) : OnlyIn fp w w := ⟨rfl, rfl, rfl, Nat.le_refl _, fun _ _ _ => rfl⟩
theorem OnlyIn.trans {fp : List Nat} {a b c : World} (h : OnlyIn fp a b) (k : OnlyIn fp b c) : OnlyIn fp a c :=
  ⟨k.os.trans h.os, k.tape.trans h.tape, k.output.trans h.output, Nat.le_trans h.size k.size, fun i hi hn => (k.block i (Nat.lt_of_lt_of_le hi h.size) hn).trans (h.block i hi hn)⟩
theorem OnlyIn.mono {fp fq : List Nat} {w w' : World} (h : OnlyIn fp w w') (hs : ∀ b, b ∈ fp → b ∈ fq) : OnlyIn fq w w' := ⟨h.os, h.tape, h.output, h.size, fun b hb hn => h.block b hb fun hm => hn (hs b hm)⟩
theorem OnlyIn.setCell {fp : List Nat} {a w : World} (h : OnlyIn fp a w) {p : Addr} (hp : p.block ∈ fp) (u : Value) : OnlyIn fp a (w.setCell p u) :=
  ⟨h.os, h.tape, h.output, by simpa [World.setCell] using h.size, fun i hi hn => (Below.heap_setCell w p u i (fun e => hn (e ▸ hp))).trans (h.block i hi hn)⟩
theorem OnlyIn.below {fp : List Nat} {w w' : World} {B : Nat} (h : OnlyIn fp w w') (hB : B ≤ w.heap.size) (hf : ∀ b, b ∈ fp → B ≤ b) : Below B w w' :=
  ⟨h.os, h.tape, h.output, h.size, fun b hb => h.block b (by omega) fun hm => by have := hf b hm; omega⟩
theorem OnlyIn.allocd {fp : List Nat} {w w' : World} {o : Obj} (h : OnlyIn fp (w.alloc o) w') : OnlyIn fp w w' :=
  ⟨h.os, h.tape, h.output, Nat.le_trans (by simp) h.size, fun b hb hn => (h.block b (by simp; omega) hn).trans (Below.heap_alloc w o b hb)⟩

theorem OwX.split {w : World} {t : Tm} {us : List Tm} : ∀ {ts : List Tm} {xs : List Value} {fp : List Nat}, OwX w (ts ++ t :: us) xs fp →
    ∃ x0 x1 x2 f0 f1 f2, xs = x0 ++ (x1 ++ x2) ∧ fp = f0 ++ (f1 ++ f2) ∧ OwX w ts x0 f0 ∧ OwT w t x1 f1 ∧ OwX w us x2 f2
  | [], xs, fp, h => by
    obtain ⟨x1, x2, f1, f2, rfl, rfl, h1, h2⟩ := OwX.cons_iff.1 h
    exact ⟨[], x1, x2, [], f1, f2, rfl, rfl, OwX.nil, h1, h2⟩
  | s :: ts, xs, fp, h => by
    obtain ⟨y1, y2, e1, e2, rfl, rfl, k1, k2⟩ := OwX.cons_iff.1 h
    obtain ⟨x0, x1, x2, f0, f1, f2, rfl, rfl, h0, h1, h2⟩ := OwX.split k2
    exact ⟨y1 ++ x0, x1, x2, e1 ++ f0, f1, f2, by rw [List.append_assoc], by rw [List.append_assoc], OwX.cons_iff.2 ⟨y1, x0, e1, f0, rfl, rfl, k1, h0⟩, h1, h2⟩
theorem OwX.join {w : World} {t : Tm} {us ts : List Tm} {x0 x1 x2 : List Value} {f0 f1 f2 : List Nat} (h0 : OwX w ts x0 f0) (h1 : OwT w t x1 f1) (h2 : OwX w us x2 f2) : OwX w (ts ++ t :: us) (x0 ++ (x1 ++ x2)) (f0 ++ (f1 ++ f2)) :=
  h0.append (OwX.cons_iff.2 ⟨x1, x2, f1, f2, rfl, rfl, h1, h2⟩)

mutual
/-- marks, counted up -/
def markT : Int → Tm → Tm | m, .mk _ _ ks => .mk m (m + 1) (markL (m + 2) ks)
def markL : Int → List Tm → List Tm | _, [] => [] | m, t :: ts => markT m t :: markL (m + 2 * t.size) ts
end
theorem markL_length : ∀ (ts : List Tm) (m : Int), (markL m ts).length = ts.length
  | [], m => by simp [markL]
  | t :: ts, m => by rw [markL, List.length_cons, List.length_cons, markL_length ts]
theorem markL_append : ∀ (ts us : List Tm) (m : Int), markL m (ts ++ us) = markL m ts ++ markL (m + 2 * sizes ts) us
  | [], us, m => by simp [markL, sizes]
  | t :: ts, us, m => by
    rw [List.cons_append, markL, markL, markL_append ts us, List.cons_append, sizes]
    congr 3
    push_cast
    omega
theorem mark_sizes : (∀ t m, (markT m t).size = t.size) ∧ (∀ ts m, sizes (markL m ts) = sizes ts) := by
  refine Tm.ind2 (fun k n ks ih m => ?_) (fun m => by simp [markL]) (fun t ts h1 h2 m => ?_)
  · rw [markT, Tm.size, Tm.size, ih]
  · rw [markL, sizes, sizes, h1, h2]

theorem take3 {cur : Array Value} {n j : Nat} {x0 x1 x2 : List Value} (h : cur.toList.take n = x0 ++ (x1 ++ x2)) (h0 : x0.length = j) (i : Nat) (v : Value) (hi : x1[i]? = some v) : cur[j + i]? = some v := by
  have hlt : i < x1.length := (List.getElem?_eq_some_iff.1 hi).1
  have h2 : (cur.toList.take n)[j + i]? = some v := by
    rw [h, List.getElem?_append_right (by omega), List.getElem?_append_left (by omega), h0, Nat.add_sub_cancel_left]
    exact hi
  rw [List.getElem?_take] at h2
  split at h2
  · simpa using h2
  · cases h2
theorem set3 {cur : Array Value} {n j : Nat} {x0 x2 : List Value} {a b c a' b' : Value} (h : cur.toList.take n = x0 ++ ([a, b, c] ++ x2)) (h0 : x0.length = j) :
    ((cur.setIfInBounds j a').setIfInBounds (j + 1) b').toList.take n = x0 ++ ([a', b', c] ++ x2) := by
  rw [Array.toList_setIfInBounds, Array.toList_setIfInBounds, List.take_set, List.take_set, h]
  subst h0
  simp [List.set_append]

end Go.Proofs.YthgmofdfecioaaaGreatDoor

namespace Go.Proofs.YthgmofdfecioaaaGreatDoor
open Go.RowKit
set_option linter.unusedSimpArgs false
set_option linter.unusedVariables false

/-- a list in blocks of its own, which lie between two numbers -/
structure OwF (w : World) (A : Option Addr) (ks : List Tm) (fp : List Nat) (lo hi : Nat) : Prop where
  ow : Ow w A ks fp
  nodup : fp.Nodup
  lo : ∀ b, b ∈ fp → lo ≤ b
  hi : ∀ b, b ∈ fp → b < hi
theorem Fresh.owf {B : Nat} {w : World} {A : Option Addr} {ks : List Tm} (h : Fresh B w A ks) : ∃ fp, OwF w A ks fp B w.heap.size := by
  obtain ⟨fp, h1, h2, h3⟩ := h; exact ⟨fp, h1, h2, h3, h1.lt⟩
variable {w w' : World} {A : Option Addr} {ks : List Tm} {fp fq : List Nat} {lo hi : Nat}
theorem OwF.rd (h : OwF w A ks fp lo hi) : Rd w A 0 ks := h.ow.rd
theorem OwF.keep (h : OwF w A ks fp lo hi) (hb : Below w.heap.size w w') : OwF w' A ks fp lo hi := ⟨h.ow.frame fun b hm => hb.block b (h.ow.lt b hm), h.nodup, h.lo, h.hi⟩
theorem OwF.alloc (h : OwF w A ks fp lo hi) (o : Obj) : OwF (w.alloc o) A ks fp lo hi := ⟨h.ow.frame fun b hm => Below.heap_alloc w o b (h.ow.lt b hm), h.nodup, h.lo, h.hi⟩
theorem OwF.drew (h : OwF w A ks fp lo hi) : OwF w.drew A ks fp lo hi := ⟨h.ow.frame fun b hm => rfl, h.nodup, h.lo, h.hi⟩
theorem OwF.only (h : OwF w A ks fp lo hi) (ho : OnlyIn fq w w') (hd : ∀ b, b ∈ fp → b ∉ fq) : OwF w' A ks fp lo hi := ⟨h.ow.frame fun b hm => ho.block b (h.ow.lt b hm) (hd b hm), h.nodup, h.lo, h.hi⟩
theorem OwF.marked {m : Int} (h : OwF w A ks fp lo hi) (ho : Ow w' A (markL m ks) fp) : OwF w' A (markL m ks) fp lo hi := ⟨ho, h.nodup, h.lo, h.hi⟩
/-- blocks that end where others begin -/
theorem OwF.apart {A' : Option Addr} {ks' : List Tm} {lo' hi' : Nat} (h : OwF w A ks fp lo hi) (h' : OwF w' A' ks' fq lo' hi') (hh : hi ≤ lo') : ∀ b, b ∈ fp → b ∉ fq := fun b h1 h2 => by have := h.hi b h1; have := h'.lo b h2; omega
theorem OwF.apart' {A' : Option Addr} {ks' : List Tm} {lo' hi' : Nat} (h : OwF w A ks fp lo hi) (h' : OwF w' A' ks' fq lo' hi') (hh : hi' ≤ lo) : ∀ b, b ∈ fp → b ∉ fq := fun b h1 h2 => by have := h.lo b h1; have := h'.hi b h2; omega
theorem OwF.out (h : OwF w A ks fp lo hi) {g : Nat} (hg : g < lo ∨ hi ≤ g) : g ∉ fp := fun h1 => by have := h.lo g h1; have := h.hi g h1; omega
theorem Blk.only {g : Nat} {cs : Array Value} (h : Blk w g cs) (ho : OnlyIn fq w w') (hg : g ∉ fq) : Blk w' g cs := by have hl := h.lt; obtain ⟨t, h⟩ := h; exact ⟨t, (ho.block g hl hg).trans h⟩
theorem OwF.below (h : OwF w A ks fp lo hi) (ho : OnlyIn fp w w') (hlo : lo ≤ w.heap.size) : Below lo w w' := ho.below hlo h.lo

end Go.Proofs.YthgmofdfecioaaaGreatDoor

namespace Go.Proofs.YthgmofdfecioaaaGreatDoor
open Go.RowKit
set_option linter.unusedSimpArgs false
set_option linter.unusedVariables false

set_option maxRecDepth 100000

/-- a proof applied to a number; a statement at that number -/
structure UseOk (s p : Tm) (m : Nat) (pk pn : Int) (pks : List Tm) (kb nb : Int) (kbs : List Tm) (rk rn : Int) (rks : List Tm) : Prop where
  hs : s = .mk 3 0 [.mk 6 0 [], .mk kb nb kbs]
  hp : p = .mk pk pn pks
  hm : m ≤ 20
  hpv : validT (.mk pk pn pks) = true
  hbv : validT (.mk kb nb kbs) = true
  hnv : validT (numT m) = true
  hav : validT (.mk 5 0 [.mk pk pn pks, numT m]) = true
  hi : instS (numT m) (.mk kb nb kbs) = some (.mk rk rn rks)
  hj : substI 0 (numT m) (.mk kb nb kbs) = some (.mk rk rn rks)
  hr : validT (.mk rk rn rks) = true
def useB (s p : Tm) (m : Nat) : Bool := match s.ks with
  | [_, b] => validT p && validT b && validT (numT m) && validT (.mk 5 0 [p, numT m]) && validT (sbS (numT m) 0 0 b) && chgOk (sbOk 0 (numT m)) 0 b && tmEq (chg (sbF 0 (numT m)) 0 b) (sbS (numT m) 0 0 b)
  | _ => false
theorem useB_ok {s p b : Tm} {m : Nat} (hs : s = .mk 3 0 [.mk 6 0 [], b]) (hm : m ≤ 20) (h : useB s p m = true) : ∃ pk pn pks kb nb kbs rk rn rks, UseOk s p m pk pn pks kb nb kbs rk rn rks := by
  obtain ⟨pk, pn, pks⟩ := p
  obtain ⟨kb, nb, kbs⟩ := b
  subst hs
  simp only [useB, Tm.ks, Bool.and_eq_true] at h
  obtain ⟨⟨⟨⟨⟨⟨h1, h2⟩, h3⟩, h4⟩, h5⟩, h6⟩, h7⟩ := h
  obtain ⟨rk, rn, rks, hr⟩ : ∃ rk rn rks, sbS (numT m) 0 0 (.mk kb nb kbs) = .mk rk rn rks := by cases h : sbS (numT m) 0 0 (.mk kb nb kbs); exact ⟨_, _, _, rfl⟩
  have h8 := tmEq_iff.1 h7
  rw [hr] at h5 h8
  exact ⟨pk, pn, pks, kb, nb, kbs, rk, rn, rks, rfl, rfl, hm, h1, h2, h3, h4, by rw [instS, hr, if_pos h5], by rw [substI, if_pos h6, h8, if_pos h5], h5⟩
theorem use1 : ∀ m : Fin 21, useB thS1 thP1 m.val = true := by decide +kernel
theorem use2 : ∀ m : Fin 21, useB thS2 thP2 m.val = true := by decide +kernel
theorem use3 : ∀ m : Fin 21, useB thS3 thP3 m.val = true := by decide +kernel
theorem use5 : ∀ m : Fin 21, useB thS5 thP5 m.val = true := by decide +kernel
/-- when a theorem is not used -/
def UseNo (oS : Option Tm) (n : Int) : Prop := oS = none ∨ ¬ (0 ≤ n ∧ n ≤ 20) ∧ (∃ b, oS = some (.mk 3 0 [.mk 6 0 [], b])) ∨ ∃ n0 ks0 b, oS = some (.mk 3 0 [.mk 10 n0 ks0, b])
def UseAt (oS oP : Option Tm) (n : Int) (r : Option (Tm × Tm)) : Prop :=
  (∃ (s p : Tm) (m : Nat) (pk pn : Int) (pks : List Tm) (kb nb : Int) (kbs : List Tm) (rk rn : Int) (rks : List Tm), oS = some s ∧ oP = some p ∧ n = m ∧ UseOk s p m pk pn pks kb nb kbs rk rn rks ∧ r = some (.mk 5 0 [.mk pk pn pks, numT m], .mk rk rn rks)) ∨ (UseNo oS n ∧ r = none)
theorem useAt_of {s p b : Tm} {n : Int} (hs : s = .mk 3 0 [.mk 6 0 [], b]) (h : ∀ m : Fin 21, useB s p m.val = true) : ∃ r, UseAt (some s) (some p) n r := by
  by_cases hn : 0 ≤ n ∧ n ≤ 20
  · obtain ⟨m, rfl⟩ := Int.eq_ofNat_of_zero_le hn.1
    obtain ⟨pk, pn, pks, kb, nb, kbs, rk, rn, rks, hu⟩ := useB_ok hs (m := m) (by omega) (h ⟨m, by omega⟩)
    exact ⟨_, .inl ⟨s, p, m, pk, pn, pks, kb, nb, kbs, rk, rn, rks, rfl, rfl, rfl, hu, rfl⟩⟩
  · exact ⟨none, .inr ⟨.inr (.inl ⟨hn, b, by rw [hs]⟩), rfl⟩⟩
theorem useAt_ex {thm : Int} {sR pR sB pB : List UInt8} {oS oP : Option Tm} (h : ThmAt thm sR pR sB pB oS oP) (n : Int) : ∃ r, UseAt oS oP n r := by
  rcases h with ⟨rfl, rfl, rfl, rfl, rfl, rfl, rfl⟩ | ⟨rfl, rfl, rfl, rfl, rfl, rfl, rfl⟩ | ⟨rfl, rfl, rfl, rfl, rfl, rfl, rfl⟩ | ⟨rfl, rfl, rfl, rfl, rfl, rfl, rfl⟩ | ⟨rfl, rfl, rfl, rfl, rfl, rfl, rfl⟩ | ⟨_, rfl, rfl, rfl, rfl, rfl, rfl⟩
  · exact useAt_of rfl use1
  · exact useAt_of rfl use2
  · exact useAt_of rfl use3
  · exact ⟨none, .inr ⟨.inr (.inr ⟨_, _, _, rfl⟩), rfl⟩⟩
  · exact useAt_of rfl use5
  · exact ⟨none, .inr ⟨.inl rfl, rfl⟩⟩
end Go.Proofs.YthgmofdfecioaaaGreatDoor

namespace Go.Proofs.YthgmofdfecioaaaGreatDoor
open Go.RowKit
set_option linter.unusedSimpArgs false
set_option linter.unusedVariables false

section
variable {P : Program} {ops : Array Oper} {Q : Exit → Act → World → Prop} {S : World → Prop} {need : Nat → Bool}
theorem mid_out {K : Act → World → Prop} {a : Act} {w : World} (h : Mid S K Q .normal a w) : S w ∧ K a w := by unfold Mid at h; exact h
theorem mid_else {K : Act → World → Prop} {e : Exit} {a : Act} {w : World} (he : e ≠ .normal) (h : Mid S K Q e a w) : Q e a w := by
  unfold Mid at h
  cases e <;> first | exact absurd rfl he | exact h
/-- so many operations in any order, behind each of them S; then B -/
def wpAnyA (P : Program) (ops : Array Oper) (Q : Exit → Act → World → Prop) (S : World → Prop) (B : List Nat) : Nat → Array Bool → Act → World → Prop
  | 0, l, a, w => simR ops B l = true ∧ wpList P ops Q (sel ops B) a w
  | n + 1, l, a, w => Region.ready .any ops l ≠ [] ∧ ∀ i ∈ Region.ready .any ops l, ∀ o, ops[i]? = some o → wpList P ops (Mid S (wpAnyA P ops Q S B n (l.setIfInBounds i true)) Q) [o] a w
theorem anyA_ok {B : List Nat} (hneed : ∀ j, j ∈ B → need j = false) : ∀ (n fuel : Nat) (listed : Array Bool) (a : Act) (w : World), n + B.length ≤ fuel → wpAnyA P ops Q S B n listed a w → wpAnyN P ops Q S need fuel listed a w := by
  intro n
  induction n with
  | zero =>
    intro fuel listed a w hf h
    exact rest_ok (S := S) hneed [] fuel listed a w (by simpa using hf) h.1 (by rw [sel, List.filterMap_nil, wpThen]; exact h.2)
  | succ n ih =>
    intro fuel listed a w hf h
    cases fuel with
    | zero => omega
    | succ f =>
      refine ⟨fun h0 => absurd h0 h.1, fun i hi => ?_⟩
      obtain ⟨_, o, ho, _⟩ := mem_ready.1 hi
      refine wpOp_of_list ho (fun a w hh => ⟨fun _ => (mid_out hh).1, ih f _ a w (by omega) (mid_out hh).2⟩) (fun e a w he hh => mid_else he hh) (h.2 i hi o ho)
def firstAOk (ops : Array Oper) (T B : List Nat) (n : Nat) : Bool :=
  Region.noSelect ops && (simT ops T (Array.replicate ops.size false)).isSome && B.all (fun j => T.all fun i => pre ops ops.size j i) && (T.length + (n + B.length) == ops.size)
/-- **a region that draws its order**: the operations T first, each of which yields one value in every world that meets S; then n more in any order, behind each of which S holds; then B -/
theorem wp_region_firstA {id : Nat} {a : Act} {w : World} (S : World → Prop) (T B : List Nat) (n : Nat) (lT : List Oper) (l' : Array Bool) (hm : P.follows .mixedOrders = true) (hk : firstAOk ops T B n = true) (hl : simT ops T (Array.replicate ops.size false) = some l')
    (hT : sel ops T = lT) (hQ : ∀ c (a : Act) d v w, Q (.panic c) (a.put d v) w → Q (.panic c) a w) (hS : S w.drew)
    (h : wpTakeY P ops S (fun a' => wpAnyA P ops Q S B n l' a' w.drew) lT a) : (Code.region id ops true).wp P Q a w := by
  subst hT
  refine wp_region_any hm (wpAny_of_N (S := S) (need := fun j => !B.contains j) _ _ _ _ ?_)
  simp only [firstAOk, Bool.and_eq_true, beq_iff_eq] at hk
  obtain ⟨⟨⟨hsel, hsim⟩, hpre⟩, hlen⟩ := hk
  rw [show ops.size = T.length + (n + B.length) from hlen.symm]
  rw [show Array.replicate (T.length + (n + B.length)) false = Array.replicate ops.size false from by rw [hlen]]
  refine takesY_ok hsel hQ (w := w.drew) hS T _ _ l' a (fun i hi listed hcl hr j hj hne => ?_) Closed.start hl (wpTakeY_mono (fun a' h' _ => anyA_ok (fun j hj => ?_) n _ _ _ _ (Nat.le_refl _) h') _ _ h)
  · rw [Bool.not_eq_true', List.contains_eq_mem, decide_eq_false_iff_not]
    intro hjB
    have h1 := List.all_eq_true.1 (List.all_eq_true.1 hpre j hjB) i hi
    have h2 := hcl.ready hj h1
    have h3 := (mem_ready.1 hr).1
    rcases Nat.lt_or_ge i listed.size with h' | h'
    · simp [h'] at h2 h3; rw [h3] at h2; cases h2
    · simp [Array.getElem?_eq_none h'] at h2
  · simp [hj]
theorem wpAnyN_weak {S' : World → Prop} {need' : Nat → Bool} (hw : ∀ w, S' w) : ∀ (fuel : Nat) (l : Array Bool) (a : Act) (w : World), wpAnyN P ops Q S need fuel l a w → wpAnyN P ops Q S' need' fuel l a w
  | 0, _, _, _, h => h
  | fuel + 1, l, a, w, h => ⟨h.1, fun i hi => wpOp_mono (fun a' w' h' => ⟨fun _ => hw w', wpAnyN_weak hw fuel _ a' w' h'.2⟩) (h.2 i hi)⟩
def firstA2Ok (ops : Array Oper) (T0 T B : List Nat) (n : Nat) : Bool :=
  Region.noSelect ops && B.all (fun j => T.all fun i => pre ops ops.size j i) && (T0.length + (T.length + (n + B.length)) == ops.size)
/-- the same, with operations T0 ahead that read no memory -/
theorem wp_region_firstA2 {id : Nat} {a : Act} {w : World} (S : World → Prop) (T0 T B : List Nat) (n : Nat) (lT0 lT : List Oper) (l0 l' : Array Bool) (hm : P.follows .mixedOrders = true) (hk : firstA2Ok ops T0 T B n = true) (hl0 : simT ops T0 (Array.replicate ops.size false) = some l0) (hl : simT ops T l0 = some l')
    (hT0 : sel ops T0 = lT0) (hT : sel ops T = lT) (hQ : ∀ c (a : Act) d v w, Q (.panic c) (a.put d v) w → Q (.panic c) a w) (hS : S w.drew)
    (h : wpTakeY P ops (fun _ => True) (fun a0 => wpTakeY P ops S (fun a' => wpAnyA P ops Q S B n l' a' w.drew) lT a0) lT0 a) : (Code.region id ops true).wp P Q a w := by
  subst hT0 hT
  refine wp_region_any hm (wpAny_of_N (S := fun _ => True) (need := fun _ => true) _ _ _ _ ?_)
  simp only [firstA2Ok, Bool.and_eq_true, beq_iff_eq] at hk
  obtain ⟨⟨hsel, hpre⟩, hlen⟩ := hk
  rw [show ops.size = T0.length + (T.length + (n + B.length)) from hlen.symm]
  rw [show Array.replicate (T0.length + (T.length + (n + B.length))) false = Array.replicate ops.size false from by rw [hlen]]
  refine takesY_ok hsel hQ (w := w.drew) trivial T0 _ _ l0 a (fun i hi listed hcl hr j hj hne => rfl) Closed.start hl0 (wpTakeY_mono (fun a0 h0 hc0 => ?_) _ _ h)
  refine wpAnyN_weak (S := S) (need := fun j => !B.contains j) (fun _ => trivial) _ _ _ _ ?_
  refine takesY_ok hsel hQ (w := w.drew) hS T _ _ l' a0 (fun i hi listed hcl hr j hj hne => ?_) hc0 hl (wpTakeY_mono (fun a' h' _ => anyA_ok (fun j hj => ?_) n _ _ _ _ (Nat.le_refl _) h') _ _ h0)
  · rw [Bool.not_eq_true', List.contains_eq_mem, decide_eq_false_iff_not]
    intro hjB
    have h1 := List.all_eq_true.1 (List.all_eq_true.1 hpre j hjB) i hi
    have h2 := hcl.ready hj h1
    have h3 := (mem_ready.1 hr).1
    rcases Nat.lt_or_ge i listed.size with h' | h'
    · simp [h'] at h2 h3; rw [h3] at h2; cases h2
    · simp [Array.getElem?_eq_none h'] at h2
  · simp [hj]
/-- one way on -/
theorem anyA_one {B : List Nat} {n i : Nat} {l : Array Bool} {a : Act} {w : World} {o : Oper} (hr : Region.ready .any ops l = [i]) (ho : ops[i]? = some o) (h : wpList P ops (Mid S (wpAnyA P ops Q S B n (l.setIfInBounds i true)) Q) [o] a w) : wpAnyA P ops Q S B (n + 1) l a w := by
  rw [wpAnyA, hr]
  refine ⟨by simp, fun i' hi o' ho' => ?_⟩
  obtain rfl : i' = i := by simpa using hi
  rw [ho] at ho'
  injection ho' with ho'
  subst ho'
  exact h
/-- two ways on -/
theorem anyA_two {B : List Nat} {n i j : Nat} {l : Array Bool} {a : Act} {w : World} {o o2 : Oper} (hr : Region.ready .any ops l = [i, j]) (ho : ops[i]? = some o) (ho2 : ops[j]? = some o2) (h : wpList P ops (Mid S (wpAnyA P ops Q S B n (l.setIfInBounds i true)) Q) [o] a w)
    (h2 : wpList P ops (Mid S (wpAnyA P ops Q S B n (l.setIfInBounds j true)) Q) [o2] a w) : wpAnyA P ops Q S B (n + 1) l a w := by
  rw [wpAnyA, hr]
  refine ⟨by simp, fun i' hi o' ho' => ?_⟩
  simp only [List.mem_cons, List.not_mem_nil, or_false] at hi
  rcases hi with rfl | rfl
  · rw [ho] at ho'
    injection ho' with ho'
    subst ho'
    exact h
  · rw [ho2] at ho'
    injection ho' with ho'
    subst ho'
    exact h2
theorem anyA_end {B : List Nat} {l : Array Bool} {a : Act} {w : World} {lB : List Oper} (hk : simR ops B l = true) (hB : sel ops B = lB) (h : wpList P ops Q lB a w) : wpAnyA P ops Q S B 0 l a w := by
  subst hB; rw [wpAnyA]; exact ⟨hk, h⟩
end
attribute [irreducible] wpAnyA
end Go.Proofs.YthgmofdfecioaaaGreatDoor

namespace Go.Proofs.YthgmofdfecioaaaGreatDoor
open Go.RowKit
set_option linter.unusedSimpArgs false
set_option linter.unusedVariables false

section
variable {P : Program} {ops : Array Oper} {Q : Exit → Act → World → Prop} {S : World → Prop} {B : List Nat}
/-- what is left of the region: f operations and more, in whatever order; S behind each that is not of B -/
def gC (P : Program) (ops : Array Oper) (Q : Exit → Act → World → Prop) (S : World → Prop) (B : List Nat) (f : Nat) (l : Array Bool) (a : Act) (w : World) : Prop :=
  Closed ops l → wpAnyN P ops Q S (fun j => !B.contains j) f l a w
theorem gC_start {id : Nat} {a : Act} {w : World} (S : World → Prop) (B : List Nat) (f : Nat) (hm : P.follows .mixedOrders = true) (hf : ops.size = f) (h : gC P ops Q S B f (Array.replicate f false) a w.drew) : (Code.region id ops true).wp P Q a w := by
  subst hf
  exact wp_region_any hm (wpAny_of_N (S := S) (need := fun j => !B.contains j) _ _ _ _ (h Closed.start))
theorem gC_startT {id : Nat} {a : Act} {w : World} (S : World → Prop) (B T0 : List Nat) (f : Nat) {lT0 : List Oper} {l0 : Array Bool} (hm : P.follows .mixedOrders = true) (hsel : Region.noSelect ops = true) (hf : ops.size = T0.length + f) (hl : simT ops T0 (Array.replicate (T0.length + f) false) = some l0) (hT : sel ops T0 = lT0)
    (hQ : ∀ c (a : Act) d v w, Q (.panic c) (a.put d v) w → Q (.panic c) a w)
    (h : wpTakeY P ops (fun _ => True) (fun a0 => gC P ops Q S B f l0 a0 w.drew) lT0 a) : (Code.region id ops true).wp P Q a w := by
  subst hT
  refine wp_region_any hm (wpAny_of_N (S := fun _ => True) (need := fun _ => true) _ _ _ _ ?_)
  rw [hf]
  refine takesY_ok hsel hQ (w := w.drew) trivial T0 _ _ l0 a (fun i hi listed hcl hr j hj hne => rfl) (by rw [← hf]; exact Closed.start) hl (wpTakeY_mono (fun a0 h0 hc0 => ?_) _ _ h)
  exact wpAnyN_weak (S := S) (need := fun j => !B.contains j) (fun _ => trivial) _ _ _ _ (h0 hc0)
theorem gC_take {l l' : Array Bool} {a : Act} {w : World} {f F : Nat} (T : List Nat) {lT : List Oper} (hS : S w) (hF : F = T.length + f) (hsel : Region.noSelect ops = true) (hl : simT ops T l = some l') (hpre : (B.all fun j => T.all fun i => pre ops ops.size j i) = true) (hT : sel ops T = lT)
    (hQ : ∀ c (a : Act) d v w, Q (.panic c) (a.put d v) w → Q (.panic c) a w)
    (h : wpTakeY P ops S (fun a' => gC P ops Q S B f l' a' w) lT a) : gC P ops Q S B F l a w := by
  subst hT hF
  intro hcl
  refine takesY_ok hsel hQ hS T _ _ l' a (fun i hi listed hcl hr j hj hne => ?_) hcl hl h
  rw [Bool.not_eq_true', List.contains_eq_mem, decide_eq_false_iff_not]
  intro hjB
  have h1 := List.all_eq_true.1 (List.all_eq_true.1 hpre j hjB) i hi
  have h2 := hcl.ready hj h1
  have h3 := (mem_ready.1 hr).1
  rcases Nat.lt_or_ge i listed.size with h' | h'
  · simp [h'] at h2 h3; rw [h3] at h2; cases h2
  · simp [Array.getElem?_eq_none h'] at h2
theorem wpAnyN_firstT {need : Nat → Bool} {i : Nat} {oi : Oper} {v : Value} (hi : ops[i]? = some oi) (hsel : ∀ (j : Nat) (o : Oper) cs b, ops[j]? = some o → o.op ≠ .select cs b)
    (hQ : ∀ c a w, Q (.panic c) (a.put oi.dst v) w → Q (.panic c) a w) (hni : need i = false) :
    ∀ (fuel : Nat) (listed : Array Bool) (a : Act) (w : World), Closed ops listed →
      (∀ j oj, ops[j]? = some oj → j ≠ i → listed.getD j true = false → (∀ e ∈ oj.after, Region.binds .any e = true → e.on ≠ i) → oi.apart ops oj = true) →
      i ∈ Region.ready .any ops listed → YIf P ops (fun _ => True) oi v a →
      wpAnyN P ops Q S need fuel (listed.setIfInBounds i true) (a.put oi.dst v) w → wpAnyN P ops Q S need (fuel + 1) listed a w := by
  intro fuel
  induction fuel with
  | zero =>
    intro listed a w hcl _ hr hy H
    refine ⟨fun h => (by rw [h] at hr; cases hr), fun j hj => ?_⟩
    by_cases hji : j = i
    · subst hji; exact hy.wpOp hi trivial ⟨fun h => (by rw [hni] at h; cases h), H⟩
    · have := ready_mono hj hji
      rw [H.1] at this
      cases this
  | succ fuel ih =>
    intro listed a w hcl hfree hr hy H
    refine ⟨fun h => (by rw [h] at hr; cases hr), fun j hj => ?_⟩
    by_cases hji : j = i
    · subst hji; exact hy.wpOp hi trivial ⟨fun h => (by rw [hni] at h; cases h), H⟩
    · have h1 := H.2 j (ready_mono hj hji)
      obtain ⟨hjun, oj, hoj, hall⟩ := mem_ready.1 hj
      have hnot : ∀ e ∈ oj.after, Region.binds .any e = true → e.on ≠ i := fun e he hb heq => by
        have h1 := hall e he hb
        have h0 := (mem_ready.1 hr).1
        rw [heq] at h1
        rcases Nat.lt_or_ge i listed.size with h' | h'
        · simp [h'] at h0 h1; rw [h0] at h1; cases h1
        · simp [Array.getElem?_eq_none h'] at h1
      have h2 := wpOp_putY hoj (hfree j oj hoj hji hjun hnot) (fun cs b => hsel i oi cs b hi) (fun cs b => hsel j oj cs b hoj) hQ hy h1
      have hfree' : ∀ k ok, ops[k]? = some ok → k ≠ i → (listed.setIfInBounds j true).getD k true = false →
          (∀ e ∈ ok.after, Region.binds .any e = true → e.on ≠ i) → oi.apart ops ok = true := fun k ok hk hki hun hno => by
        refine hfree k ok hk hki ?_ hno
        by_cases hjk : j = k
        · subst hjk; exact hjun
        · rw [getD_set_ne true hjk] at hun; exact hun
      refine wpOp_mono (fun a' w' h3 => ⟨h3.2.1, ih (listed.setIfInBounds j true) a' w' (hcl.step hj) hfree' (ready_mono hr (Ne.symm hji)) h3.1 ?_⟩) h2
      rw [Array.setIfInBounds_comm _ _ hji]
      exact h3.2.2
theorem takesT_ok {need : Nat → Bool} (hsel : Region.noSelect ops = true) (hQ : ∀ c (a : Act) d v w, Q (.panic c) (a.put d v) w → Q (.panic c) a w) {w : World} : ∀ (T : List Nat) (fuel : Nat) (listed l' : Array Bool) (a : Act),
    (∀ i, i ∈ T → need i = false) →
    Closed ops listed → simT ops T listed = some l' → wpTakeY P ops (fun _ => True) (fun a' => Closed ops l' → wpAnyN P ops Q S need fuel l' a' w) (sel ops T) a → wpAnyN P ops Q S need (T.length + fuel) listed a w := by
  intro T
  induction T with
  | nil =>
    intro fuel listed l' a _ hcl hs h
    simp only [simT, Option.some.injEq] at hs
    subst hs
    rw [List.length_nil, Nat.zero_add]
    rw [sel, List.filterMap_nil, wpTakeY] at h
    exact h hcl
  | cons i T ih =>
    intro fuel listed l' a hn hcl hs h
    rw [simT] at hs
    split at hs
    case isFalse => cases hs
    rename_i hc
    rw [Bool.and_eq_true] at hc
    have hm : i ∈ Region.ready .any ops listed := by simpa using hc.1
    obtain ⟨_, o, ho, _⟩ := mem_ready.1 hm
    rw [sel_cons ho, wpTakeY] at h
    rw [List.length_cons, Nat.add_right_comm]
    split at h
    · rename_i hw
      obtain ⟨v, hv, hnext⟩ := h
      exact wpAnyN_firstT ho (Region.noSelect_spec hsel) (fun c a w hh => hQ c a _ _ w hh) (hn i (by simp)) _ _ _ _ hcl (Region.free_spec ho hc.2) hm (hv.yif hw)
        (ih _ _ _ _ (fun k hk => hn k (by simp [hk])) (hcl.step hm) hs hnext)
    · rename_i hw
      exact wpAnyN_firstT ho (Region.noSelect_spec hsel) (fun c a w hh => hQ c a _ _ w hh) (hn i (by simp)) _ _ _ _ hcl (Region.free_spec ho hc.2) hm (.inr (.inl ⟨by simpa using hw, rfl⟩))
        (ih _ _ _ _ (fun k hk => hn k (by simp [hk])) (hcl.step hm) hs h)
/-- operations of B that read no memory, taken as soon as they come up -/
theorem gC_takeT {l l' : Array Bool} {a : Act} {w : World} {f F : Nat} (T : List Nat) {lT : List Oper} (hF : F = T.length + f) (hsel : Region.noSelect ops = true) (hl : simT ops T l = some l') (hTB : (T.all fun i => B.contains i) = true) (hT : sel ops T = lT)
    (hQ : ∀ c (a : Act) d v w, Q (.panic c) (a.put d v) w → Q (.panic c) a w)
    (h : wpTakeY P ops (fun _ => True) (fun a' => gC P ops Q S B f l' a' w) lT a) : gC P ops Q S B F l a w := by
  subst hT hF
  intro hcl
  exact takesT_ok hsel hQ T _ _ l' a (fun i hi => by have := List.all_eq_true.1 hTB i hi; simpa using this) hcl hl h
theorem gC_any {l : Array Bool} {a : Act} {w : World} {f : Nat} (hne : Region.ready .any ops l ≠ [])
    (h : ∀ i ∈ Region.ready .any ops l, ∀ o, ops[i]? = some o → wpList P ops (Mid S (gC P ops Q S B f (l.setIfInBounds i true)) Q) [o] a w) : gC P ops Q S B (f + 1) l a w := by
  intro hcl
  refine ⟨fun h0 => absurd h0 hne, fun i hi => ?_⟩
  obtain ⟨_, o, ho, _⟩ := mem_ready.1 hi
  exact wpOp_of_list ho (fun a w hh => ⟨fun _ => (mid_out hh).1, (mid_out hh).2 (hcl.step hi)⟩) (fun e a w he hh => mid_else he hh) (h i hi o ho)
theorem gC_one {i : Nat} {l : Array Bool} {a : Act} {w : World} {f : Nat} {o : Oper} (hr : Region.ready .any ops l = [i]) (ho : ops[i]? = some o)
    (h : wpList P ops (Mid S (gC P ops Q S B f (l.setIfInBounds i true)) Q) [o] a w) : gC P ops Q S B (f + 1) l a w := by
  refine gC_any (by rw [hr]; simp) fun i' hi o' ho' => ?_
  rw [hr] at hi
  obtain rfl : i' = i := by simpa using hi
  rw [ho] at ho'
  injection ho' with ho'
  subst ho'
  exact h
theorem gC_two {i j : Nat} {l : Array Bool} {a : Act} {w : World} {f : Nat} {o o2 : Oper} (hr : Region.ready .any ops l = [i, j]) (ho : ops[i]? = some o) (ho2 : ops[j]? = some o2)
    (h : wpList P ops (Mid S (gC P ops Q S B f (l.setIfInBounds i true)) Q) [o] a w) (h2 : wpList P ops (Mid S (gC P ops Q S B f (l.setIfInBounds j true)) Q) [o2] a w) : gC P ops Q S B (f + 1) l a w := by
  refine gC_any (by rw [hr]; simp) fun i' hi o' ho' => ?_
  rw [hr] at hi
  simp only [List.mem_cons, List.not_mem_nil, or_false] at hi
  rcases hi with rfl | rfl
  · rw [ho] at ho'
    injection ho' with ho'
    subst ho'
    exact h
  · rw [ho2] at ho'
    injection ho' with ho'
    subst ho'
    exact h2
theorem gC_end {l : Array Bool} {a : Act} {w : World} {f : Nat} (R : List Nat) {lB : List Oper} (hf : R.length ≤ f) (hRB : (R.all fun j => B.contains j) = true) (hk : simR ops R l = true) (hB : sel ops R = lB) (h : wpList P ops Q lB a w) : gC P ops Q S B f l a w := by
  subst hB
  intro _
  exact rest_ok (S := S) (fun j hj => by have := List.all_eq_true.1 hRB j hj; simpa using this) [] f l a w (by simpa using hf) hk (by rw [sel, List.filterMap_nil, wpThen]; exact h)
end
attribute [irreducible] gC
end Go.Proofs.YthgmofdfecioaaaGreatDoor

namespace Go.Proofs.YthgmofdfecioaaaGreatDoor
open Go.RowKit
set_option linter.unusedSimpArgs false
set_option linter.unusedVariables false

theorem own_rdp {w : World} {P : Nat → Prop} : (∀ t xs fp, OwT w t xs fp → (∀ b, b ∈ fp → P b) → ∀ g off i, P g → (∀ j u, xs[j]? = some u → w.cell? ⟨g, off + i * 3 + j, none⟩ = some u) → RdPC P w g off i t) ∧
    (∀ ts xs fp, OwX w ts xs fp → (∀ b, b ∈ fp → P b) → ∀ g off i, P g → (∀ j u, xs[j]? = some u → w.cell? ⟨g, off + i * 3 + j, none⟩ = some u) → RdP P w (some ⟨g, off, none⟩) i ts) := by
  refine Tm.ind2 (fun k n ks ih xs fp h hP g off i hg hc => ?_) (fun xs fp h hP g off i hg hc => RdP.nil) (fun t ts h1 h2 xs fp h hP g off i hg hc => ?_)
  · obtain ⟨A, c, rfl, hl, h⟩ := OwT.iff.1 h
    refine RdPC.iff.2 ⟨hg, hc 0 _ rfl, hc 1 _ rfl, A, c, hc 2 _ rfl, hl, ?_⟩
    rcases h with ⟨rfl, rfl⟩ | ⟨g', cur, e, f, hne, rfl, hg', rfl, hx⟩
    · exact RdP.nil
    · refine ih _ _ hx (fun b hb => hP b (by simp [hb])) g' 0 0 (hP g' (by simp)) fun j u hu => ?_
      have e0 : 0 + 0 * 3 + j = j := by omega
      rw [e0, cell_of_row w g' j cur e (0, 0) hg']
      rw [List.getElem?_take] at hu
      split at hu
      · simpa using hu
      · cases hu
  · obtain ⟨x1, x2, f1, f2, rfl, rfl, ht, hx⟩ := OwX.cons_iff.1 h
    have hl := ht.length
    refine RdP.cons_iff.2 ⟨⟨g, off, rfl, h1 _ _ ht (fun b hb => hP b (by simp [hb])) g off i hg fun j u hu => hc j u ?_⟩, h2 _ _ hx (fun b hb => hP b (by simp [hb])) g off (i + 1) hg fun j u hu => ?_⟩
    · rw [List.getElem?_append_left (by have := (List.getElem?_eq_some_iff.1 hu).1; omega)]; exact hu
    · have := hc (3 + j) u (by rw [List.getElem?_append_right (by omega), hl]; simpa using hu)
      rw [show off + (i + 1) * 3 + j = off + i * 3 + (3 + j) from by omega]; exact this
/-- what lies in blocks of its own lies in blocks from B on that are there -/
theorem Fresh.rdp {B : Nat} {w : World} {A : Option Addr} {ks : List Tm} (h : Fresh B w A ks) : RdP (fun b => B ≤ b ∧ b < w.heap.size) w A 0 ks := by
  obtain ⟨fp, h, hn, hge⟩ := h
  have hlt := h.lt
  rcases h with ⟨rfl, rfl⟩ | ⟨g, cur, e, f, hne, rfl, hg, rfl, hx⟩
  · exact RdP.nil
  · refine own_rdp.2 _ _ _ hx (fun b hb => ⟨hge b (by simp [hb]), hlt b (by simp [hb])⟩) g 0 0 ⟨hge g (by simp), hlt g (by simp)⟩ fun j u hu => ?_
    have e0 : 0 + 0 * 3 + j = j := by omega
    rw [e0, cell_of_row w g j cur e (0, 0) hg]
    rw [List.getElem?_take] at hu
    split at hu
    · simpa using hu
    · cases hu
end Go.Proofs.YthgmofdfecioaaaGreatDoor

namespace Go.Proofs.YthgmofdfecioaaaGreatDoor
open Go.RowKit
set_option linter.unusedSimpArgs false
set_option linter.unusedVariables false

theorem gotP_at {w : World} {o : Option Tm} {e : Ending} {w' : World} (h : GotP w o e w') {k n : Int} {ks : List Tm} (ht : o.getD (.mk 0 0 []) = .mk k n ks) {b : Bool} (hb : o.isSome = b) :
    ∃ A c, e = .returned (.tuple #[.agg #[.int .i64 k, .int .i64 n, .slice A ks.length c], .bool b]) ∧ ks.length ≤ 9223372036854775807 ∧ Fresh w.heap.size w' A ks ∧ Below w.heap.size w w' := by
  obtain ⟨k', n', ks', A, c, hk, rfl, hl, hf, hw⟩ := h
  rw [ht] at hk
  injection hk with h1 h2 h3
  subst h1 h2 h3 hb
  exact ⟨A, c, rfl, hl, hf, hw⟩
theorem thm_size {o : Option Tm} {B : List UInt8} (h : (∃ t, o = some t ∧ Good t B) ∨ (o = none ∧ B = [])) {k n : Int} {ks : List Tm} (ht : o.getD (.mk 0 0 []) = .mk k n ks) : sizes ks ≤ 400 := by
  rcases h with ⟨t, rfl, h⟩ | ⟨rfl, _⟩
  · rw [Option.getD_some] at ht
    subst ht
    exact validT_size' h.2.1
  · injection ht with _ _ h3; subst h3; simp [sizes]
end Go.Proofs.YthgmofdfecioaaaGreatDoor

namespace Go.Proofs.YthgmofdfecioaaaGreatDoor
open Go.RowKit
set_option linter.unusedSimpArgs false
set_option linter.unusedVariables false

theorem name_midw {S : World → Prop} {K : Act → World → Prop} {Q : Exit → Act → World → Prop} {a : Act} {w : World} (h : ∀ wx, wx = w → Mid S K Q .normal a wx) : Mid S K Q .normal a w := h w rfl
/-- two terms and whether they are, handed back where they can be read -/
def GotS (w : World) (r : Option (Tm × Tm)) (e : Ending) (w' : World) : Prop :=
  ∃ (k1 n1 : Int) (ks1 : List Tm) (A1 : Option Addr) (c1 : Nat) (k2 n2 : Int) (ks2 : List Tm) (A2 : Option Addr) (c2 : Nat), (r.map Prod.fst).getD (.mk 0 0 []) = .mk k1 n1 ks1 ∧ (r.map Prod.snd).getD (.mk 0 0 []) = .mk k2 n2 ks2 ∧
    e = .returned (.tuple #[.agg #[.int .i64 k1, .int .i64 n1, .slice A1 ks1.length c1], .agg #[.int .i64 k2, .int .i64 n2, .slice A2 ks2.length c2], .bool r.isSome]) ∧ ks1.length ≤ 9223372036854775807 ∧ ks2.length ≤ 9223372036854775807 ∧ Rd w' A1 0 ks1 ∧ Rd w' A2 0 ks2 ∧ Below w.heap.size w w'
theorem numT_eta (m : Nat) : ∃ nk nks, numT m = .mk nk 0 nks := by cases m <;> exact ⟨_, _, rfl⟩
set_option maxHeartbeats 8000000 in
set_option maxRecDepth 100000 in
theorem sUse_yes {thm : Int} {sR pR sB pB : List UInt8} {s p : Tm} (h : ThmAt thm sR pR sB pB (some s) (some p)) {m : Nat} {pk pn : Int} {pks : List Tm} {kb nb : Int} {kbs : List Tm} {rk rn : Int} {rks : List Tm} (hu : UseOk s p m pk pn pks kb nb kbs rk rn rks) (w : World) (hm : GM w) :
    Calls Tryz.prog 8 #[.int .i64 thm, .int .i64 m] w (GotS w (some (.mk 5 0 [.mk pk pn pks, numT m], .mk rk rn rks))) := by
  obtain ⟨nk, nks, hnum⟩ := numT_eta m
  have hT := hide (fun w (hm : GM w) => by have := sType_any h w hm; rw [hu.hs] at this; exact this)
  have hP := hide (fun w (hm : GM w) => by have := sProof_any h w hm; rw [hu.hp] at this; exact this)
  have hN := hide (fun w => by have := sNumeral_any m w; rw [numO, if_pos ⟨by omega, by have := hu.hm; omega⟩, Int.toNat_natCast, hnum] at this; exact this)
  have hI := hide (fun A c U cu (w : World) (h1 : Rd w A 0 kbs) (h2 : Rd w U 0 nks) => by have := sInst_any kb nb kbs A c nk 0 nks U cu w hu.hbv (by rw [← hnum]; exact hu.hnv) h1 h2; rw [← hnum, hu.hi] at this; exact this)
  have hav := hu.hav
  rw [hnum] at hav
  have hszp := validT_size' hu.hpv
  have hsza := validT_size' hav
  have hav' := hide hav
  have hnum' := hide hnum
  have hm' := hide hm
  clear h hu hav hnum hm
  go_enter Tryz.func8, Tryz.ntmps8
  go_wp2_with (first
    | (go_at_call 31; refine (made_yes 5 0 [.mk pk pn pks, .mk nk 0 nks] A4 c4 _ (by omega) hf4.rd hav'.out).mono ?_; rintro e w5 ⟨rfl, hb5⟩; replace hT7 := hT7.keep hb5; replace hT11 := hT11.keep hb5; replace hZ4 := hZ4.keep hb5; replace hZ5 := hZ5.keep hb5; have s5 := hb5.size; have g5 : Below w.heap.size w w5 := g4.trans (hb5.mono g4.size); obtain ⟨x0, x1, x2⟩ := hT7.three)
    | (go_at_call 32; refine (l1Node_any (B := w1.heap.size) (us := [.mk pk pn pks, .mk nk 0 nks]) 5 (by simp; omega) ((hO.alloc _).alloc _) hnd hge (by simp) _ 2 (Blk.new_ _ 27 _ (by simp))).mono ?_; rintro e w4 ⟨A4, c4, rfl, hf4, hb4⟩; have hT11 := ((Blk.new_ w3 27 #[.int .i64 nk, .int .i64 0, .slice A3 nks.length c3] rfl).alloc (.cells #[.int .i64 pk, .int .i64 pn, .slice A2 pks.length c2, .int .i64 nk, .int .i64 0, .slice A3 nks.length c3] 27)).keep hb4; replace hT7 := ((hT7.alloc (.cells #[.int .i64 nk, .int .i64 0, .slice A3 nks.length c3] 27)).alloc (.cells #[.int .i64 pk, .int .i64 pn, .slice A2 pks.length c2, .int .i64 nk, .int .i64 0, .slice A3 nks.length c3] 27)).keep hb4; replace hZ4 := ((hZ4.alloc (.cells #[.int .i64 nk, .int .i64 0, .slice A3 nks.length c3] 27)).alloc (.cells #[.int .i64 pk, .int .i64 pn, .slice A2 pks.length c2, .int .i64 nk, .int .i64 0, .slice A3 nks.length c3] 27)).keep hb4; replace hZ5 := ((hZ5.alloc (.cells #[.int .i64 nk, .int .i64 0, .slice A3 nks.length c3] 27)).alloc (.cells #[.int .i64 pk, .int .i64 pn, .slice A2 pks.length c2, .int .i64 nk, .int .i64 0, .slice A3 nks.length c3] 27)).keep hb4; replace hRs := ((hRs.alloc (.cells #[.int .i64 nk, .int .i64 0, .slice A3 nks.length c3] 27)).alloc (.cells #[.int .i64 pk, .int .i64 pn, .slice A2 pks.length c2, .int .i64 nk, .int .i64 0, .slice A3 nks.length c3] 27)).below hb4; replace hRn := ((hRn.alloc (.cells #[.int .i64 nk, .int .i64 0, .slice A3 nks.length c3] 27)).alloc (.cells #[.int .i64 pk, .int .i64 pn, .slice A2 pks.length c2, .int .i64 nk, .int .i64 0, .slice A3 nks.length c3] 27)).below hb4; have s4 : w3.heap.size + 1 + 1 ≤ w4.heap.size := (by have := hb4.size; simpa using this); have g4 : Below w.heap.size w w4 := ((g3.alloc g3.size _).alloc (by have := g3.size; simp; omega) _).trans (hb4.mono (by have := g3.size; simp; omega)); clear t0 t1 t2 x0 x1 x2 i1 i2 i3)
    | (go_at_call 30; refine (hN.out _).mono ?_; rintro e w3 hgo; obtain ⟨A3, c3, rfl, hl3, hf3, hb3⟩ := gotP_at hgo rfl rfl; clear hgo; have hT9 := (Blk.new_ w2 27 #[.int .i64 pk, .int .i64 pn, .slice A2 pks.length c2] rfl).keep hb3; replace hT7 := (hT7.alloc (.cells #[.int .i64 pk, .int .i64 pn, .slice A2 pks.length c2] 27)).keep hb3; replace hZ4 := (hZ4.alloc (.cells #[.int .i64 pk, .int .i64 pn, .slice A2 pks.length c2] 27)).keep hb3; replace hZ5 := (hZ5.alloc (.cells #[.int .i64 pk, .int .i64 pn, .slice A2 pks.length c2] 27)).keep hb3; replace hRs := (hRs.alloc (.cells #[.int .i64 pk, .int .i64 pn, .slice A2 pks.length c2] 27)).below hb3; have s3 : w2.heap.size + 1 ≤ w3.heap.size := (by have := hb3.size; simpa using this); have g3 : Below w.heap.size w w3 := (g2.alloc g2.size _).trans (hb3.mono (by have := g2.size; simp; omega)); have hb23 : Below w2.heap.size w2 w3 := ((Below.refl _ _).alloc (Nat.le_refl _) _).trans (hb3.mono (by simp)); obtain ⟨fp, hO, hnd, hge⟩ := Fresh.node2 (hf2.mono (B' := w1.heap.size) (by simp)) hb23 (hf3.mono (B' := w2.heap.size) (by simp)) (by omega) hl2 hl3 pk pn nk 0 c2 c3; have hRn := hf3.rd; obtain ⟨t0, t1, t2⟩ := hT7.three; obtain ⟨x0, x1, x2⟩ := hT9.three; obtain ⟨b0, off0, k0', n0', ks0', A0', c0', hA0, hk0, i1, i2, i3, hl0', hr0'⟩ := hRs.at_ (j := 0) (by simp); injection hk0 with h1 h2 h3; subst h1 h2 h3 hA0; simp only [Nat.zero_mul, Nat.add_zero] at i1 i2 i3; have lb0 := World.block_lt_of_cell? _ _ i1; have l7 := hT7.lt; have l9 := hT9.lt)
    | (go_at_call 13; refine (hP.out _ ((hm'.out.keep g1).alloc _)).mono ?_; rintro e w2 hgo; obtain ⟨A2, c2, rfl, hl2, hf2, hb2⟩ := gotP_at hgo rfl rfl; clear hgo; have hT7 := (Blk.new_ w1 27 #[.int .i64 3, .int .i64 0, .slice A1 2 c1] rfl).keep hb2; replace hZ4 := (hZ4.alloc (.cells #[.int .i64 3, .int .i64 0, .slice A1 2 c1] 27)).keep hb2; replace hZ5 := (hZ5.alloc (.cells #[.int .i64 3, .int .i64 0, .slice A1 2 c1] 27)).keep hb2; replace hRs := (hRs.alloc (.cells #[.int .i64 3, .int .i64 0, .slice A1 2 c1] 27)).below hb2; have s2 : w1.heap.size + 1 ≤ w2.heap.size := (by have := hb2.size; simpa using this); have g2 : Below w.heap.size w w2 := (g1.alloc g1.size _).trans (hb2.mono (by have := g1.size; simp; omega)))
    | (go_at_call 29; refine (hT.out _ ((hm'.out.alloc _).alloc _)).mono ?_; rintro e w1 hgo; obtain ⟨A1, c1, rfl, hl1, hf1, hb1⟩ := gotP_at hgo rfl rfl; clear hgo; have hZ4 := ((Blk.new_ w 27 #[.int .i64 0, .int .i64 0, .slice none 0 0] rfl).alloc (.cells #[.int .i64 0, .int .i64 0, .slice none 0 0] 27)).keep hb1; have hZ5 : Blk w1 (w.heap.size + 1) #[.int .i64 0, .int .i64 0, .slice none 0 0] := (Blk.new_ _ 27 _ (by simp)).keep hb1; have s1 : w.heap.size + 1 + 1 ≤ w1.heap.size := (by have := hb1.size; simpa using this); have g1 : Below w.heap.size w w1 := (((Below.refl _ _).alloc (Nat.le_refl _) _).alloc (by simp) _).trans (hb1.mono (by simp; omega)); have hRs := hf1.rd))
  refine name_world ?_
  intro wy hwy
  have sy0 := congrArg (fun w : World => w.heap.size) hwy
  simp at sy0
  have ky : Below w5.heap.size w5 wy := by rw [hwy]; exact (Below.refl _ _).alloc (Nat.le_refl _) _
  have hT13 : Blk wy w5.heap.size #[.int .i64 5, .int .i64 0, .slice A4 2 c4] := by rw [hwy]; exact Blk.new_ _ 27 _ rfl
  have sy : w5.heap.size < wy.heap.size := by omega
  clear hwy sy0
  have gy : Below w.heap.size w wy := g5.trans (ky.mono g5.size)
  replace hZ4 := hZ4.keep ky
  replace hZ5 := hZ5.keep ky
  replace hT7 := hT7.keep ky
  replace hT11 := hT11.keep ky
  have hRs := (hRs.below hb5).below ky
  have hRn := (hRn.below hb5).below ky
  have hRa := hf4.rd.below (hb5.trans (ky.mono hb5.size))
  have hFa := (hf4.below hb5).below ky
  clear x0 x1 x2
  obtain ⟨b, off, k', n', ks', A', c', hA1, hkj, hc1, hc2, hc3, hl', hr'⟩ := hRs.at_ (j := 1) (by simp)
  injection hkj with h1 h2 h3
  subst h1 h2 h3
  injection hA1 with hA1
  injection hA1 with hA2 hA3
  subst hA2 hA3
  have y2 := rule_of hT7.three.2.2
  have r0 := rule_of hc1
  have r1 := rule_of hc2
  have r2 := rule_of hc3
  have v0 := rule_of hT11.three.1
  have v1 := rule_of hT11.three.2.1
  have v2 := rule_of hT11.three.2.2
  clear hc1 hc2 hc3
  go_cut [15, 16] (fun s15 s16 wx => ∃ (g15 : Nat) (A7 : Option Addr) (c7 : Nat), s15 = .pointer (some ⟨g15, 0, none⟩) ∧ s16 = .bool true ∧ Blk wx g15 #[.int .i64 rk, .int .i64 rn, .slice A7 rks.length c7] ∧ rks.length ≤ 9223372036854775807 ∧ RdP (fun b => b ≠ w.heap.size ∧ b ≠ w.heap.size + 1) wx A7 0 rks ∧ Below wy.heap.size wy wx ∧ wy.heap.size ≤ g15)
  case first =>
    obtain ⟨q0, hq0⟩ : ∃ q0, q0 = wy.drew := ⟨_, rfl⟩
    have bq0 : Below wy.heap.size wy q0 := by rw [hq0]; exact (Below.refl _ _).drew
    refine gC_start (fun w' => Below wy.heap.size wy w') [6, 7, 8, 10, 11] 12 (by kernel_rfl) rfl ?_
    refine gC_take [0, 1, 2, 3, 4] (f := 7) (l' := #[true, true, true, true, true, false, false, false, false, false, false, false]) (lT := [_, _, _, _, _]) (by rw [← hq0]; exact bq0) rfl (by kernel_rfl) (by kernel_rfl) (by kernel_rfl) rfl (fun _ _ d _ _ h => by cases d <;> exact h) ?_
    repeat (first | ((refine takeY_skip (a' := ?_) ?_ ?_ ?_); (rotate_left); (· (simp [Region.wanted, yielded]; done)); (· (simp only [List.getElem_toArray, List.getElem_cons_zero, List.getElem_cons_succ, Act.put, List.setIfInBounds_toArray, List.set_cons_zero, List.set_cons_succ]; exact rfl))) | ((refine takeY_step (v := ?_) (a' := ?_) ?_ ?_ ?_ ?_); (rotate_left 2); (· (simp [Region.wanted, yielded]; done)); (· (intro w' hS'; go_simp; try (with_reducible rfl))); (· (simp only [List.getElem_toArray, List.getElem_cons_zero, List.getElem_cons_succ, Act.put, List.setIfInBounds_toArray, List.set_cons_zero, List.set_cons_succ]; exact rfl))))
    refine takeY_nil ?_
    rw [← hq0]
    clear hq0
    refine gC_two (i := 5) (j := 9) (by kernel_rfl) rfl rfl ?_ ?_
    · go_wp2_with (go_at_call 33; refine (hI.out A' c' A3 c3 _ (hr'.below bq0) (hRn.below bq0)).mono ?_; rintro e q1 hgo; obtain ⟨A7, c7, rfl, hl7, hfq1, hbq1⟩ := gotP_at hgo rfl rfl; clear hgo)
      have hRq1 := hfq1.rdp
      have swq1 := bq0.size
      have bq1 : Below wy.heap.size wy q1 := bq0.trans (hbq1.mono bq0.size)
      have lq1 := hbq1.size
      refine mid_intro bq1 ?_
      refine gC_takeT [6, 7, 8] (f := 3) (l' := #[true, true, true, true, true, true, true, true, true, false, false, false]) (lT := [_, _, _]) rfl (by kernel_rfl) (by kernel_rfl) (by kernel_rfl) rfl (fun _ _ d _ _ h => by cases d <;> exact h) ?_
      repeat (first | ((refine takeY_skip (a' := ?_) ?_ ?_ ?_); (rotate_left); (· (simp [Region.wanted, yielded]; done)); (· (simp only [List.getElem_toArray, List.getElem_cons_zero, List.getElem_cons_succ, Act.put, List.setIfInBounds_toArray, List.set_cons_zero, List.set_cons_succ]; exact rfl))) | ((refine takeY_step (v := ?_) (a' := ?_) ?_ ?_ ?_ ?_); (rotate_left 2); (· (simp [Region.wanted, yielded]; done)); (· (intro w' hS'; go_simp; try (with_reducible rfl))); (· (simp only [List.getElem_toArray, List.getElem_cons_zero, List.getElem_cons_succ, Act.put, List.setIfInBounds_toArray, List.set_cons_zero, List.set_cons_succ]; exact rfl))))
      refine takeY_nil ?_
      refine gC_one (i := 9) (by kernel_rfl) rfl ?_
      · have szq2 := bq1.size
        go_wp2_with fail
        refine name_midw ?_
        intro q2 hn
        have bq2 : Below wy.heap.size wy q2 := by rw [hn]; exact bq1.alloc szq2 _
        have zq2 : Blk q2 q1.heap.size #[.int .i64 0, .int .i64 0, .slice none 0 0] := by rw [hn]; exact Blk.new_ _ 27 _ rfl
        have eq2 : q2.heap.size = q1.heap.size + 1 := by rw [hn]; simp
        have kq2 : Below q1.heap.size q1 q2 := by rw [hn]; exact (Below.refl _ _).alloc (Nat.le_refl _) _
        have seq2 : q1.heap.size < q2.heap.size := by omega
        clear hn eq2
        have Rq2 := hRq1.below kq2
        refine mid_intro bq2 ?_
        refine gC_end [10, 11] (lB := [_, _]) (by simp) (by kernel_rfl) (by kernel_rfl) rfl ?_
        obtain ⟨d0, d1, d2⟩ := zq2.three
        have e0 := zq2.frozen 0
        have e1 := zq2.frozen 1
        have e2 := zq2.frozen 2
        have slo := bq0.size
        have szl := zq2.lt
        have sbw := bq2.size
        have szb : wy.heap.size ≤ q1.heap.size := by first | exact bq0.size | exact bq1.size
        go_wp2_with fail
        go_meet
        exact ⟨q1.heap.size, A7, c7, rfl, rfl, ((zq2.set_ 0 _).set_ 1 _).set_ 2 _, hl7, (((Rq2.setCell (a := ⟨q1.heap.size, 0, none⟩) (by simp <;> omega) _).setCell (a := ⟨q1.heap.size, 1, none⟩) (by simp <;> omega) _).setCell (a := ⟨q1.heap.size, 2, none⟩) (by simp <;> omega) _).mono (fun b hb => by have := hb.1; omega), ((bq2.setCell (by simp <;> omega) _).setCell (by simp <;> omega) _).setCell (by simp <;> omega) _, szb⟩
    · have szq3 := bq0.size
      go_wp2_with fail
      refine name_midw ?_
      intro q3 hn
      have bq3 : Below wy.heap.size wy q3 := by rw [hn]; exact bq0.alloc szq3 _
      have zq3 : Blk q3 q0.heap.size #[.int .i64 0, .int .i64 0, .slice none 0 0] := by rw [hn]; exact Blk.new_ _ 27 _ rfl
      have eq3 : q3.heap.size = q0.heap.size + 1 := by rw [hn]; simp
      have kq3 : Below q0.heap.size q0 q3 := by rw [hn]; exact (Below.refl _ _).alloc (Nat.le_refl _) _
      have seq3 : q0.heap.size < q3.heap.size := by omega
      clear hn eq3
      refine mid_intro bq3 ?_
      refine gC_one (i := 5) (by kernel_rfl) rfl ?_
      · go_wp2_with (go_at_call 33; refine (hI.out A' c' A3 c3 _ (hr'.below bq3) (hRn.below bq3)).mono ?_; rintro e q4 hgo; obtain ⟨A7, c7, rfl, hl7, hfq4, hbq4⟩ := gotP_at hgo rfl rfl; clear hgo)
        have zq4 := zq3.keep hbq4
        have hRq4 := hfq4.rdp
        have swq4 := bq3.size
        have bq4 : Below wy.heap.size wy q4 := bq3.trans (hbq4.mono bq3.size)
        have lq4 := hbq4.size
        refine mid_intro bq4 ?_
        refine gC_takeT [6, 7, 8] (f := 2) (l' := #[true, true, true, true, true, true, true, true, true, true, false, false]) (lT := [_, _, _]) rfl (by kernel_rfl) (by kernel_rfl) (by kernel_rfl) rfl (fun _ _ d _ _ h => by cases d <;> exact h) ?_
        repeat (first | ((refine takeY_skip (a' := ?_) ?_ ?_ ?_); (rotate_left); (· (simp [Region.wanted, yielded]; done)); (· (simp only [List.getElem_toArray, List.getElem_cons_zero, List.getElem_cons_succ, Act.put, List.setIfInBounds_toArray, List.set_cons_zero, List.set_cons_succ]; exact rfl))) | ((refine takeY_step (v := ?_) (a' := ?_) ?_ ?_ ?_ ?_); (rotate_left 2); (· (simp [Region.wanted, yielded]; done)); (· (intro w' hS'; go_simp; try (with_reducible rfl))); (· (simp only [List.getElem_toArray, List.getElem_cons_zero, List.getElem_cons_succ, Act.put, List.setIfInBounds_toArray, List.set_cons_zero, List.set_cons_succ]; exact rfl))))
        refine takeY_nil ?_
        refine gC_end [10, 11] (lB := [_, _]) (by simp) (by kernel_rfl) (by kernel_rfl) rfl ?_
        obtain ⟨d0, d1, d2⟩ := zq4.three
        have e0 := zq4.frozen 0
        have e1 := zq4.frozen 1
        have e2 := zq4.frozen 2
        have slo := bq3.size
        have szl := zq4.lt
        have sbw := bq4.size
        have szb : wy.heap.size ≤ q0.heap.size := by first | exact bq0.size | exact bq4.size
        go_wp2_with fail
        go_meet
        exact ⟨q0.heap.size, A7, c7, rfl, rfl, ((zq4.set_ 0 _).set_ 1 _).set_ 2 _, hl7, (((hRq4.setCell (a := ⟨q0.heap.size, 0, none⟩) (by simp <;> omega) _).setCell (a := ⟨q0.heap.size, 1, none⟩) (by simp <;> omega) _).setCell (a := ⟨q0.heap.size, 2, none⟩) (by simp <;> omega) _).mono (fun b hb => by have := hb.1; omega), ((bq4.setCell (by simp <;> omega) _).setCell (by simp <;> omega) _).setCell (by simp <;> omega) _, szb⟩
  case rest =>
    obtain ⟨g15, A7, c7, rfl, rfl, hT15, hl7, hR7, hx, hg15⟩ := hcut
    clear y2 r0 r1 r2 v0 v1 v2
    go_upto_region 10 with fail
    refine name_world ?_
    intro wz hwz
    subst hwz
    replace hZ4 := hZ4.keep hx
    replace hZ5 := hZ5.keep hx
    replace hT13 := hT13.keep hx
    have hFz := hFa.below hx
    have gz : Below w.heap.size w wz := gy.trans (hx.mono gy.size)
    obtain ⟨x0, x1, x2⟩ := hT13.three
    obtain ⟨y0, y1, y2⟩ := hT15.three
    obtain ⟨d0, d1, d2⟩ := hZ4.three
    have e0 := hZ4.frozen 0
    have e1 := hZ4.frozen 1
    have e2 := hZ4.frozen 2
    obtain ⟨f0, f1, f2⟩ := hZ5.three
    have i0 := hZ5.frozen 0
    have i1 := hZ5.frozen 1
    have i2 := hZ5.frozen 2
    have hne : w.heap.size ≠ w.heap.size + 1 := by omega
    have n1 : g15 ≠ w.heap.size := by omega
    have n2 : g15 ≠ w.heap.size + 1 := by omega
    have n3 : w5.heap.size ≠ w.heap.size := by omega
    have n4 : w5.heap.size ≠ w.heap.size + 1 := by omega
    refine gC_start (fun _ => True) [3, 4] 5 (by kernel_rfl) rfl ?_
    refine gC_two (i := 0) (j := 1) (by kernel_rfl) rfl rfl ?_ ?_
    · go_wp2_with fail
      refine mid_intro trivial ?_
      refine gC_two (i := 1) (j := 2) (by kernel_rfl) rfl rfl ?_ ?_
      · go_wp2_with fail
        refine mid_intro trivial ?_
        refine gC_one (i := 2) (by kernel_rfl) rfl ?_
        · go_wp2_with fail
          refine mid_intro trivial ?_
          refine gC_end [3, 4] (lB := [_, _]) (by simp) (by kernel_rfl) (by kernel_rfl) rfl ?_
          go_wp2_with fail
          refine bodyPost_ret (v := .tuple #[.agg #[.int .i64 5, .int .i64 0, .slice A4 2 c4], .agg #[.int .i64 rk, .int .i64 rn, .slice A7 rks.length c7], .bool true]) (by simp [results, Tryz.results8, go_sem, d0, d1, d2, f0, f1, f2]) rfl ⟨5, 0, [.mk pk pn pks, .mk nk 0 nks], A4, c4, rk, rn, rks, A7, c7, by rw [hnum'.out]; rfl, rfl, rfl, by simp, hl7, ?_, ?_, ?_⟩
          · exact ((((((hFz.setCell (a := ⟨w.heap.size, 0, none⟩) (by simp; omega) _).setCell (a := ⟨w.heap.size, 1, none⟩) (by simp; omega) _).setCell (a := ⟨w.heap.size, 2, none⟩) (by simp; omega) _).setCell (a := ⟨w.heap.size + 1, 0, none⟩) (by simp; omega) _).setCell (a := ⟨w.heap.size + 1, 1, none⟩) (by simp; omega) _).setCell (a := ⟨w.heap.size + 1, 2, none⟩) (by simp; omega) _).rd.drew
          · exact ((((((hR7.setCell (a := ⟨w.heap.size, 0, none⟩) (by simp) _).setCell (a := ⟨w.heap.size, 1, none⟩) (by simp) _).setCell (a := ⟨w.heap.size, 2, none⟩) (by simp) _).setCell (a := ⟨w.heap.size + 1, 0, none⟩) (by simp) _).setCell (a := ⟨w.heap.size + 1, 1, none⟩) (by simp) _).setCell (a := ⟨w.heap.size + 1, 2, none⟩) (by simp) _).rd.drew
          · exact (((((gz.setCell (by simp) _).setCell (by simp) _).setCell (by simp) _).setCell (by simp) _).setCell (by simp) _).setCell (by simp) _ |>.drew
      · go_wp2_with fail
        refine mid_intro trivial ?_
        refine gC_one (i := 1) (by kernel_rfl) rfl ?_
        · go_wp2_with fail
          refine mid_intro trivial ?_
          refine gC_end [3, 4] (lB := [_, _]) (by simp) (by kernel_rfl) (by kernel_rfl) rfl ?_
          go_wp2_with fail
          refine bodyPost_ret (v := .tuple #[.agg #[.int .i64 5, .int .i64 0, .slice A4 2 c4], .agg #[.int .i64 rk, .int .i64 rn, .slice A7 rks.length c7], .bool true]) (by simp [results, Tryz.results8, go_sem, d0, d1, d2, f0, f1, f2]) rfl ⟨5, 0, [.mk pk pn pks, .mk nk 0 nks], A4, c4, rk, rn, rks, A7, c7, by rw [hnum'.out]; rfl, rfl, rfl, by simp, hl7, ?_, ?_, ?_⟩
          · exact ((((((hFz.setCell (a := ⟨w.heap.size, 0, none⟩) (by simp; omega) _).setCell (a := ⟨w.heap.size, 1, none⟩) (by simp; omega) _).setCell (a := ⟨w.heap.size, 2, none⟩) (by simp; omega) _).setCell (a := ⟨w.heap.size + 1, 0, none⟩) (by simp; omega) _).setCell (a := ⟨w.heap.size + 1, 1, none⟩) (by simp; omega) _).setCell (a := ⟨w.heap.size + 1, 2, none⟩) (by simp; omega) _).rd.drew
          · exact ((((((hR7.setCell (a := ⟨w.heap.size, 0, none⟩) (by simp) _).setCell (a := ⟨w.heap.size, 1, none⟩) (by simp) _).setCell (a := ⟨w.heap.size, 2, none⟩) (by simp) _).setCell (a := ⟨w.heap.size + 1, 0, none⟩) (by simp) _).setCell (a := ⟨w.heap.size + 1, 1, none⟩) (by simp) _).setCell (a := ⟨w.heap.size + 1, 2, none⟩) (by simp) _).rd.drew
          · exact (((((gz.setCell (by simp) _).setCell (by simp) _).setCell (by simp) _).setCell (by simp) _).setCell (by simp) _).setCell (by simp) _ |>.drew
    · go_wp2_with fail
      refine mid_intro trivial ?_
      refine gC_one (i := 0) (by kernel_rfl) rfl ?_
      · go_wp2_with fail
        refine mid_intro trivial ?_
        refine gC_one (i := 2) (by kernel_rfl) rfl ?_
        · go_wp2_with fail
          refine mid_intro trivial ?_
          refine gC_end [3, 4] (lB := [_, _]) (by simp) (by kernel_rfl) (by kernel_rfl) rfl ?_
          go_wp2_with fail
          refine bodyPost_ret (v := .tuple #[.agg #[.int .i64 5, .int .i64 0, .slice A4 2 c4], .agg #[.int .i64 rk, .int .i64 rn, .slice A7 rks.length c7], .bool true]) (by simp [results, Tryz.results8, go_sem, d0, d1, d2, f0, f1, f2]) rfl ⟨5, 0, [.mk pk pn pks, .mk nk 0 nks], A4, c4, rk, rn, rks, A7, c7, by rw [hnum'.out]; rfl, rfl, rfl, by simp, hl7, ?_, ?_, ?_⟩
          · exact ((((((hFz.setCell (a := ⟨w.heap.size, 0, none⟩) (by simp; omega) _).setCell (a := ⟨w.heap.size, 1, none⟩) (by simp; omega) _).setCell (a := ⟨w.heap.size, 2, none⟩) (by simp; omega) _).setCell (a := ⟨w.heap.size + 1, 0, none⟩) (by simp; omega) _).setCell (a := ⟨w.heap.size + 1, 1, none⟩) (by simp; omega) _).setCell (a := ⟨w.heap.size + 1, 2, none⟩) (by simp; omega) _).rd.drew
          · exact ((((((hR7.setCell (a := ⟨w.heap.size, 0, none⟩) (by simp) _).setCell (a := ⟨w.heap.size, 1, none⟩) (by simp) _).setCell (a := ⟨w.heap.size, 2, none⟩) (by simp) _).setCell (a := ⟨w.heap.size + 1, 0, none⟩) (by simp) _).setCell (a := ⟨w.heap.size + 1, 1, none⟩) (by simp) _).setCell (a := ⟨w.heap.size + 1, 2, none⟩) (by simp) _).rd.drew
          · exact (((((gz.setCell (by simp) _).setCell (by simp) _).setCell (by simp) _).setCell (by simp) _).setCell (by simp) _).setCell (by simp) _ |>.drew
set_option maxHeartbeats 8000000 in
set_option maxRecDepth 100000 in
theorem sUse_no1 {thm : Int} {sR pR sB pB : List UInt8} {oS oP : Option Tm} (h : ThmAt thm sR pR sB pB oS oP) {n : Int} (ho : oS = none) (w : World) (hm : GM w) : Calls Tryz.prog 8 #[.int .i64 thm, .int .i64 n] w (GotS w none) := by
  have hT := hide (fun w (hm : GM w) => sType_any h w hm)
  have hP := hide (fun w (hm : GM w) => sProof_any h w hm)
  have hN := hide (fun w => sNumeral_any n w)
  obtain ⟨kT, nT, ksT, hTk⟩ : ∃ k n ks, oS.getD (.mk 0 0 []) = .mk k n ks := by cases h : oS.getD (.mk 0 0 []); exact ⟨_, _, _, rfl⟩
  have hTb : oS.isSome = false := by rw [ho]; rfl
  obtain ⟨kP, nP, ksP, hPk⟩ : ∃ k n ks, oP.getD (.mk 0 0 []) = .mk k n ks := by cases h : oP.getD (.mk 0 0 []); exact ⟨_, _, _, rfl⟩
  obtain ⟨bP, hPb⟩ : ∃ b, oP.isSome = b := ⟨_, rfl⟩
  obtain ⟨kN, nN, ksN, hNk⟩ : ∃ k n1 ks, (numO n).getD (.mk 0 0 []) = .mk k n1 ks := by cases h : (numO n).getD (.mk 0 0 []); exact ⟨_, _, _, rfl⟩
  obtain ⟨bN, hNb⟩ : ∃ b, (numO n).isSome = b := ⟨_, rfl⟩
  replace hPk := hide hPk
  replace hPb := hide hPb
  replace hNk := hide hNk
  replace hNb := hide hNb
  replace hTk := hide hTk
  replace hTb := hide hTb
  have hm' := hide hm
  clear h hm
  go_enter Tryz.func8, Tryz.ntmps8
  go_wp2_with (first
    | (go_at_call 30; refine (hN.out _).mono ?_; rintro e w3 hgo; obtain ⟨A3, c3, rfl, hl3, hf3, hb3⟩ := gotP_at hgo hNk.out hNb.out; clear hgo; replace hT7 := (hT7.alloc (.cells #[.int .i64 kP, .int .i64 nP, .slice A2 ksP.length c2] 27)).keep hb3; replace hZ4 := (hZ4.alloc (.cells #[.int .i64 kP, .int .i64 nP, .slice A2 ksP.length c2] 27)).keep hb3; replace hZ5 := (hZ5.alloc (.cells #[.int .i64 kP, .int .i64 nP, .slice A2 ksP.length c2] 27)).keep hb3; replace hRs := (hRs.alloc (.cells #[.int .i64 kP, .int .i64 nP, .slice A2 ksP.length c2] 27)).below hb3; have s3 : w2.heap.size + 1 ≤ w3.heap.size := (by have := hb3.size; simpa using this); have g3 : Below w.heap.size w w3 := (g2.alloc g2.size _).trans (hb3.mono (by have := g2.size; simp; omega)); obtain ⟨t0, t1, t2⟩ := hT7.three; have l7 := hT7.lt; obtain ⟨d0, d1, d2⟩ := hZ4.three; have e0 := hZ4.frozen 0; have e1 := hZ4.frozen 1; have e2 := hZ4.frozen 2; obtain ⟨f0, f1, f2⟩ := hZ5.three; have i0 := hZ5.frozen 0; have i1 := hZ5.frozen 1; have i2 := hZ5.frozen 2; have lz5 := hZ5.lt; have lz4 := hZ4.lt)
    | (go_at_call 13; refine (hP.out _ ((hm'.out.keep g1).alloc _)).mono ?_; rintro e w2 hgo; obtain ⟨A2, c2, rfl, hl2, hf2, hb2⟩ := gotP_at hgo hPk.out hPb.out; clear hgo; have hT7 := (Blk.new_ w1 27 #[.int .i64 kT, .int .i64 nT, .slice A1 ksT.length c1] rfl).keep hb2; replace hZ4 := (hZ4.alloc (.cells #[.int .i64 kT, .int .i64 nT, .slice A1 ksT.length c1] 27)).keep hb2; replace hZ5 := (hZ5.alloc (.cells #[.int .i64 kT, .int .i64 nT, .slice A1 ksT.length c1] 27)).keep hb2; replace hRs := (hRs.alloc (.cells #[.int .i64 kT, .int .i64 nT, .slice A1 ksT.length c1] 27)).below hb2; have s2 : w1.heap.size + 1 ≤ w2.heap.size := (by have := hb2.size; simpa using this); have g2 : Below w.heap.size w w2 := (g1.alloc g1.size _).trans (hb2.mono (by have := g1.size; simp; omega)))
    | (go_at_call 29; refine (hT.out _ ((hm'.out.alloc _).alloc _)).mono ?_; rintro e w1 hgo; obtain ⟨A1, c1, rfl, hl1, hf1, hb1⟩ := gotP_at hgo hTk.out hTb.out; clear hgo; have hZ4 := ((Blk.new_ w 27 #[.int .i64 0, .int .i64 0, .slice none 0 0] rfl).alloc (.cells #[.int .i64 0, .int .i64 0, .slice none 0 0] 27)).keep hb1; have hZ5 : Blk w1 (w.heap.size + 1) #[.int .i64 0, .int .i64 0, .slice none 0 0] := (Blk.new_ _ 27 _ (by simp)).keep hb1; have s1 : w.heap.size + 1 + 1 ≤ w1.heap.size := (by have := hb1.size; simpa using this); have g1 : Below w.heap.size w w1 := (((Below.refl _ _).alloc (Nat.le_refl _) _).alloc (by simp) _).trans (hb1.mono (by simp; omega)); have hRs := hf1.rd))
  have hne : w.heap.size ≠ w.heap.size + 1 := by omega
  refine bodyPost_ret (v := .tuple #[.agg #[.int .i64 0, .int .i64 0, .slice none 0 0], .agg #[.int .i64 0, .int .i64 0, .slice none 0 0], .bool false]) (by simp [results, Tryz.results8, go_sem, d0, d1, d2, f0, f1, f2, lz4, lz5]) rfl ⟨0, 0, [], none, 0, 0, 0, [], none, 0, rfl, rfl, rfl, by simp, by simp, Rd.nil, Rd.nil, ?_⟩
  exact ((((((g3.setCell (by simp) _).setCell (by simp) _).setCell (by simp) _).setCell (by simp) _).setCell (by simp) _).setCell (by simp) _).alloc (by simp; have := g3.size; omega) _
set_option maxHeartbeats 8000000 in
set_option maxRecDepth 100000 in
theorem sUse_no2 {thm : Int} {sR pR sB pB : List UInt8} {oS oP : Option Tm} (h : ThmAt thm sR pR sB pB oS oP) {n : Int} (hn : ¬ (0 ≤ n ∧ n ≤ 20)) (ho : oS.isSome = true) (w : World) (hm : GM w) : Calls Tryz.prog 8 #[.int .i64 thm, .int .i64 n] w (GotS w none) := by
  have hT := hide (fun w (hm : GM w) => sType_any h w hm)
  have hP := hide (fun w (hm : GM w) => sProof_any h w hm)
  have hN := hide (fun w => sNumeral_any n w)
  obtain ⟨kT, nT, ksT, hTk⟩ : ∃ k n ks, oS.getD (.mk 0 0 []) = .mk k n ks := by cases h : oS.getD (.mk 0 0 []); exact ⟨_, _, _, rfl⟩
  have hTb := ho
  obtain ⟨kP, nP, ksP, hPk⟩ : ∃ k n ks, oP.getD (.mk 0 0 []) = .mk k n ks := by cases h : oP.getD (.mk 0 0 []); exact ⟨_, _, _, rfl⟩
  obtain ⟨bP, hPb⟩ : ∃ b, oP.isSome = b := ⟨_, rfl⟩
  obtain ⟨kN, nN, ksN, hNk⟩ : ∃ k n1 ks, (numO n).getD (.mk 0 0 []) = .mk k n1 ks := by cases h : (numO n).getD (.mk 0 0 []); exact ⟨_, _, _, rfl⟩
  have hNb : (numO n).isSome = false := by rw [numO, if_neg hn]; rfl
  replace hPk := hide hPk
  replace hPb := hide hPb
  replace hNk := hide hNk
  replace hNb := hide hNb
  replace hTk := hide hTk
  replace hTb := hide hTb
  have hm' := hide hm
  clear h hm
  go_enter Tryz.func8, Tryz.ntmps8
  go_wp2_with (first
    | (go_at_call 30; refine (hN.out _).mono ?_; rintro e w3 hgo; obtain ⟨A3, c3, rfl, hl3, hf3, hb3⟩ := gotP_at hgo hNk.out hNb.out; clear hgo; replace hT7 := (hT7.alloc (.cells #[.int .i64 kP, .int .i64 nP, .slice A2 ksP.length c2] 27)).keep hb3; replace hZ4 := (hZ4.alloc (.cells #[.int .i64 kP, .int .i64 nP, .slice A2 ksP.length c2] 27)).keep hb3; replace hZ5 := (hZ5.alloc (.cells #[.int .i64 kP, .int .i64 nP, .slice A2 ksP.length c2] 27)).keep hb3; replace hRs := (hRs.alloc (.cells #[.int .i64 kP, .int .i64 nP, .slice A2 ksP.length c2] 27)).below hb3; have s3 : w2.heap.size + 1 ≤ w3.heap.size := (by have := hb3.size; simpa using this); have g3 : Below w.heap.size w w3 := (g2.alloc g2.size _).trans (hb3.mono (by have := g2.size; simp; omega)); obtain ⟨t0, t1, t2⟩ := hT7.three; have l7 := hT7.lt; obtain ⟨d0, d1, d2⟩ := hZ4.three; have e0 := hZ4.frozen 0; have e1 := hZ4.frozen 1; have e2 := hZ4.frozen 2; obtain ⟨f0, f1, f2⟩ := hZ5.three; have i0 := hZ5.frozen 0; have i1 := hZ5.frozen 1; have i2 := hZ5.frozen 2; have lz5 := hZ5.lt; have lz4 := hZ4.lt)
    | (go_at_call 13; refine (hP.out _ ((hm'.out.keep g1).alloc _)).mono ?_; rintro e w2 hgo; obtain ⟨A2, c2, rfl, hl2, hf2, hb2⟩ := gotP_at hgo hPk.out hPb.out; clear hgo; have hT7 := (Blk.new_ w1 27 #[.int .i64 kT, .int .i64 nT, .slice A1 ksT.length c1] rfl).keep hb2; replace hZ4 := (hZ4.alloc (.cells #[.int .i64 kT, .int .i64 nT, .slice A1 ksT.length c1] 27)).keep hb2; replace hZ5 := (hZ5.alloc (.cells #[.int .i64 kT, .int .i64 nT, .slice A1 ksT.length c1] 27)).keep hb2; replace hRs := (hRs.alloc (.cells #[.int .i64 kT, .int .i64 nT, .slice A1 ksT.length c1] 27)).below hb2; have s2 : w1.heap.size + 1 ≤ w2.heap.size := (by have := hb2.size; simpa using this); have g2 : Below w.heap.size w w2 := (g1.alloc g1.size _).trans (hb2.mono (by have := g1.size; simp; omega)))
    | (go_at_call 29; refine (hT.out _ ((hm'.out.alloc _).alloc _)).mono ?_; rintro e w1 hgo; obtain ⟨A1, c1, rfl, hl1, hf1, hb1⟩ := gotP_at hgo hTk.out hTb.out; clear hgo; have hZ4 := ((Blk.new_ w 27 #[.int .i64 0, .int .i64 0, .slice none 0 0] rfl).alloc (.cells #[.int .i64 0, .int .i64 0, .slice none 0 0] 27)).keep hb1; have hZ5 : Blk w1 (w.heap.size + 1) #[.int .i64 0, .int .i64 0, .slice none 0 0] := (Blk.new_ _ 27 _ (by simp)).keep hb1; have s1 : w.heap.size + 1 + 1 ≤ w1.heap.size := (by have := hb1.size; simpa using this); have g1 : Below w.heap.size w w1 := (((Below.refl _ _).alloc (Nat.le_refl _) _).alloc (by simp) _).trans (hb1.mono (by simp; omega)); have hRs := hf1.rd))
  have hne : w.heap.size ≠ w.heap.size + 1 := by omega
  refine bodyPost_ret (v := .tuple #[.agg #[.int .i64 0, .int .i64 0, .slice none 0 0], .agg #[.int .i64 0, .int .i64 0, .slice none 0 0], .bool false]) (by simp [results, Tryz.results8, go_sem, d0, d1, d2, f0, f1, f2, lz4, lz5]) rfl ⟨0, 0, [], none, 0, 0, 0, [], none, 0, rfl, rfl, rfl, by simp, by simp, Rd.nil, Rd.nil, ?_⟩
  exact ((((((g3.setCell (by simp) _).setCell (by simp) _).setCell (by simp) _).setCell (by simp) _).setCell (by simp) _).setCell (by simp) _).alloc (by simp; have := g3.size; omega) _
set_option maxHeartbeats 8000000 in
set_option maxRecDepth 100000 in
theorem sUse_no3 {thm : Int} {sR pR sB pB : List UInt8} {oS oP : Option Tm} (h : ThmAt thm sR pR sB pB oS oP) {n : Int} {n0 : Int} {ks0 : List Tm} {b : Tm} (hn : 0 ≤ n ∧ n ≤ 20) (ho : oS = some (.mk 3 0 [.mk 10 n0 ks0, b])) (w : World) (hm : GM w) : Calls Tryz.prog 8 #[.int .i64 thm, .int .i64 n] w (GotS w none) := by
  have hT := hide (fun w (hm : GM w) => sType_any h w hm)
  have hP := hide (fun w (hm : GM w) => sProof_any h w hm)
  have hN := hide (fun w => sNumeral_any n w)
  have hTk : oS.getD (.mk 0 0 []) = .mk 3 0 [.mk 10 n0 ks0, b] := by rw [ho]; rfl
  have hTb : oS.isSome = true := by rw [ho]; rfl
  obtain ⟨kP, nP, ksP, hPk⟩ : ∃ k n ks, oP.getD (.mk 0 0 []) = .mk k n ks := by cases h : oP.getD (.mk 0 0 []); exact ⟨_, _, _, rfl⟩
  obtain ⟨bP, hPb⟩ : ∃ b, oP.isSome = b := ⟨_, rfl⟩
  obtain ⟨kN, nN, ksN, hNk⟩ : ∃ k n1 ks, (numO n).getD (.mk 0 0 []) = .mk k n1 ks := by cases h : (numO n).getD (.mk 0 0 []); exact ⟨_, _, _, rfl⟩
  have hNb : (numO n).isSome = true := by rw [numO, if_pos hn]; rfl
  replace hPk := hide hPk
  replace hPb := hide hPb
  replace hNk := hide hNk
  replace hNb := hide hNb
  replace hTk := hide hTk
  replace hTb := hide hTb
  have hm' := hide hm
  clear h hm
  go_enter Tryz.func8, Tryz.ntmps8
  go_wp2_with (first
    | (go_at_call 30; refine (hN.out _).mono ?_; rintro e w3 hgo; obtain ⟨A3, c3, rfl, hl3, hf3, hb3⟩ := gotP_at hgo hNk.out hNb.out; clear hgo; replace hT7 := (hT7.alloc (.cells #[.int .i64 kP, .int .i64 nP, .slice A2 ksP.length c2] 27)).keep hb3; replace hZ4 := (hZ4.alloc (.cells #[.int .i64 kP, .int .i64 nP, .slice A2 ksP.length c2] 27)).keep hb3; replace hZ5 := (hZ5.alloc (.cells #[.int .i64 kP, .int .i64 nP, .slice A2 ksP.length c2] 27)).keep hb3; replace hRs := (hRs.alloc (.cells #[.int .i64 kP, .int .i64 nP, .slice A2 ksP.length c2] 27)).below hb3; have s3 : w2.heap.size + 1 ≤ w3.heap.size := (by have := hb3.size; simpa using this); have g3 : Below w.heap.size w w3 := (g2.alloc g2.size _).trans (hb3.mono (by have := g2.size; simp; omega)); obtain ⟨t0, t1, t2⟩ := hT7.three; have l7 := hT7.lt; obtain ⟨d0, d1, d2⟩ := hZ4.three; have e0 := hZ4.frozen 0; have e1 := hZ4.frozen 1; have e2 := hZ4.frozen 2; obtain ⟨f0, f1, f2⟩ := hZ5.three; have i0 := hZ5.frozen 0; have i1 := hZ5.frozen 1; have i2 := hZ5.frozen 2; have lz5 := hZ5.lt; have lz4 := hZ4.lt; obtain ⟨b0, off0, k0', n0', ks0', A0', c0', hA0, hk0, i1, i2, i3, hl0', hr0'⟩ := hRs.at_ (j := 0) (by simp); injection hk0 with h1 h2 h3; subst h1 h2 h3 hA0; simp only [Nat.zero_mul, Nat.add_zero] at i1 i2 i3; have lb0 := World.block_lt_of_cell? _ _ i1)
    | (go_at_call 13; refine (hP.out _ ((hm'.out.keep g1).alloc _)).mono ?_; rintro e w2 hgo; obtain ⟨A2, c2, rfl, hl2, hf2, hb2⟩ := gotP_at hgo hPk.out hPb.out; clear hgo; have hT7 := (Blk.new_ w1 27 #[.int .i64 3, .int .i64 0, .slice A1 2 c1] rfl).keep hb2; replace hZ4 := (hZ4.alloc (.cells #[.int .i64 3, .int .i64 0, .slice A1 2 c1] 27)).keep hb2; replace hZ5 := (hZ5.alloc (.cells #[.int .i64 3, .int .i64 0, .slice A1 2 c1] 27)).keep hb2; replace hRs := (hRs.alloc (.cells #[.int .i64 3, .int .i64 0, .slice A1 2 c1] 27)).below hb2; have s2 : w1.heap.size + 1 ≤ w2.heap.size := (by have := hb2.size; simpa using this); have g2 : Below w.heap.size w w2 := (g1.alloc g1.size _).trans (hb2.mono (by have := g1.size; simp; omega)))
    | (go_at_call 29; refine (hT.out _ ((hm'.out.alloc _).alloc _)).mono ?_; rintro e w1 hgo; obtain ⟨A1, c1, rfl, hl1, hf1, hb1⟩ := gotP_at hgo hTk.out hTb.out; clear hgo; have hZ4 := ((Blk.new_ w 27 #[.int .i64 0, .int .i64 0, .slice none 0 0] rfl).alloc (.cells #[.int .i64 0, .int .i64 0, .slice none 0 0] 27)).keep hb1; have hZ5 : Blk w1 (w.heap.size + 1) #[.int .i64 0, .int .i64 0, .slice none 0 0] := (Blk.new_ _ 27 _ (by simp)).keep hb1; have s1 : w.heap.size + 1 + 1 ≤ w1.heap.size := (by have := hb1.size; simpa using this); have g1 : Below w.heap.size w w1 := (((Below.refl _ _).alloc (Nat.le_refl _) _).alloc (by simp) _).trans (hb1.mono (by simp; omega)); have hRs := hf1.rd))
  have hne : w.heap.size ≠ w.heap.size + 1 := by omega
  refine bodyPost_ret (v := .tuple #[.agg #[.int .i64 0, .int .i64 0, .slice none 0 0], .agg #[.int .i64 0, .int .i64 0, .slice none 0 0], .bool false]) (by simp [results, Tryz.results8, go_sem, d0, d1, d2, f0, f1, f2, lz4, lz5]) rfl ⟨0, 0, [], none, 0, 0, 0, [], none, 0, rfl, rfl, rfl, by simp, by simp, Rd.nil, Rd.nil, ?_⟩
  exact ((((((g3.setCell (by simp) _).setCell (by simp) _).setCell (by simp) _).setCell (by simp) _).setCell (by simp) _).setCell (by simp) _).alloc (by simp; have := g3.size; omega) _
theorem sUse_any {thm : Int} {sR pR sB pB : List UInt8} {oS oP : Option Tm} (h : ThmAt thm sR pR sB pB oS oP) {n : Int} {r : Option (Tm × Tm)} (hu : UseAt oS oP n r) (w : World) (hm : GM w) : Calls Tryz.prog 8 #[.int .i64 thm, .int .i64 n] w (GotS w r) := by
  rcases hu with ⟨s, p, m, pk, pn, pks, kb, nb, kbs, rk, rn, rks, rfl, rfl, rfl, hu, rfl⟩ | ⟨hno, rfl⟩
  · exact sUse_yes h hu w hm
  · rcases hno with ho | ⟨hn, b, ho⟩ | ⟨n0, ks0, b, ho⟩
    · exact sUse_no1 h ho w hm
    · exact sUse_no2 h hn (by rw [ho]; rfl) w hm
    · by_cases hn : 0 ≤ n ∧ n ≤ 20
      · exact sUse_no3 h hn ho w hm
      · exact sUse_no2 h hn (by rw [ho]; rfl) w hm
end Go.Proofs.YthgmofdfecioaaaGreatDoor
