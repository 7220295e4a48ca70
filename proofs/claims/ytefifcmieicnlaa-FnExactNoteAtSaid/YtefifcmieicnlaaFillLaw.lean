/-
  The two answers of FillTerm are one. No condition.
-/
import Derived.Test.YtefifcmieicnlaaSFillT
namespace Go.Proofs.Ytefifcmieicnlaa
open Go.RowKit
set_option linter.unusedSimpArgs false
set_option linter.unusedVariables false

theorem shape_pos {q : Nat} {k n : Int} {ks : List Tm} (h : shape q (.mk k n ks) = true) : ∃ q', q = q' + 1 ∧ arity k = (ks.length : Int) ∧ 0 ≤ n ∧ n ≤ mostN k ∧ ∀ t, t ∈ ks → shape q' t = true := by
  cases q with
  | zero => simp [shape] at h
  | succ q => exact ⟨q, rfl, (shape_split q k n ks).1 h⟩
theorem var_nil {ks : List Tm} (h : arity 1 = (ks.length : Int)) : ks = [] := by
  have h0 : arity 1 = 0 := rfl
  rw [h0] at h
  exact List.eq_nil_of_length_eq_zero (by omega)

theorem shS_chg (by_ cut : Int) (t : Tm) : ∀ (q : Nat) (e : Int), shape q t = true → chg (shF by_ cut) e t = shS by_ (cut + e) t := by
  refine Tm.rec (motive_1 := fun t => ∀ (q : Nat) (e : Int), shape q t = true → chg (shF by_ cut) e t = shS by_ (cut + e) t)
    (motive_2 := fun ts => ∀ (q : Nat) (k e : Int) (i : Nat), (∀ t, t ∈ ts → shape q t = true) → chgs (shF by_ cut) k e i ts = shSL by_ k (cut + e) i ts) ?_ ?_ ?_ t
  · intro k n ks ih q e h
    obtain ⟨q', rfl, ha, h0, h1, hk⟩ := shape_pos h
    rw [chg, shS]
    by_cases h1 : k = 1
    · subst h1
      have := var_nil ha
      subst this
      rw [if_pos rfl, shF, shSL]
      congr 1
      by_cases hc : cut ≤ n - e
      · rw [if_pos hc, if_pos ⟨rfl, by omega⟩]
      · rw [if_neg hc, if_neg (by rintro ⟨-, h⟩; omega)]
    · rw [if_neg h1, if_neg (by rintro ⟨h, -⟩; exact h1 h), ih q' k e 0 hk]
  · intro q k e i _; rfl
  · intro t ts h1 h2 q k e i hk
    rw [chgs, shSL, h1 q _ (hk t List.mem_cons_self), h2 q k e (i + 1) (fun t ht => hk t (List.mem_cons_of_mem _ ht)), show cut + (e + under k i) = cut + e + under k i by omega]

theorem shOk_of_shape (by_ cut : Int) (hb : 0 ≤ by_) (t : Tm) : ∀ (q p : Nat) (e : Int), shape q t = true → shape p (shS by_ (cut + e) t) = true → chgOk (shOk by_ cut) e t = true := by
  refine Tm.rec (motive_1 := fun t => ∀ (q p : Nat) (e : Int), shape q t = true → shape p (shS by_ (cut + e) t) = true → chgOk (shOk by_ cut) e t = true)
    (motive_2 := fun ts => ∀ (q p : Nat) (k e : Int) (i : Nat), (∀ t, t ∈ ts → shape q t = true) → (∀ t, t ∈ shSL by_ k (cut + e) i ts → shape p t = true) → chgsOk (shOk by_ cut) k e i ts = true) ?_ ?_ ?_ t
  · intro k n ks ih q p e h hp
    obtain ⟨q', rfl, ha, h0, h1, hk⟩ := shape_pos h
    rw [shS] at hp
    obtain ⟨p', rfl, hpa, hp0, hp1, hpk⟩ := shape_pos hp
    rw [chgOk]
    by_cases h1 : k = 1
    · subst h1
      have h20 : mostN 1 = 20 := rfl
      rw [if_pos rfl, shOk]
      by_cases hc : cut ≤ n - e
      · rw [if_pos ⟨rfl, by omega⟩] at hp1
        rw [if_pos hc, decide_eq_true (by omega), decide_eq_true (by omega)]; rfl
      · rw [if_neg hc]
    · rw [if_neg h1]; exact ih q' p' k e 0 hk hpk
  · intro q p k e i _ _; rfl
  · intro t ts h1 h2 q p k e i hk hp
    rw [shSL] at hp
    rw [chgsOk, h1 q p _ (hk t List.mem_cons_self) (by rw [show cut + (e + under k i) = cut + e + under k i by omega]; exact hp _ List.mem_cons_self), h2 q p k e (i + 1) (fun t ht => hk t (List.mem_cons_of_mem _ ht)) (fun t ht => hp t (List.mem_cons_of_mem _ ht))]; rfl

theorem shape_up {p q : Nat} (h : p ≤ q) (t : Tm) : shape p t = true → shape q t = true := by
  induction p generalizing q t with
  | zero => intro hp; simp [shape] at hp
  | succ p ih =>
    intro hp
    obtain ⟨k, n, ks⟩ := t
    obtain ⟨q', rfl⟩ : ∃ q', q = q' + 1 := ⟨q - 1, by omega⟩
    obtain ⟨a, b, c, d⟩ := (shape_split p k n ks).1 hp
    exact (shape_split q' k n ks).2 ⟨a, b, c, fun t ht => ih (by omega) t (d t ht)⟩

/-- what fill lays in a variable's place is the reference's, where it goes well -/
theorem shiftI_some {d : Int} {a : Tm} (hs : shape 30 a = true) (h : (shiftI d 0 a).isSome = true) : (shiftI d 0 a).getD (.mk 0 0 []) = shS d 0 a := by
  unfold shiftI at h ⊢
  split
  · rename_i h1
    rw [if_pos h1] at h
    split
    · rw [Option.getD_some, shS_chg d 0 a 30 0 hs, Int.zero_add]
    · rename_i h2; rw [if_neg h2] at h; cases h
  · rename_i h1; rw [if_neg h1] at h; cases h
theorem shiftI_ok {d : Int} {a : Tm} (hd : 0 ≤ d) (hs : shape 30 a = true) (h : validT (shS d 0 a) = true) : (shiftI d 0 a).isSome = true := by
  have hsh : shape 30 (shS d 0 a) = true := by simp only [validT, Bool.and_eq_true] at h; exact h.1
  have h1 : chgOk (shOk d 0) 0 a = true := shOk_of_shape d 0 hd a 30 30 0 hs (by rw [Int.zero_add]; exact hsh)
  unfold shiftI
  rw [if_pos h1, shS_chg d 0 a 30 0 hs, Int.zero_add, if_pos h]; rfl

section
variable {args : List Tm} (hsa : ∀ t, t ∈ args → shape 30 t = true)
include hsa
theorem filled (t : Tm) : ∀ (q : Nat) (d : Int), 0 ≤ d → shape q t = true → chgOk (filOk args) d t = true → chg (filF args) d t = flS args d t := by
  refine Tm.rec (motive_1 := fun t => ∀ (q : Nat) (d : Int), 0 ≤ d → shape q t = true → chgOk (filOk args) d t = true → chg (filF args) d t = flS args d t)
    (motive_2 := fun ts => ∀ (q : Nat) (k d : Int) (i : Nat), 0 ≤ d → (∀ t, t ∈ ts → shape q t = true) → chgsOk (filOk args) k d i ts = true → chgs (filF args) k d i ts = flSL args k d i ts) ?_ ?_ ?_ t
  · intro k n ks ih q d hd h hok
    obtain ⟨q', rfl, ha, h0, h1, hk⟩ := shape_pos h
    rw [chgOk] at hok
    rw [chg, flS]
    by_cases h1 : k = 1
    · subst h1
      have := var_nil ha
      subst this
      rw [if_pos rfl] at hok ⊢
      unfold filOk at hok
      unfold filF
      by_cases h2 : n - d < 0
      · rw [if_pos h2, if_neg (by rintro ⟨-, h⟩; omega), flSL]
      · rw [if_neg h2] at hok ⊢
        rw [if_pos (show (1 : Int) = 1 ∧ d ≤ n from ⟨rfl, by omega⟩)]
        by_cases h3 : (args.length : Int) ≤ n - d
        · rw [if_pos h3, if_neg (show ¬ n < d + (args.length : Int) by omega)]
        · rw [if_neg h3] at hok ⊢
          rw [if_pos (show n < d + (args.length : Int) by omega)]
          have hlt : (n - d).toNat < args.length := by omega
          have hsx : shape 30 (args.getD (n - d).toNat default) = true := by
            rw [List.getD_eq_getElem?_getD, List.getElem?_eq_getElem hlt, Option.getD_some]; exact hsa _ (List.getElem_mem hlt)
          exact shiftI_some hsx hok
    · rw [if_neg h1] at hok ⊢
      rw [if_neg (by rintro ⟨h, -⟩; exact h1 h), ih q' k d 0 hd hk hok]
  · intro q k d i _ _ _; rfl
  · intro t ts h1 h2 q k d i hd hk hok
    rw [chgsOk, Bool.and_eq_true] at hok
    rw [chgs, flSL, h1 q _ (by have := under_le k i; omega) (hk t List.mem_cons_self) hok.1, h2 q k d (i + 1) hd (fun t ht => hk t (List.mem_cons_of_mem _ ht)) hok.2]

theorem fill_ok (t : Tm) : ∀ (q p : Nat) (d : Int), 0 ≤ d → p ≤ 30 → shape q t = true → shape p (flS args d t) = true → (flS args d t).size ≤ 400 → chgOk (filOk args) d t = true := by
  refine Tm.rec (motive_1 := fun t => ∀ (q p : Nat) (d : Int), 0 ≤ d → p ≤ 30 → shape q t = true → shape p (flS args d t) = true → (flS args d t).size ≤ 400 → chgOk (filOk args) d t = true)
    (motive_2 := fun ts => ∀ (q p : Nat) (k d : Int) (i : Nat), 0 ≤ d → p ≤ 30 → (∀ t, t ∈ ts → shape q t = true) → (∀ t, t ∈ flSL args k d i ts → shape p t = true) → sizes (flSL args k d i ts) ≤ 400 → chgsOk (filOk args) k d i ts = true) ?_ ?_ ?_ t
  · intro k n ks ih q p d hd hp h hs hz
    obtain ⟨q', rfl, ha, h0, h1, hk⟩ := shape_pos h
    rw [chgOk]
    rw [flS] at hs hz
    by_cases h1 : k = 1
    · subst h1
      rw [if_pos rfl]
      unfold filOk
      by_cases h2 : n - d < 0
      · rw [if_pos h2]
      · rw [if_neg h2]
        by_cases h3 : (args.length : Int) ≤ n - d
        · rw [if_pos h3]
        · rw [if_neg h3]
          rw [if_pos (show (1 : Int) = 1 ∧ d ≤ n from ⟨rfl, by omega⟩), if_pos (show n < d + (args.length : Int) by omega)] at hs hz
          have hlt : (n - d).toNat < args.length := by omega
          have hsx : shape 30 (args.getD (n - d).toNat default) = true := by
            rw [List.getD_eq_getElem?_getD, List.getElem?_eq_getElem hlt, Option.getD_some]; exact hsa _ (List.getElem_mem hlt)
          refine shiftI_ok hd hsx ?_
          rw [validT, shape_up hp _ hs, decide_eq_true hz]; rfl
    · rw [if_neg h1]
      have hn : ¬ (k = 1 ∧ d ≤ n) := by rintro ⟨h, -⟩; exact h1 h
      rw [if_neg hn] at hs hz
      obtain ⟨p', rfl, hpa, hp0, hp1, hpk⟩ := shape_pos hs
      rw [Tm.size] at hz
      exact ih q' p' k d 0 hd (by omega) hk hpk (by omega)
  · intro q p k d i _ _ _ _ _; rfl
  · intro t ts h1 h2 q p k d i hd hp hk hs hz
    rw [flSL] at hs hz
    rw [sizes] at hz
    rw [chgsOk, h1 q p _ (by have := under_le k i; omega) hp (hk t List.mem_cons_self) (hs _ List.mem_cons_self) (by omega), h2 q p k d (i + 1) hd hp (fun t ht => hk t (List.mem_cons_of_mem _ ht)) (fun t ht => hs t (List.mem_cons_of_mem _ ht)) (by omega)]; rfl
end

theorem fill_same (t : Tm) (args : List Tm) : fillTS t args = fillTI t args := by
  unfold fillTS fillTI
  by_cases hv : validT t = true
  · by_cases hl : args.length ≤ 6
    · by_cases ha : (args.any fun a => !validT a) = false
      · rw [if_pos (⟨hv, hl, ha⟩ : _ ∧ _ ∧ _)]
        have hval : ∀ t, t ∈ args → shape 30 t = true := fun t ht => by
          have : validT t = true := by simpa using List.any_eq_false.1 ha t ht
          simp only [validT, Bool.and_eq_true] at this
          exact this.1
        have hs : shape 30 t = true := by simp only [validT, Bool.and_eq_true] at hv; exact hv.1
        unfold fillI
        by_cases hok : chgOk (filOk args) 0 t = true
        · rw [if_pos hok, filled hval t 30 0 (Int.le_refl 0) hs hok]
          by_cases h4 : validT (flS args 0 t) = true
          · rw [if_pos ⟨hv, hl, ha, h4⟩, if_pos h4]
          · rw [if_neg (by rintro ⟨-, -, -, h⟩; exact h4 h), if_neg h4]
        · rw [if_neg hok, if_neg]
          rintro ⟨-, -, -, h4⟩
          simp only [validT, Bool.and_eq_true, decide_eq_true_eq] at h4
          exact hok (fill_ok hval t 30 30 0 (Int.le_refl 0) (Nat.le_refl _) hs h4.1 h4.2)
      · rw [if_neg (by rintro ⟨-, -, h, -⟩; exact ha h), if_neg (by rintro ⟨-, -, h⟩; exact ha h)]
    · rw [if_neg (by rintro ⟨-, h, -⟩; exact hl h), if_neg (by rintro ⟨-, h, -⟩; exact hl h)]
  · rw [if_neg (by rintro ⟨h, -⟩; exact hv h), if_neg (by rintro ⟨h, -⟩; exact hv h)]
end Go.Proofs.Ytefifcmieicnlaa
