/-
  Contracts of the functions that the law reaches, and plain lemmas. No condition.
-/
import Derived.Test.YtodkpgkefjegnaaGreatDoorK5
import Derived.Test.YtodkpgkefjegnaaGreatDoorK7
import Derived.Test.YtodkpgkefjegnaaGreatDoorK8
import Derived.Test.YtodkpgkefjegnaaGreatDoorK9
namespace Go.Proofs.YtodkpgkefjegnaaGreatDoor
set_option linter.unusedSimpArgs false
set_option linter.unusedVariables false
open Go.RowKit
mutual
/-- the way to the first redex from outside -/
def outP : Tm → Option (List Int)
  | .mk k n ks => if rdx k ks = 0 then outPs 0 ks else some []
def outPs : Int → List Tm → Option (List Int)
  | _, [] => none
  | i, t :: ts => match outP t with | some p => some (i :: p) | none => outPs (i + 1) ts
end
/-- a term with another part at the end of a way -/
def putN : Tm → List Int → Tm → Tm
  | _, [], u => u
  | .mk k n ks, i :: is, u => .mk k n (ks.set i.toNat (putN (ks.getD i.toNat default) is u))
def vO (t : Tm) : Option Tm := if validT t = true then some t else none
def kidT (ks : List Tm) (i : Nat) : Tm := ks.getD i default
/-- the contractum, if it is valid -/
def ctrI : Tm → Option Tm
  | .mk k n ks =>
    if rdx k ks = 1 then substI 0 (kidT ks 1) (kidT (kidT ks 0).ks 1)
    else if rdx k ks = 2 then vO (kidT ks 1)
    else if rdx k ks = 3 then vO (.mk 5 0 [.mk 5 0 [kidT ks 2, kidT (kidT ks 3).ks 0], .mk 9 0 [kidT ks 0, kidT ks 1, kidT ks 2, kidT (kidT ks 3).ks 0]])
    else if rdx k ks = 4 then vO (kidT ks 2)
    else if rdx k ks = 5 then vO (kidT (kidT ks 0).ks 1)
    else if rdx k ks = 6 then vO (kidT (kidT ks 0).ks 2)
    else none
/-- a term whose part at a way is contracted, if it is valid -/
def ctdI (t : Tm) (p : List Int) : Option Tm :=
  match atT t p with
  | none => none
  | some u => match ctrI u with | none => none | some v => vO (putN t p v)
/-- steps at the places that are found, and the code -/
def redI (find : Tm → Option (List Int)) : Nat → Tm → Option Tm × Int
  | fuel, t => match find t with
    | none => (some t, 0)
    | some p => match fuel with
      | 0 => (none, 1)
      | fuel + 1 => match ctdI t p with
        | none => (none, 2)
        | some t' => redI find fuel t'
/-- a way to a redex -/
def Way (find : Tm → Option (List Int)) : Prop := ∀ t p, find t = some p → ∃ k n ks, atT t p = some (.mk k n ks) ∧ rdx k ks ≠ 0
theorem atT_cons {k n : Int} {ks : List Tm} {j : Nat} {p : List Int} (hj : j < ks.length) : atT (.mk k n ks) ((j : Int) :: p) = atT ks[j] p := by
  rw [atT, if_pos ⟨by omega, by simpa [Tm.kids] using hj⟩]
  simp [Tm.kids, List.getD, List.getElem?_eq_getElem hj]
theorem outP_way : Way outP := by
  have h : (∀ t p, outP t = some p → ∃ k n ks, atT t p = some (.mk k n ks) ∧ rdx k ks ≠ 0) ∧
      (∀ (ts : List Tm) (i : Nat) p, outPs i ts = some p → ∃ (j : Nat) (q : List Int) (h : j < ts.length), p = ((i + j : Nat) : Int) :: q ∧ ∃ k n ks, atT ts[j] q = some (.mk k n ks) ∧ rdx k ks ≠ 0) := by
    refine Tm.ind2 (fun k n ks ih p hp => ?_) (fun i p hp => ?_) (fun t ts h1 h2 i p hp => ?_)
    · rw [outP] at hp
      split at hp
      · obtain ⟨j, q, hj, rfl, h⟩ := ih 0 p hp
        rw [Nat.zero_add, atT_cons hj]
        exact h
      · rename_i hr
        injection hp with hp
        subst hp
        exact ⟨k, n, ks, rfl, hr⟩
    · rw [outPs] at hp; cases hp
    · rw [outPs] at hp
      cases h : outP t with
      | some q =>
        rw [h] at hp
        injection hp with hp
        subst hp
        exact ⟨0, q, by simp, by simp, h1 q h⟩
      | none =>
        rw [h] at hp
        obtain ⟨j, q, hj, rfl, h3⟩ := h2 (i + 1) p (by simpa using hp)
        refine ⟨j + 1, q, by simp; omega, by congr 1; omega, ?_⟩
        simpa using h3
  exact h.1
theorem vO_valid {t u : Tm} (h : vO t = some u) : validT u = true := by
  unfold vO at h
  split at h
  · injection h with h; subst h; assumption
  · cases h
theorem substI_valid {x : Int} {u t v : Tm} (h : substI x u t = some v) : validT v = true := by
  unfold substI at h
  split at h
  · split at h
    · injection h with h; subst h; assumption
    · cases h
  · cases h
theorem ctrI_valid {t u : Tm} (h : ctrI t = some u) : validT u = true := by
  obtain ⟨k, n, ks⟩ := t
  rw [ctrI] at h
  split at h
  · exact substI_valid h
  repeat (split at h; · exact vO_valid h)
  cases h
theorem ctdI_valid {t u : Tm} {p : List Int} (h : ctdI t p = some u) : validT u = true := by
  unfold ctdI at h
  split at h
  · cases h
  · split at h
    · cases h
    · exact vO_valid h
theorem redI_valid {find : Tm → Option (List Int)} : ∀ (fuel : Nat) (t u : Tm) (c : Int), validT t = true → redI find fuel t = (some u, c) → validT u = true
  | fuel, t, u, c, hv, h => by
    rw [redI] at h
    split at h
    · injection h with h1 h2; injection h1 with h1; subst h1; exact hv
    · split at h
      · cases h
      · split at h
        · cases h
        · exact redI_valid _ _ _ _ (ctdI_valid (by assumption)) h
open Go.RowKit
section
variable {u : Tm} (hsu : shape 30 u = true)
include hsu
theorem subd (t : Tm) : ∀ (q : Nat) (d : Int), 0 ≤ d → shape q t = true → chgOk (sbOk 0 u) d t = true → chg (sbF 0 u) d t = sbS u d d t := by
  refine Tm.rec (motive_1 := fun t => ∀ (q : Nat) (d : Int), 0 ≤ d → shape q t = true → chgOk (sbOk 0 u) d t = true → chg (sbF 0 u) d t = sbS u d d t)
    (motive_2 := fun ts => ∀ (q : Nat) (k d : Int) (i : Nat), 0 ≤ d → (∀ t, t ∈ ts → shape q t = true) → chgsOk (sbOk 0 u) k d i ts = true → chgs (sbF 0 u) k d i ts = sbSL u k d d i ts) ?_ ?_ ?_ t
  · intro k n ks ih q d hd h hok
    obtain ⟨q', rfl, ha, h0, h1, hk⟩ := shape_pos h
    rw [chgOk] at hok
    rw [chg, sbS]
    by_cases h1 : k = 1
    · subst h1
      have := var_nil ha
      subst this
      rw [if_pos rfl] at hok ⊢
      unfold sbOk at hok
      unfold sbF
      by_cases h2 : n = d
      · rw [if_pos (show n - d = 0 by omega)] at hok ⊢
        rw [if_pos (show (1 : Int) = 1 ∧ n = d from ⟨rfl, h2⟩)]
        exact shiftI_some hsu hok
      · rw [if_neg (show ¬ n - d = 0 by omega), if_neg (show ¬ ((1 : Int) = 1 ∧ n = d) from fun h => h2 h.2)]
        by_cases h3 : d < n
        · rw [if_pos (show 0 < n - d by omega), if_pos (show (1 : Int) = 1 ∧ d < n from ⟨rfl, h3⟩)]; rfl
        · rw [if_neg (show ¬ 0 < n - d by omega), if_neg (show ¬ ((1 : Int) = 1 ∧ d < n) from fun h => h3 h.2)]; rfl
    · rw [if_neg h1] at hok ⊢
      rw [if_neg (by rintro ⟨h, -⟩; exact h1 h), if_neg (by rintro ⟨h, -⟩; exact h1 h), ih q' k d 0 hd hk hok]
  · intro q k d i _ _ _; rfl
  · intro t ts h1 h2 q k d i hd hk hok
    rw [chgsOk, Bool.and_eq_true] at hok
    rw [chgs, sbSL, h1 q _ (by have := under_le k i; omega) (hk t List.mem_cons_self) hok.1, h2 q k d (i + 1) hd (fun t ht => hk t (List.mem_cons_of_mem _ ht)) hok.2]
theorem subd_ok (t : Tm) : ∀ (q p : Nat) (d : Int), 0 ≤ d → p ≤ 30 → shape q t = true → shape p (sbS u d d t) = true → (sbS u d d t).size ≤ 400 → chgOk (sbOk 0 u) d t = true := by
  refine Tm.rec (motive_1 := fun t => ∀ (q p : Nat) (d : Int), 0 ≤ d → p ≤ 30 → shape q t = true → shape p (sbS u d d t) = true → (sbS u d d t).size ≤ 400 → chgOk (sbOk 0 u) d t = true)
    (motive_2 := fun ts => ∀ (q p : Nat) (k d : Int) (i : Nat), 0 ≤ d → p ≤ 30 → (∀ t, t ∈ ts → shape q t = true) → (∀ t, t ∈ sbSL u k d d i ts → shape p t = true) → sizes (sbSL u k d d i ts) ≤ 400 → chgsOk (sbOk 0 u) k d i ts = true) ?_ ?_ ?_ t
  · intro k n ks ih q p d hd hp h hs hz
    obtain ⟨q', rfl, ha, h0, h1, hk⟩ := shape_pos h
    rw [chgOk]
    rw [sbS] at hs hz
    by_cases h1 : k = 1
    · subst h1
      rw [if_pos rfl]
      unfold sbOk
      by_cases h2 : n = d
      · rw [if_pos (show n - d = 0 by omega)]
        rw [if_pos (show (1 : Int) = 1 ∧ n = d from ⟨rfl, h2⟩)] at hs hz
        refine shiftI_ok hd hsu ?_
        rw [validT, shape_up hp _ hs, decide_eq_true hz]; rfl
      · rw [if_neg (show ¬ n - d = 0 by omega)]
    · rw [if_neg h1]
      have hn : ¬ (k = 1 ∧ n = d) := by rintro ⟨h, -⟩; exact h1 h
      rw [if_neg hn] at hs hz
      obtain ⟨p', rfl, hpa, hp0, hp1, hpk⟩ := shape_pos hs
      rw [Tm.size] at hz
      exact ih q' p' k d 0 hd (by omega) hk hpk (by omega)
  · intro q p k d i _ _ _ _ _; rfl
  · intro t ts h1 h2 q p k d i hd hp hk hs hz
    rw [sbSL] at hs hz
    rw [sizes] at hz
    rw [chgsOk, h1 q p _ (by have := under_le k i; omega) hp (hk t List.mem_cons_self) (hs _ List.mem_cons_self) (by omega), h2 q p k d (i + 1) hd hp (fun t ht => hk t (List.mem_cons_of_mem _ ht)) (fun t ht => hs t (List.mem_cons_of_mem _ ht)) (by omega)]; rfl
end
theorem validT_shape30 {t : Tm} (h : validT t = true) : shape 30 t = true := by simp only [validT, Bool.and_eq_true] at h; exact h.1
/-- substitution: the program's answer is the reference's, if that is valid -/
theorem substI_sbS {u t : Tm} (hu : validT u = true) (ht : validT t = true) : substI 0 u t = vO (sbS u 0 0 t) := by
  have hsu := validT_shape30 hu
  unfold substI vO
  by_cases hv : validT (sbS u 0 0 t) = true
  · have h2 : (sbS u 0 0 t).size ≤ 400 := by simp only [validT, Bool.and_eq_true, decide_eq_true_eq] at hv; exact hv.2
    have hok := subd_ok hsu t 30 30 0 (Int.le_refl _) (Nat.le_refl _) (validT_shape30 ht) (validT_shape30 hv) h2
    rw [if_pos hok, subd hsu t 30 0 (Int.le_refl _) (validT_shape30 ht) hok, if_pos hv]
  · rw [if_neg hv]
    by_cases hok : chgOk (sbOk 0 u) 0 t = true
    · rw [if_pos hok, subd hsu t 30 0 (Int.le_refl _) (validT_shape30 ht) hok, if_neg hv]
    · rw [if_neg hok]
/-- the contractum -/
def ctrS : Tm → Tm
  | .mk k n ks =>
    if rdx k ks = 1 then sbS (kidT ks 1) 0 0 (kidT (kidT ks 0).ks 1)
    else if rdx k ks = 2 then kidT ks 1
    else if rdx k ks = 3 then .mk 5 0 [.mk 5 0 [kidT ks 2, kidT (kidT ks 3).ks 0], .mk 9 0 [kidT ks 0, kidT ks 1, kidT ks 2, kidT (kidT ks 3).ks 0]]
    else if rdx k ks = 4 then kidT ks 2
    else if rdx k ks = 5 then kidT (kidT ks 0).ks 1
    else kidT (kidT ks 0).ks 2
theorem kidT_mem {ks : List Tm} {i : Nat} (h : i < ks.length) : kidT ks i ∈ ks := by
  rw [kidT, List.getD_eq_getElem?_getD, List.getElem?_eq_getElem h]; exact List.getElem_mem h
theorem validT_len2 {k n : Int} {ks : List Tm} (h : validT (.mk k n ks) = true) : arity k = (ks.length : Int) := by
  obtain ⟨q, _, ha, _, _, _⟩ := shape_pos (validT_shape30 h)
  exact ha
theorem validT_kidT {k n : Int} {ks : List Tm} {i : Nat} (h : validT (.mk k n ks) = true) (hi : i < ks.length) : validT (kidT ks i) = true := validT_kid h (kidT_mem hi)
theorem rdx_le (k : Int) (ks : List Tm) : 0 ≤ rdx k ks ∧ rdx k ks ≤ 6 := by unfold rdx; repeat' split <;> omega
theorem rdx_one {k : Int} {ks : List Tm} (h : rdx k ks = 1) : k = 5 ∧ kat ks 0 = 4 := by
  unfold rdx at h
  repeat' split at h
  all_goals first | (exact absurd h (by decide)) | (constructor <;> assumption)
theorem kat_kidT (ks : List Tm) (i : Nat) (h : i < ks.length) : kat ks i = (kidT ks i).k := by
  rw [kidT, List.getD_eq_getElem?_getD, List.getElem?_eq_getElem h]; simp [kat, h]
theorem ctrI_ctrS {k n : Int} {ks : List Tm} (hv : validT (.mk k n ks) = true) (hr : rdx k ks ≠ 0) : ctrI (.mk k n ks) = vO (ctrS (.mk k n ks)) := by
  have hle := rdx_le k ks
  rw [ctrI, ctrS]
  by_cases h1 : rdx k ks = 1
  · rw [if_pos h1, if_pos h1]
    obtain ⟨rfl, h4⟩ := rdx_one h1
    have ha : arity 5 = (ks.length : Int) := validT_len2 hv
    have hl : ks.length = 2 := by have h5 : arity 5 = 2 := rfl; omega
    have hv0 := validT_kidT (i := 0) hv (by omega)
    have hv1 := validT_kidT (i := 1) hv (by omega)
    rw [kat_kidT ks 0 (by omega)] at h4
    generalize kidT ks 0 = t0 at hv0 h4
    obtain ⟨k0, n0, ks0⟩ := t0
    have h4 : k0 = 4 := h4
    subst h4
    have ha0 : arity 4 = (ks0.length : Int) := validT_len2 hv0
    have hl0 : ks0.length = 2 := by have h5 : arity 4 = 2 := rfl; omega
    exact substI_sbS hv1 (validT_kidT (i := 1) hv0 (show 1 < ks0.length by omega))
  · rw [if_neg h1, if_neg h1]
    by_cases h2 : rdx k ks = 2
    · rw [if_pos h2, if_pos h2]
    rw [if_neg h2, if_neg h2]
    by_cases h3 : rdx k ks = 3
    · rw [if_pos h3, if_pos h3]
    rw [if_neg h3, if_neg h3]
    by_cases h4 : rdx k ks = 4
    · rw [if_pos h4, if_pos h4]
    rw [if_neg h4, if_neg h4]
    by_cases h5 : rdx k ks = 5
    · rw [if_pos h5, if_pos h5]
    rw [if_neg h5, if_neg h5, if_pos (by omega)]
mutual
/-- a step at the first redex from outside -/
def stepS : Tm → Option Tm
  | .mk k n ks => if rdx k ks = 0 then (stepSL ks).map (Tm.mk k n) else some (ctrS (.mk k n ks))
def stepSL : List Tm → Option (List Tm)
  | [] => none
  | t :: ts => match stepS t with | some u => some (u :: ts) | none => (stepSL ts).map (t :: ·)
end
/-- steps, and the code -/
def normS : Nat → Tm → Option Tm × Int
  | fuel, t => match stepS t with
    | none => (some t, 0)
    | some t' => match fuel with
      | 0 => (none, 1)
      | fuel + 1 => if validT t' = true then normS fuel t' else (none, 2)
theorem putN_cons {k n : Int} {ks : List Tm} {j : Nat} {p : List Int} {u : Tm} (hj : j < ks.length) : putN (.mk k n ks) ((j : Int) :: p) u = .mk k n (ks.set j (putN ks[j] p u)) := by
  rw [putN]; simp [List.getD, List.getElem?_eq_getElem hj]
theorem out_step : (∀ t : Tm, (outP t = none → stepS t = none) ∧ ∀ p, outP t = some p → ∃ k n ks, atT t p = some (.mk k n ks) ∧ rdx k ks ≠ 0 ∧ stepS t = some (putN t p (ctrS (.mk k n ks)))) ∧
    (∀ (ts : List Tm) (i : Nat), (outPs i ts = none → stepSL ts = none) ∧ ∀ p, outPs i ts = some p → ∃ (j : Nat) (q : List Int) (h : j < ts.length), p = ((i + j : Nat) : Int) :: q ∧ ∃ k n ks, atT ts[j] q = some (.mk k n ks) ∧ rdx k ks ≠ 0 ∧ stepSL ts = some (ts.set j (putN ts[j] q (ctrS (.mk k n ks))))) := by
  refine Tm.ind2 (fun k n ks ih => ⟨fun h => ?_, fun p hp => ?_⟩) (fun i => ⟨fun h => rfl, fun p hp => ?_⟩) (fun t ts h1 h2 i => ⟨fun h => ?_, fun p hp => ?_⟩)
  · rw [outP] at h
    rw [stepS]
    split at h
    · rename_i hr
      rw [if_pos hr, (ih 0).1 h]; rfl
    · cases h
  · rw [outP] at hp
    rw [stepS]
    split at hp
    · rename_i hr
      obtain ⟨j, q, hj, rfl, k1, n1, ks1, ha, hr1, hs⟩ := (ih 0).2 p hp
      refine ⟨k1, n1, ks1, ?_, hr1, ?_⟩
      · rw [Nat.zero_add, atT_cons hj]; exact ha
      · rw [if_pos hr, hs, Nat.zero_add, putN_cons hj]; rfl
    · rename_i hr
      injection hp with hp
      subst hp
      exact ⟨k, n, ks, rfl, hr, by rw [if_neg hr]; rfl⟩
  · rw [outPs] at hp; cases hp
  · rw [outPs] at h
    rw [stepSL]
    cases ho : outP t with
    | some q => rw [ho] at h; cases h
    | none =>
      rw [ho] at h
      rw [h1.1 ho, (h2 (i + 1)).1 (by simpa using h)]; rfl
  · rw [outPs] at hp
    rw [stepSL]
    cases ho : outP t with
    | some q =>
      rw [ho] at hp
      injection hp with hp
      subst hp
      obtain ⟨k1, n1, ks1, ha, hr1, hs⟩ := h1.2 q ho
      exact ⟨0, q, by simp, by simp, k1, n1, ks1, ha, hr1, by rw [hs]; rfl⟩
    | none =>
      rw [ho] at hp
      obtain ⟨j, q, hj, rfl, k1, n1, ks1, ha, hr1, hs⟩ := (h2 (i + 1)).2 p (by simpa using hp)
      refine ⟨j + 1, q, by simp; omega, by congr 1; omega, k1, n1, ks1, by simpa using ha, hr1, ?_⟩
      rw [h1.1 ho, hs]; simp
/-- a part that is laid into a valid term is valid -/
theorem putN_valid : ∀ (p : List Int) (t u v : Tm), atT t p = some u → validT (putN t p v) = true → validT v = true
  | [], t, u, v, h, hv => hv
  | i :: is, .mk k n ks, u, v, h, hv => by
    rw [atT] at h
    split at h
    · rename_i hi
      have hj : i.toNat < ks.length := by have h2 := hi.2; simp only [Tm.kids] at h2; omega
      rw [putN] at hv
      refine putN_valid is _ u v h (validT_kid hv ?_)
      exact List.mem_iff_getElem.2 ⟨i.toNat, by simpa using hj, by simp [Tm.kids]⟩
    · cases h
theorem vO_not {t : Tm} (h : ¬ validT t = true) : vO t = none := by rw [vO, if_neg h]
theorem vO_yes {t : Tm} (h : validT t = true) : vO t = some t := by rw [vO, if_pos h]
theorem ctd_step {t : Tm} {p : List Int} (hv : validT t = true) (hp : outP t = some p) : ∃ t', stepS t = some t' ∧ ctdI t p = vO t' := by
  obtain ⟨k, n, ks, ha, hr, hs⟩ := (out_step.1 t).2 p hp
  refine ⟨_, hs, ?_⟩
  have hu := atT_valid ha hv
  rw [ctdI, ha]
  simp only [ctrI_ctrS hu hr]
  by_cases hc : validT (ctrS (.mk k n ks)) = true
  · rw [vO_yes hc]
  · rw [vO_not hc, vO_not (fun h => hc (putN_valid p t _ _ ha h))]
/-- the normal terms are one -/
theorem norm_same : ∀ (fuel : Nat) (t : Tm), validT t = true → normS fuel t = redI outP fuel t
  | fuel, t, hv => by
    rw [normS, redI]
    cases hp : outP t with
    | none => rw [(out_step.1 t).1 hp]
    | some p =>
      obtain ⟨t', hs, hc⟩ := ctd_step hv hp
      rw [hs]
      cases fuel with
      | zero => rfl
      | succ fuel =>
        simp only [hc]
        by_cases h : validT t' = true
        · rw [if_pos h, vO_yes h]; exact norm_same fuel t' h
        · rw [if_neg h, vO_not h]
open Go.RowKit
/-- a term that can be read, of some size -/
def GotS (v : Tm) (m : Nat) (w : World) (e : Ending) (w' : World) : Prop := ∃ k n ks, v = .mk k n ks ∧ GotR (fun _ => False) w k n ks e w' ∧ sizes ks + 1 ≤ m
set_option maxHeartbeats 2000000 in
set_option maxRecDepth 100000 in
theorem sContract_zero (n : Int) (t0 t1 t2 t3 : Tm) (A : Option Addr) (c : Nat) (w : World) (hM : sizes [t0, t1, t2, t3] ≤ 400) (hrd : rdx 9 [t0, t1, t2, t3] = 2) (hr : Rd w A 0 [t0, t1, t2, t3]) :
    Calls Tryz.prog 104 #[.agg #[.int .i64 9, .int .i64 n, .slice A ([t0, t1, t2, t3] : List Tm).length c]] w (GotS t1 190000 w) := by
  have hrd := hide hrd
  obtain ⟨b, off, k1, n1, ks1, A1, c1, hA, hk1, p1, q1, r1, hl1, hr1⟩ := hr.at_ (j := 1) (by simp)
  have hk1 : t1 = .mk k1 n1 ks1 := hk1
  subst hk1 hA
  simp only [Nat.reduceMul, Nat.zero_mul, Nat.add_zero] at p1 q1 r1
  have hsz : sizes ks1 ≤ 400 := by simp only [sizes, Tm.size] at hM; omega
  go_enter Tryz.func104, Tryz.ntmps104
  go_wp2_with (first
    | (go_at_call 29; have _t := tok; refine (sCopy_any _ k1 n1 ks1 A1 c1 _ (Nat.lt_succ_self _) (by omega) (hr1.keeps K1)).mono ?_; rintro e w2 ⟨A2, c2, rfl, hl2, hf2, hb2⟩; replace hZ := hZ.keep hb2; obtain ⟨d0, d1, d2⟩ := hZ.three; have e0 := hZ.frozen 0; have e1 := hZ.frozen 1; have e2 := hZ.frozen 2; replace g1 := g1.trans (hb2.mono g1.size))
    | (go_at_call 103; refine (sRedex_any 9 n [t0, .mk k1 n1 ks1, t2, t3] _ c _ (by simp) rfl ((hr.alloc _).alloc _)).mono ?_; rw [hrd.out]; rintro e w1 ⟨rfl, hb1⟩; have hB : Blk w1 w.heap.size #[.int .i64 9, .int .i64 n, .slice (some ⟨b, off, none⟩) ([t0, .mk k1 n1 ks1, t2, t3] : List Tm).length c] := ((Blk.new_ w 25 _ rfl).alloc _).keep hb1; have hZ : Blk w1 (w.heap.size + 1) #[.int .i64 0, .int .i64 0, .slice none 0 0] := (Blk.new_ _ 25 _ (by simp)).keep hb1; have g1 : Below w.heap.size w w1 := (((Below.refl _ _).alloc (Nat.le_refl _) _).alloc (by simp) _).trans (hb1.mono (by simp; omega)); have s1 := hZ.lt; have K1 := Keeps.of_below g1; have x2 := hB.at_ (i := 2) rfl; have tok := trivial; replace p1 := K1 _ _ p1; replace q1 := K1 _ _ q1; replace r1 := K1 _ _ r1))
  refine bodyPost_ret (v := .agg #[.int .i64 k1, .int .i64 n1, .slice A2 ks1.length c2]) (by simp [results, Tryz.results104, go_sem, d0, d1, d2]) rfl ⟨k1, n1, ks1, rfl, ⟨A2, c2, rfl, hl2, ?_, ?_⟩, by omega⟩
  · exact (Fresh.rdp (((hf2.setCell (by simp; omega) _).setCell (by simp; omega) _).setCell (by simp; omega) _)).mono (fun b hb => .inr (by have h0 : w1.drew.heap.size = w1.heap.size := rfl; have := hb.1; omega))
  · exact ((g1.setCell (by simp) _).setCell (by simp) _).setCell (by simp) _
set_option maxHeartbeats 2000000 in
set_option maxRecDepth 100000 in
theorem sContract_move (n : Int) (t0 t1 t2 : Tm) (A : Option Addr) (c : Nat) (w : World) (hM : sizes [t0, t1, t2] ≤ 400) (hrd : rdx 12 [t0, t1, t2] = 4) (hr : Rd w A 0 [t0, t1, t2]) :
    Calls Tryz.prog 104 #[.agg #[.int .i64 12, .int .i64 n, .slice A ([t0, t1, t2] : List Tm).length c]] w (GotS t2 190000 w) := by
  have hrd := hide hrd
  obtain ⟨b, off, k1, n1, ks1, A1, c1, hA, hk1, p1, q1, r1, hl1, hr1⟩ := hr.at_ (j := 2) (by simp)
  have hk1 : t2 = .mk k1 n1 ks1 := hk1
  subst hk1 hA
  simp only [Nat.reduceMul, Nat.zero_mul, Nat.add_zero] at p1 q1 r1
  have hsz : sizes ks1 ≤ 400 := by simp only [sizes, Tm.size] at hM; omega
  go_enter Tryz.func104, Tryz.ntmps104
  go_wp2_with (first
    | (go_at_call 29; have _t := tok; refine (sCopy_any _ k1 n1 ks1 A1 c1 _ (Nat.lt_succ_self _) (by omega) (hr1.keeps K1)).mono ?_; rintro e w2 ⟨A2, c2, rfl, hl2, hf2, hb2⟩; replace hZ := hZ.keep hb2; obtain ⟨d0, d1, d2⟩ := hZ.three; have e0 := hZ.frozen 0; have e1 := hZ.frozen 1; have e2 := hZ.frozen 2; replace g1 := g1.trans (hb2.mono g1.size))
    | (go_at_call 103; refine (sRedex_any 12 n [t0, t1, .mk k1 n1 ks1] _ c _ (by simp) rfl ((hr.alloc _).alloc _)).mono ?_; rw [hrd.out]; rintro e w1 ⟨rfl, hb1⟩; have hB : Blk w1 w.heap.size #[.int .i64 12, .int .i64 n, .slice (some ⟨b, off, none⟩) ([t0, t1, .mk k1 n1 ks1] : List Tm).length c] := ((Blk.new_ w 25 _ rfl).alloc _).keep hb1; have hZ : Blk w1 (w.heap.size + 1) #[.int .i64 0, .int .i64 0, .slice none 0 0] := (Blk.new_ _ 25 _ (by simp)).keep hb1; have g1 : Below w.heap.size w w1 := (((Below.refl _ _).alloc (Nat.le_refl _) _).alloc (by simp) _).trans (hb1.mono (by simp; omega)); have s1 := hZ.lt; have K1 := Keeps.of_below g1; have x2 := hB.at_ (i := 2) rfl; have tok := trivial; replace p1 := K1 _ _ p1; replace q1 := K1 _ _ q1; replace r1 := K1 _ _ r1))
  refine bodyPost_ret (v := .agg #[.int .i64 k1, .int .i64 n1, .slice A2 ks1.length c2]) (by simp [results, Tryz.results104, go_sem, d0, d1, d2]) rfl ⟨k1, n1, ks1, rfl, ⟨A2, c2, rfl, hl2, ?_, ?_⟩, by omega⟩
  · exact (Fresh.rdp (((hf2.setCell (by simp; omega) _).setCell (by simp; omega) _).setCell (by simp; omega) _)).mono (fun b hb => .inr (by have h0 : w1.drew.heap.size = w1.heap.size := rfl; have := hb.1; omega))
  · exact ((g1.setCell (by simp) _).setCell (by simp) _).setCell (by simp) _
set_option maxHeartbeats 2000000 in
set_option maxRecDepth 100000 in
theorem sContract_fst (n n0 : Int) (s0 s1 s2 : Tm) (A : Option Addr) (c : Nat) (w : World) (hM : sizes [.mk 14 n0 [s0, s1, s2]] ≤ 400) (hr : Rd w A 0 [.mk 14 n0 [s0, s1, s2]]) :
    Calls Tryz.prog 104 #[.agg #[.int .i64 15, .int .i64 n, .slice A ([.mk 14 n0 [s0, s1, s2]] : List Tm).length c]] w (GotS s1 190000 w) := by
  have hrd := hide (show rdx 15 [.mk 14 n0 [s0, s1, s2]] = 5 from rfl)
  obtain ⟨b, off, k0', n0', ks0, A0, c0, hA, hk0, p0, q0, r0, hl0, hr0⟩ := hr.at_ (j := 0) (by simp)
  injection hk0 with h1 h2 h3
  subst h1 h2 h3
  obtain ⟨b1, off1, k1, n1, ks1, A1, c1, hA0, hk1, p1, q1, r1, hl1, hr1⟩ := hr0.at_ (j := 1) (by simp)
  have hk1 : s1 = .mk k1 n1 ks1 := hk1
  subst hk1 hA hA0
  simp only [Nat.reduceMul, Nat.zero_mul, Nat.add_zero] at p0 q0 r0 p1 q1 r1
  have hsz : sizes ks1 ≤ 400 := by simp only [sizes, Tm.size] at hM; omega
  go_enter Tryz.func104, Tryz.ntmps104
  go_wp2_with (first
    | (go_at_call 29; have _t := tok; refine (sCopy_any _ k1 n1 ks1 A1 c1 _ (Nat.lt_succ_self _) (by omega) (hr1.keeps K1)).mono ?_; rintro e w2 ⟨A2, c2, rfl, hl2, hf2, hb2⟩; replace hZ := hZ.keep hb2; obtain ⟨d0, d1, d2⟩ := hZ.three; have e0 := hZ.frozen 0; have e1 := hZ.frozen 1; have e2 := hZ.frozen 2; replace g1 := g1.trans (hb2.mono g1.size))
    | (go_at_call 103; refine (sRedex_any 15 n [.mk 14 n0 [s0, .mk k1 n1 ks1, s2]] _ c _ (by simp) rfl ((hr.alloc _).alloc _)).mono ?_; rw [hrd.out]; rintro e w1 ⟨rfl, hb1⟩; have hB : Blk w1 w.heap.size #[.int .i64 15, .int .i64 n, .slice (some ⟨b, off, none⟩) ([.mk 14 n0 [s0, .mk k1 n1 ks1, s2]] : List Tm).length c] := ((Blk.new_ w 25 _ rfl).alloc _).keep hb1; have hZ : Blk w1 (w.heap.size + 1) #[.int .i64 0, .int .i64 0, .slice none 0 0] := (Blk.new_ _ 25 _ (by simp)).keep hb1; have g1 : Below w.heap.size w w1 := (((Below.refl _ _).alloc (Nat.le_refl _) _).alloc (by simp) _).trans (hb1.mono (by simp; omega)); have s1 := hZ.lt; have K1 := Keeps.of_below g1; have x2 := hB.at_ (i := 2) rfl; have tok := trivial; replace p0 := K1 _ _ p0; replace q0 := K1 _ _ q0; replace r0 := K1 _ _ r0; replace p1 := K1 _ _ p1; replace q1 := K1 _ _ q1; replace r1 := K1 _ _ r1))
  refine bodyPost_ret (v := .agg #[.int .i64 k1, .int .i64 n1, .slice A2 ks1.length c2]) (by simp [results, Tryz.results104, go_sem, d0, d1, d2]) rfl ⟨k1, n1, ks1, rfl, ⟨A2, c2, rfl, hl2, ?_, ?_⟩, by omega⟩
  · exact (Fresh.rdp (((hf2.setCell (by simp; omega) _).setCell (by simp; omega) _).setCell (by simp; omega) _)).mono (fun b hb => .inr (by have h0 : w1.drew.heap.size = w1.heap.size := rfl; have := hb.1; omega))
  · exact ((g1.setCell (by simp) _).setCell (by simp) _).setCell (by simp) _
set_option maxHeartbeats 2000000 in
set_option maxRecDepth 100000 in
theorem sContract_snd (n n0 : Int) (s0 s1 s2 : Tm) (A : Option Addr) (c : Nat) (w : World) (hM : sizes [.mk 14 n0 [s0, s1, s2]] ≤ 400) (hr : Rd w A 0 [.mk 14 n0 [s0, s1, s2]]) :
    Calls Tryz.prog 104 #[.agg #[.int .i64 16, .int .i64 n, .slice A ([.mk 14 n0 [s0, s1, s2]] : List Tm).length c]] w (GotS s2 190000 w) := by
  have hrd := hide (show rdx 16 [.mk 14 n0 [s0, s1, s2]] = 6 from rfl)
  obtain ⟨b, off, k0', n0', ks0, A0, c0, hA, hk0, p0, q0, r0, hl0, hr0⟩ := hr.at_ (j := 0) (by simp)
  injection hk0 with h1 h2 h3
  subst h1 h2 h3
  obtain ⟨b1, off1, k1, n1, ks1, A1, c1, hA0, hk1, p1, q1, r1, hl1, hr1⟩ := hr0.at_ (j := 2) (by simp)
  have hk1 : s2 = .mk k1 n1 ks1 := hk1
  subst hk1 hA hA0
  simp only [Nat.reduceMul, Nat.zero_mul, Nat.add_zero] at p0 q0 r0 p1 q1 r1
  have hsz : sizes ks1 ≤ 400 := by simp only [sizes, Tm.size] at hM; omega
  go_enter Tryz.func104, Tryz.ntmps104
  go_wp2_with (first
    | (go_at_call 29; have _t := tok; refine (sCopy_any _ k1 n1 ks1 A1 c1 _ (Nat.lt_succ_self _) (by omega) (hr1.keeps K1)).mono ?_; rintro e w2 ⟨A2, c2, rfl, hl2, hf2, hb2⟩; replace hZ := hZ.keep hb2; obtain ⟨d0, d1, d2⟩ := hZ.three; have e0 := hZ.frozen 0; have e1 := hZ.frozen 1; have e2 := hZ.frozen 2; replace g1 := g1.trans (hb2.mono g1.size))
    | (go_at_call 103; refine (sRedex_any 16 n [.mk 14 n0 [s0, s1, .mk k1 n1 ks1]] _ c _ (by simp) rfl ((hr.alloc _).alloc _)).mono ?_; rw [hrd.out]; rintro e w1 ⟨rfl, hb1⟩; have hB : Blk w1 w.heap.size #[.int .i64 16, .int .i64 n, .slice (some ⟨b, off, none⟩) ([.mk 14 n0 [s0, s1, .mk k1 n1 ks1]] : List Tm).length c] := ((Blk.new_ w 25 _ rfl).alloc _).keep hb1; have hZ : Blk w1 (w.heap.size + 1) #[.int .i64 0, .int .i64 0, .slice none 0 0] := (Blk.new_ _ 25 _ (by simp)).keep hb1; have g1 : Below w.heap.size w w1 := (((Below.refl _ _).alloc (Nat.le_refl _) _).alloc (by simp) _).trans (hb1.mono (by simp; omega)); have s1 := hZ.lt; have K1 := Keeps.of_below g1; have x2 := hB.at_ (i := 2) rfl; have tok := trivial; replace p0 := K1 _ _ p0; replace q0 := K1 _ _ q0; replace r0 := K1 _ _ r0; replace p1 := K1 _ _ p1; replace q1 := K1 _ _ q1; replace r1 := K1 _ _ r1))
  refine bodyPost_ret (v := .agg #[.int .i64 k1, .int .i64 n1, .slice A2 ks1.length c2]) (by simp [results, Tryz.results104, go_sem, d0, d1, d2]) rfl ⟨k1, n1, ks1, rfl, ⟨A2, c2, rfl, hl2, ?_, ?_⟩, by omega⟩
  · exact (Fresh.rdp (((hf2.setCell (by simp; omega) _).setCell (by simp; omega) _).setCell (by simp; omega) _)).mono (fun b hb => .inr (by have h0 : w1.drew.heap.size = w1.heap.size := rfl; have := hb.1; omega))
  · exact ((g1.setCell (by simp) _).setCell (by simp) _).setCell (by simp) _
set_option maxHeartbeats 4000000 in
set_option maxRecDepth 100000 in
theorem sContract_apply (n n0 : Int) (s0 t : Tm) (k1 n1 ku nu : Int) (us : List Tm) (ks1 : List Tm) (A : Option Addr) (c : Nat) (w : World) (ht : t = .mk k1 n1 ks1) (hM : sizes [.mk 4 n0 [s0, t], .mk ku nu us] ≤ 400) (hs : shape 30 t = true) (hsu : shape 30 (.mk ku nu us) = true) (hr : Rd w A 0 [.mk 4 n0 [s0, t], .mk ku nu us]) :
    Calls Tryz.prog 104 #[.agg #[.int .i64 5, .int .i64 n, .slice A ([.mk 4 n0 [s0, t], .mk ku nu us] : List Tm).length c]] w (GotS (sbS (.mk ku nu us) 0 0 t) 190000 w) := by
  subst ht
  have hrd := hide (show rdx 5 [.mk 4 n0 [s0, .mk k1 n1 ks1], .mk ku nu us] = 1 from rfl)
  obtain ⟨b, off, k0', n0', ks0, A0, c0, hA, hk0, p0, q0, r0, hl0, hr0⟩ := hr.at_ (j := 0) (by simp)
  injection hk0 with h1 h2 h3
  subst h1 h2 h3
  obtain ⟨b1, off1, k1', n1', ks1', A1, c1, hA0, hk1, p1, q1, r1, hl1, hr1⟩ := hr0.at_ (j := 1) (by simp)
  injection hk1 with h1 h2 h3
  subst h1 h2 h3
  obtain ⟨b', off', ku', nu', us', U, cu, hA', hk2, p2, q2, r2, hl2, hr2⟩ := hr.at_ (j := 1) (by simp)
  injection hk2 with h1 h2 h3
  subst h1 h2 h3
  subst hA hA0
  injection hA' with hA'
  injection hA' with h1 h2
  subst h1 h2
  simp only [Nat.reduceMul, Nat.zero_mul, Nat.add_zero] at p0 q0 r0 p1 q1 r1 p2 q2 r2
  have hsz : sizes ks1 ≤ 400 ∧ sizes us ≤ 400 ∧ (Tm.mk k1 n1 ks1).size + (Tm.mk ku nu us).size ≤ 400 := by simp only [sizes, Tm.size] at hM ⊢; omega
  obtain ⟨k2, n2, ks2, h2⟩ := tm_eta (sbS (.mk ku nu us) 0 0 (.mk k1 n1 ks1))
  have hbig : sizes ks2 + 1 ≤ 190000 := by
    have h3 := sbS_size (.mk ku nu us) (m := 400) (by omega) (by omega) (.mk k1 n1 ks1) 0 0
    rw [h2, Tm.size] at h3
    have : (Tm.mk k1 n1 ks1).size * 400 ≤ 400 * 400 := Nat.mul_le_mul_right _ (by omega)
    omega
  have h2' := hide h2
  have hs' := hide hs
  have hsu' := hide hsu
  clear h2 hs hsu
  go_enter Tryz.func104, Tryz.ntmps104
  go_wp2_with (first
    | (go_at_call 103; refine (sRedex_any 5 n [.mk 4 n0 [s0, .mk k1 n1 ks1], .mk ku nu us] _ c _ (by simp) rfl ((hr.alloc _).alloc _)).mono ?_; rw [hrd.out]; rintro e w1 ⟨rfl, hb1⟩; have hB : Blk w1 w.heap.size #[.int .i64 5, .int .i64 n, .slice (some ⟨b, off, none⟩) ([.mk 4 n0 [s0, .mk k1 n1 ks1], .mk ku nu us] : List Tm).length c] := ((Blk.new_ w 25 _ rfl).alloc _).keep hb1; have hZ : Blk w1 (w.heap.size + 1) #[.int .i64 0, .int .i64 0, .slice none 0 0] := (Blk.new_ _ 25 _ (by simp)).keep hb1; have g1 : Below w.heap.size w w1 := (((Below.refl _ _).alloc (Nat.le_refl _) _).alloc (by simp) _).trans (hb1.mono (by simp; omega)); have s1 := hZ.lt; have K1 := Keeps.of_below g1; have x2 := hB.at_ (i := 2) rfl; have tok := trivial; replace p0 := K1 _ _ p0; replace q0 := K1 _ _ q0; replace r0 := K1 _ _ r0; replace p1 := K1 _ _ p1; replace q1 := K1 _ _ q1; replace r1 := K1 _ _ r1; replace p2 := K1 _ _ p2; replace q2 := K1 _ _ q2; replace r2 := K1 _ _ r2; skip))
  have y2 := rule_of x2
  have y3 := rule_of r0
  have y4 := rule_of p1
  have y5 := rule_of q1
  have y6 := rule_of r1
  have y7 := rule_of p2
  have y8 := rule_of q2
  have y9 := rule_of r2
  refine wp_region_firstY (fun w' => Below w1.heap.size w1 w') [0, 1, 2, 3, 4, 5, 6, 7, 8, 9, 10] [11] [12] [_, _, _, _, _, _, _, _, _, _, _] [_] [_] (by kernel_rfl) (by kernel_rfl) rfl rfl rfl (fun _ _ d _ _ h => by cases d <;> exact h) (Below.refl _ _).drew ?_
  repeat (first | ((refine takeY_skip (a' := ?_) ?_ ?_ ?_); (rotate_left); (· (simp [Region.wanted, yielded]; done)); (· (simp only [List.getElem_toArray, List.getElem_cons_zero, List.getElem_cons_succ, Act.put, List.setIfInBounds_toArray, List.set_cons_zero, List.set_cons_succ]; exact rfl))) | ((refine takeY_step (v := ?_) (a' := ?_) ?_ ?_ ?_ ?_); (rotate_left 2); (· (simp [Region.wanted, yielded]; done)); (· (intro w' hS'; go_simp; try (with_reducible rfl))); (· (simp only [List.getElem_toArray, List.getElem_cons_zero, List.getElem_cons_succ, Act.put, List.setIfInBounds_toArray, List.set_cons_zero, List.set_cons_succ]; exact rfl))))
  refine takeY_nil (then_cons ?_)
  go_wp2_with (go_at_call 141; refine (sSubst_any ku nu us hsu'.out (by omega) _ k1 n1 ks1 _ _ _ _ 0 0 30 _ (Nat.lt_succ_self _) (by omega) hs'.out (by omega) (by omega) (by omega) (by omega) (hr1.keeps K1).drew (hr2.keeps K1).drew k2 n2 ks2 h2'.out).mono ?_; rintro e w2 ⟨A2, c2, rfl, hl2, hf2, hb2⟩)
  have hx1 : Below w1.heap.size w1 w2 := (Below.refl _ _).drew.trans hb2
  refine mid_intro hx1 (then_nil ?_)
  replace hZ := hZ.keep hx1
  obtain ⟨d0, d1, d2⟩ := hZ.three
  have e0 := hZ.frozen 0
  have e1 := hZ.frozen 1
  have e2 := hZ.frozen 2
  replace g1 := g1.trans (hx1.mono g1.size)
  clear y2 y3 y4 y5 y6 y7 y8 y9
  go_wp2_with fail
  refine bodyPost_ret (v := .agg #[.int .i64 k2, .int .i64 n2, .slice A2 ks2.length c2]) (by simp [results, Tryz.results104, go_sem, d0, d1, d2]) rfl ⟨k2, n2, ks2, h2'.out, ⟨A2, c2, rfl, hl2, ?_, ?_⟩, hbig⟩
  · exact (Fresh.rdp (((hf2.setCell (by simp; omega) _).setCell (by simp; omega) _).setCell (by simp; omega) _)).mono (fun b hb => .inr (by have h0 : w1.drew.heap.size = w1.heap.size := rfl; have := hb.1; omega))
  · exact ((g1.setCell (by simp) _).setCell (by simp) _).setCell (by simp) _
end Go.Proofs.YtodkpgkefjegnaaGreatDoor
