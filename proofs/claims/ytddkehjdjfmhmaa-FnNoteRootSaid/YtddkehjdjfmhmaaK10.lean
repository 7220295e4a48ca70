/-
 Contracts of the functions that the law reaches, and plain lemmas. No condition.
-/
import Derived.Test.YtddkehjdjfmhmaaK4
import Derived.Test.YtddkehjdjfmhmaaK5
import Derived.Test.YtddkehjdjfmhmaaK6
import Derived.Test.YtddkehjdjfmhmaaK9
namespace Go.Proofs.Ytddkehjdjfmhmaa
set_option linter.unusedSimpArgs false
set_option linter.unusedVariables false
open Go.RowKit
mutual
def outP : Tm → Option (List Int)
 | .mk k n ks => if rdx k ks = 0 then outPs 0 ks else some []
def outPs : Int → List Tm → Option (List Int)
 | _, [] => none
 | i, t :: ts => match outP t with | some p => some (i :: p) | none => outPs (i + 1) ts
end
def mainO (k : Int) : Int := if k = 5 ∨ k = 15 ∨ k = 16 then 0 else if k = 9 then 3 else if k = 12 then 1 else -1
mutual
def headP : Tm → Option (List Int)
 | .mk k n ks => if rdx k ks = 0 then (if mainO k < 0 then none else (headN (mainO k).toNat ks).map (mainO k :: ·)) else some []
def headN : Nat → List Tm → Option (List Int)
 | _, [] => none
 | 0, t :: _ => headP t
 | i + 1, _ :: ts => headN i ts
end
def putN : Tm → List Int → Tm → Tm
 | _, [], u => u
 | .mk k n ks, i :: is, u => .mk k n (ks.set i.toNat (putN (ks.getD i.toNat default) is u))
def vO (t : Tm) : Option Tm := if validT t = true then some t else none
def kidT (ks : List Tm) (i : Nat) : Tm := ks.getD i default
def ctrI : Tm → Option Tm
 | .mk k n ks =>
  if rdx k ks = 1 then substI 0 (kidT ks 1) (kidT (kidT ks 0).ks 1)
  else if rdx k ks = 2 then vO (kidT ks 1)
  else if rdx k ks = 3 then vO (.mk 5 0 [.mk 5 0 [kidT ks 2, kidT (kidT ks 3).ks 0], .mk 9 0 [kidT ks 0, kidT ks 1, kidT ks 2, kidT (kidT ks 3).ks 0]])
  else if rdx k ks = 4 then vO (kidT ks 2)
  else if rdx k ks = 5 then vO (kidT (kidT ks 0).ks 1)
  else if rdx k ks = 6 then vO (kidT (kidT ks 0).ks 2)
  else none
def ctdI (t : Tm) (p : List Int) : Option Tm :=
 match atT t p with
 | none => none
 | some u => match ctrI u with | none => none | some v => vO (putN t p v)
def redI (find : Tm → Option (List Int)) : Nat → Tm → Option Tm × Int
 | fuel, t => match find t with
  | none => (some t, 0)
  | some p => match fuel with
   | 0 => (none, 1)
   | fuel + 1 => match ctdI t p with
    | none => (none, 2)
    | some t' => redI find fuel t'
def convI (fuel : Nat) (a b : Tm) : Int :=
 if tmEq a b = true then 1 else
  if (redI outP fuel a).2 ≠ 0 ∨ (redI outP fuel b).2 ≠ 0 then 3 else
   if tmEq ((redI outP fuel a).1.getD (.mk 0 0 [])) ((redI outP fuel b).1.getD (.mk 0 0 [])) = true then 1 else 2
theorem atT_cons {k n : Int} {ks : List Tm} {j : Nat} {p : List Int} (hj : j < ks.length) : atT (.mk k n ks) ((j : Int) :: p) = atT ks[j] p := by
 rw [atT, if_pos ⟨by omega, by simpa [Tm.kids] using hj⟩]
 simp [Tm.kids, List.getD, List.getElem?_eq_getElem hj]
open Go.RowKit
section
variable {u : Tm} (hsu : shape 30 u = true)
include hsu
theorem subd (t : Tm) : ∀ (q : Nat) (d : Int), 0 ≤ d → shape q t = true → chgOk (sbOk 0 u) d t = true → chg (sbF 0 u) d t = sbS u d d t := by
 refine Tm.rec (motive_1 := fun t => ∀ (q : Nat) (d : Int), 0 ≤ d → shape q t = true → chgOk (sbOk 0 u) d t = true → chg (sbF 0 u) d t = sbS u d d t)
  (motive_2 := fun ts => ∀ (q : Nat) (k d : Int) (i : Nat), 0 ≤ d → (∀ t, t ∈ ts → shape q t = true) → chgsOk (sbOk 0 u) k d i ts = true → chgs (sbF 0 u) k d i ts = sbSL u k d d i ts) ?_ ?_ ?_ t
 ·intro k n ks ih q d hd h hok
  obtain ⟨q', rfl, ha, h0, h1, hk⟩ := shape_pos h
  rw [chgOk] at hok
  rw [chg, sbS]
  by_cases h1 : k = 1
  ·subst h1
   have := var_nil ha
   subst this
   rw [if_pos rfl] at hok ⊢
   unfold sbOk at hok
   unfold sbF
   by_cases h2 : n = d
   ·rw [if_pos (show n - d = 0 by omega)] at hok ⊢
    rw [if_pos (show (1 : Int) = 1 ∧ n = d from ⟨rfl, h2⟩)]
    exact shiftI_some hsu hok
   ·rw [if_neg (show ¬ n - d = 0 by omega), if_neg (show ¬ ((1 : Int) = 1 ∧ n = d) from fun h => h2 h.2)]
    by_cases h3 : d < n
    ·rw [if_pos (show 0 < n - d by omega), if_pos (show (1 : Int) = 1 ∧ d < n from ⟨rfl, h3⟩)]; rfl
    ·rw [if_neg (show ¬ 0 < n - d by omega), if_neg (show ¬ ((1 : Int) = 1 ∧ d < n) from fun h => h3 h.2)]; rfl
  ·rw [if_neg h1] at hok ⊢
   rw [if_neg (by rintro ⟨h, -⟩; exact h1 h), if_neg (by rintro ⟨h, -⟩; exact h1 h), ih q' k d 0 hd hk hok]
 ·intro q k d i _ _ _; rfl
 ·intro t ts h1 h2 q k d i hd hk hok
  rw [chgsOk, Bool.and_eq_true] at hok
  rw [chgs, sbSL, h1 q _ (by have := under_le k i; omega) (hk t List.mem_cons_self) hok.1, h2 q k d (i + 1) hd (fun t ht => hk t (List.mem_cons_of_mem _ ht)) hok.2]
theorem subd_ok (t : Tm) : ∀ (q p : Nat) (d : Int), 0 ≤ d → p ≤ 30 → shape q t = true → shape p (sbS u d d t) = true → (sbS u d d t).size ≤ 400 → chgOk (sbOk 0 u) d t = true := by
 refine Tm.rec (motive_1 := fun t => ∀ (q p : Nat) (d : Int), 0 ≤ d → p ≤ 30 → shape q t = true → shape p (sbS u d d t) = true → (sbS u d d t).size ≤ 400 → chgOk (sbOk 0 u) d t = true)
  (motive_2 := fun ts => ∀ (q p : Nat) (k d : Int) (i : Nat), 0 ≤ d → p ≤ 30 → (∀ t, t ∈ ts → shape q t = true) → (∀ t, t ∈ sbSL u k d d i ts → shape p t = true) → sizes (sbSL u k d d i ts) ≤ 400 → chgsOk (sbOk 0 u) k d i ts = true) ?_ ?_ ?_ t
 ·intro k n ks ih q p d hd hp h hs hz
  obtain ⟨q', rfl, ha, h0, h1, hk⟩ := shape_pos h
  rw [chgOk]
  rw [sbS] at hs hz
  by_cases h1 : k = 1
  ·subst h1
   rw [if_pos rfl]
   unfold sbOk
   by_cases h2 : n = d
   ·rw [if_pos (show n - d = 0 by omega)]
    rw [if_pos (show (1 : Int) = 1 ∧ n = d from ⟨rfl, h2⟩)] at hs hz
    refine shiftI_ok hd hsu ?_
    rw [validT, shape_up hp _ hs, decide_eq_true hz]; rfl
   ·rw [if_neg (show ¬ n - d = 0 by omega)]
  ·rw [if_neg h1]
   have hn : ¬ (k = 1 ∧ n = d) := by rintro ⟨h, -⟩; exact h1 h
   rw [if_neg hn] at hs hz
   obtain ⟨p', rfl, hpa, hp0, hp1, hpk⟩ := shape_pos hs
   rw [Tm.size] at hz
   exact ih q' p' k d 0 hd (by omega) hk hpk (by omega)
 ·intro q p k d i _ _ _ _ _; rfl
 ·intro t ts h1 h2 q p k d i hd hp hk hs hz
  rw [sbSL] at hs hz
  rw [sizes] at hz
  rw [chgsOk, h1 q p _ (by have := under_le k i; omega) hp (hk t List.mem_cons_self) (hs _ List.mem_cons_self) (by omega), h2 q p k d (i + 1) hd hp (fun t ht => hk t (List.mem_cons_of_mem _ ht)) (fun t ht => hs t (List.mem_cons_of_mem _ ht)) (by omega)]; rfl
end
theorem validT_shape30 {t : Tm} (h : validT t = true) : shape 30 t = true := by simp only [validT, Bool.and_eq_true] at h; exact h.1
theorem substI_sbS {u t : Tm} (hu : validT u = true) (ht : validT t = true) : substI 0 u t = vO (sbS u 0 0 t) := by
 have hsu := validT_shape30 hu
 unfold substI vO
 by_cases hv : validT (sbS u 0 0 t) = true
 ·have h2 : (sbS u 0 0 t).size ≤ 400 := by simp only [validT, Bool.and_eq_true, decide_eq_true_eq] at hv; exact hv.2
  have hok := subd_ok hsu t 30 30 0 (Int.le_refl _) (Nat.le_refl _) (validT_shape30 ht) (validT_shape30 hv) h2
  rw [if_pos hok, subd hsu t 30 0 (Int.le_refl _) (validT_shape30 ht) hok, if_pos hv]
 ·rw [if_neg hv]
  by_cases hok : chgOk (sbOk 0 u) 0 t = true
  ·rw [if_pos hok, subd hsu t 30 0 (Int.le_refl _) (validT_shape30 ht) hok, if_neg hv]
  ·rw [if_neg hok]
def ctrS : Tm → Tm
 | .mk k n ks =>
  if rdx k ks = 1 then sbS (kidT ks 1) 0 0 (kidT (kidT ks 0).ks 1)
  else if rdx k ks = 2 then kidT ks 1
  else if rdx k ks = 3 then .mk 5 0 [.mk 5 0 [kidT ks 2, kidT (kidT ks 3).ks 0], .mk 9 0 [kidT ks 0, kidT ks 1, kidT ks 2, kidT (kidT ks 3).ks 0]]
  else if rdx k ks = 4 then kidT ks 2
  else if rdx k ks = 5 then kidT (kidT ks 0).ks 1
  else kidT (kidT ks 0).ks 2
theorem kidT_mem {ks : List Tm} {i : Nat} (h : i < ks.length) : kidT ks i ∈ ks := by
 rw [kidT, List.getD_eq_getElem?_getD, List.getElem?_eq_getElem h]; exact List.getElem_mem h
theorem validT_len2 {k n : Int} {ks : List Tm} (h : validT (.mk k n ks) = true) : arity k = (ks.length : Int) := by
 obtain ⟨q, _, ha, _, _, _⟩ := shape_pos (validT_shape30 h)
 exact ha
theorem validT_kidT {k n : Int} {ks : List Tm} {i : Nat} (h : validT (.mk k n ks) = true) (hi : i < ks.length) : validT (kidT ks i) = true := validT_kid h (kidT_mem hi)
theorem rdx_le (k : Int) (ks : List Tm) : 0 ≤ rdx k ks ∧ rdx k ks ≤ 6 := by unfold rdx; repeat' split <;> omega
theorem rdx_one {k : Int} {ks : List Tm} (h : rdx k ks = 1) : k = 5 ∧ kat ks 0 = 4 := by
 unfold rdx at h
 repeat' split at h
 all_goals first | (exact absurd h (by decide)) | (constructor <;> assumption)
theorem kat_kidT (ks : List Tm) (i : Nat) (h : i < ks.length) : kat ks i = (kidT ks i).k := by
 rw [kidT, List.getD_eq_getElem?_getD, List.getElem?_eq_getElem h]; simp [kat, h]
theorem ctrI_ctrS {k n : Int} {ks : List Tm} (hv : validT (.mk k n ks) = true) (hr : rdx k ks ≠ 0) : ctrI (.mk k n ks) = vO (ctrS (.mk k n ks)) := by
 have hle := rdx_le k ks
 rw [ctrI, ctrS]
 by_cases h1 : rdx k ks = 1
 ·rw [if_pos h1, if_pos h1]
  obtain ⟨rfl, h4⟩ := rdx_one h1
  have ha : arity 5 = (ks.length : Int) := validT_len2 hv
  have hl : ks.length = 2 := by have h5 : arity 5 = 2 := rfl; omega
  have hv0 := validT_kidT (i := 0) hv (by omega)
  have hv1 := validT_kidT (i := 1) hv (by omega)
  rw [kat_kidT ks 0 (by omega)] at h4
  generalize kidT ks 0 = t0 at hv0 h4
  obtain ⟨k0, n0, ks0⟩ := t0
  have h4 : k0 = 4 := h4
  subst h4
  have ha0 : arity 4 = (ks0.length : Int) := validT_len2 hv0
  have hl0 : ks0.length = 2 := by have h5 : arity 4 = 2 := rfl; omega
  exact substI_sbS hv1 (validT_kidT (i := 1) hv0 (show 1 < ks0.length by omega))
 ·rw [if_neg h1, if_neg h1]
  by_cases h2 : rdx k ks = 2
  ·rw [if_pos h2, if_pos h2]
  rw [if_neg h2, if_neg h2]
  by_cases h3 : rdx k ks = 3
  ·rw [if_pos h3, if_pos h3]
  rw [if_neg h3, if_neg h3]
  by_cases h4 : rdx k ks = 4
  ·rw [if_pos h4, if_pos h4]
  rw [if_neg h4, if_neg h4]
  by_cases h5 : rdx k ks = 5
  ·rw [if_pos h5, if_pos h5]
  rw [if_neg h5, if_neg h5, if_pos (by omega)]
mutual
def stepS : Tm → Option Tm
 | .mk k n ks => if rdx k ks = 0 then (stepSL ks).map (Tm.mk k n) else some (ctrS (.mk k n ks))
def stepSL : List Tm → Option (List Tm)
 | [] => none
 | t :: ts => match stepS t with | some u => some (u :: ts) | none => (stepSL ts).map (t :: ·)
end
def normS : Nat → Tm → Option Tm × Int
 | fuel, t => match stepS t with
  | none => (some t, 0)
  | some t' => match fuel with
   | 0 => (none, 1)
   | fuel + 1 => if validT t' = true then normS fuel t' else (none, 2)
theorem putN_cons {k n : Int} {ks : List Tm} {j : Nat} {p : List Int} {u : Tm} (hj : j < ks.length) : putN (.mk k n ks) ((j : Int) :: p) u = .mk k n (ks.set j (putN ks[j] p u)) := by
 rw [putN]; simp [List.getD, List.getElem?_eq_getElem hj]
theorem out_step : (∀ t : Tm, (outP t = none → stepS t = none) ∧ ∀ p, outP t = some p → ∃ k n ks, atT t p = some (.mk k n ks) ∧ rdx k ks ≠ 0 ∧ stepS t = some (putN t p (ctrS (.mk k n ks)))) ∧
  (∀ (ts : List Tm) (i : Nat), (outPs i ts = none → stepSL ts = none) ∧ ∀ p, outPs i ts = some p → ∃ (j : Nat) (q : List Int) (h : j < ts.length), p = ((i + j : Nat) : Int) :: q ∧ ∃ k n ks, atT ts[j] q = some (.mk k n ks) ∧ rdx k ks ≠ 0 ∧ stepSL ts = some (ts.set j (putN ts[j] q (ctrS (.mk k n ks))))) := by
 refine Tm.ind2 (fun k n ks ih => ⟨fun h => ?_, fun p hp => ?_⟩) (fun i => ⟨fun h => rfl, fun p hp => ?_⟩) (fun t ts h1 h2 i => ⟨fun h => ?_, fun p hp => ?_⟩)
 ·rw [outP] at h
  rw [stepS]
  split at h
  ·rename_i hr
   rw [if_pos hr, (ih 0).1 h]; rfl
  ·cases h
 ·rw [outP] at hp
  rw [stepS]
  split at hp
  ·rename_i hr
   obtain ⟨j, q, hj, rfl, k1, n1, ks1, ha, hr1, hs⟩ := (ih 0).2 p hp
   refine ⟨k1, n1, ks1, ?_, hr1, ?_⟩
   ·rw [Nat.zero_add, atT_cons hj]; exact ha
   ·rw [if_pos hr, hs, Nat.zero_add, putN_cons hj]; rfl
  ·rename_i hr
   injection hp with hp
   subst hp
   exact ⟨k, n, ks, rfl, hr, by rw [if_neg hr]; rfl⟩
 ·rw [outPs] at hp; cases hp
 ·rw [outPs] at h
  rw [stepSL]
  cases ho : outP t with
  | some q => rw [ho] at h; cases h
  | none =>
   rw [ho] at h
   rw [h1.1 ho, (h2 (i + 1)).1 (by simpa using h)]; rfl
 ·rw [outPs] at hp
  rw [stepSL]
  cases ho : outP t with
  | some q =>
   rw [ho] at hp
   injection hp with hp
   subst hp
   obtain ⟨k1, n1, ks1, ha, hr1, hs⟩ := h1.2 q ho
   exact ⟨0, q, by simp, by simp, k1, n1, ks1, ha, hr1, by rw [hs]; rfl⟩
  | none =>
   rw [ho] at hp
   obtain ⟨j, q, hj, rfl, k1, n1, ks1, ha, hr1, hs⟩ := (h2 (i + 1)).2 p (by simpa using hp)
   refine ⟨j + 1, q, by simp; omega, by congr 1; omega, k1, n1, ks1, by simpa using ha, hr1, ?_⟩
   rw [h1.1 ho, hs]; simp
theorem putN_valid : ∀ (p : List Int) (t u v : Tm), atT t p = some u → validT (putN t p v) = true → validT v = true
 | [], t, u, v, h, hv => hv
 | i :: is, .mk k n ks, u, v, h, hv => by
  rw [atT] at h
  split at h
  ·rename_i hi
   have hj : i.toNat < ks.length := by have h2 := hi.2; simp only [Tm.kids] at h2; omega
   rw [putN] at hv
   refine putN_valid is _ u v h (validT_kid hv ?_)
   exact List.mem_iff_getElem.2 ⟨i.toNat, by simpa using hj, by simp [Tm.kids]⟩
  ·cases h
theorem vO_not {t : Tm} (h : ¬ validT t = true) : vO t = none := by rw [vO, if_neg h]
theorem vO_yes {t : Tm} (h : validT t = true) : vO t = some t := by rw [vO, if_pos h]
theorem ctd_step {t : Tm} {p : List Int} (hv : validT t = true) (hp : outP t = some p) : ∃ t', stepS t = some t' ∧ ctdI t p = vO t' := by
 obtain ⟨k, n, ks, ha, hr, hs⟩ := (out_step.1 t).2 p hp
 refine ⟨_, hs, ?_⟩
 have hu := atT_valid ha hv
 rw [ctdI, ha]
 simp only [ctrI_ctrS hu hr]
 by_cases hc : validT (ctrS (.mk k n ks)) = true
 ·rw [vO_yes hc]
 ·rw [vO_not hc, vO_not (fun h => hc (putN_valid p t _ _ ha h))]
theorem norm_same : ∀ (fuel : Nat) (t : Tm), validT t = true → normS fuel t = redI outP fuel t
 | fuel, t, hv => by
  rw [normS, redI]
  cases hp : outP t with
  | none => rw [(out_step.1 t).1 hp]
  | some p =>
   obtain ⟨t', hs, hc⟩ := ctd_step hv hp
   rw [hs]
   cases fuel with
   | zero => rfl
   | succ fuel =>
    simp only [hc]
    by_cases h : validT t' = true
    ·rw [if_pos h, vO_yes h]; exact norm_same fuel t' h
    ·rw [if_neg h, vO_not h]
end Go.Proofs.Ytddkehjdjfmhmaa
