/-
  The statement FnMoreGeneralSaid, proved.
-/
import Derived.Test.YtodkenpmhhbppaaK1
import Derived.Test.YtodkenpmhhbppaaK2
import Derived.Test.YtodkenpmhhbppaaK3
import Derived.Test.YtodkenpmhhbppaaK5
import Derived.Test.YtodkenpmhhbppaaK8
import Derived.Test.YtodkenpmhhbppaaK12
import Derived.Test.YtodkenpmhhbppaaK15

namespace Go.Proofs.Ytodkenpmhhbppaa
open Go.RowKit
set_option linter.unusedSimpArgs false
set_option linter.unusedVariables false

/-- what is known so far agrees with a list -/
def Agree (L : List Tm) (st : St) : Prop := st.1.length = L.length ∧ st.2.length = L.length ∧ ∀ i, st.2.getD i false = true → st.1.getD i zeroT = L.getD i zeroT
theorem getD_set_eq {α : Type} {l : List α} {i : Nat} (x d : α) (h : i < l.length) : (l.set i x).getD i d = x := by
  simp [List.getD_eq_getElem?_getD, h]
theorem getD_set_ne {α : Type} {l : List α} {i j : Nat} (x d : α) (h : i ≠ j) : (l.set i x).getD j d = l.getD j d := by
  simp [List.getD_eq_getElem?_getD, List.getElem?_set_ne h]
theorem getD_true_lt {l : List Bool} {i : Nat} (h : l.getD i false = true) : i < l.length := by
  rcases Nat.lt_or_ge i l.length with hl | hl
  · exact hl
  · simp [List.getD_eq_getElem?_getD, List.getElem?_eq_none hl] at h

/-- a match, with a list that holds what was found, gives the term back -/
theorem mt_fill {L : List Tm} (hL6 : L.length ≤ 1000) (p : Tm) : ∀ (q : Nat) (d : Int) (u : Tm) (st st' : St), 0 ≤ d → shape q p = true → validT u = true → mt L.length 0 d p u st = (true, st') → Agree L st' → st.1.length = L.length → st.2.length = L.length → flS L d p = u ∧ Agree L st := by
  refine (Tm.ind2 (p := fun p => ∀ (q : Nat) (d : Int) (u : Tm) (st st' : St), 0 ≤ d → shape q p = true → validT u = true → mt L.length 0 d p u st = (true, st') → Agree L st' → st.1.length = L.length → st.2.length = L.length → flS L d p = u ∧ Agree L st)
    (q := fun ts => ∀ (q : Nat) (k d : Int) (i : Nat) (us : List Tm) (st st' : St), 0 ≤ d → (∀ t, t ∈ ts → shape q t = true) → (∀ u, u ∈ us → validT u = true) → us.length = ts.length → mtL L.length 0 k d i ts us st = (true, st') → Agree L st' → st.1.length = L.length → st.2.length = L.length → flSL L k d i ts = us ∧ Agree L st) ?_ ?_ ?_).1 p
  · intro k n ks ih q d u st st' hd hs hv hm ha hl1 hl2
    obtain ⟨q, rfl, har, _, _, hk⟩ := shape_pos hs
    rw [mt] at hm
    by_cases h : k = 1 ∧ d ≤ n
    · obtain ⟨rfl, hdn⟩ := h
      rw [if_pos ⟨rfl, hdn⟩] at hm
      rw [flS, if_pos ⟨rfl, hdn⟩]
      by_cases hlt : n < d + L.length
      · rw [if_pos hlt] at hm
        rw [if_pos hlt]
        rw [shiftI_down hd hv] at hm
        by_cases hkp : kpS d 0 u = true
        · rw [if_pos hkp] at hm
          simp only at hm
          have hi : (n - d).toNat < L.length := by omega
          have hback := shS_up_down hd u 0 hkp
          split at hm
          · rename_i hf
            injection hm with h1 h2
            subst h2
            have h3 := tmEq_iff.1 h1
            have h4 := ha.2.2 _ hf
            refine ⟨?_, ha⟩
            have : L.getD (n - d).toNat default = L.getD (n - d).toNat zeroT := rfl
            rw [this, ← h4, h3, hback]
          · rename_i hf
            injection hm with h1 h2
            subst h2
            have h4 := ha.2.2 (n - d).toNat (getD_set_eq _ _ (by omega))
            rw [getD_set_eq _ _ (by omega)] at h4
            refine ⟨?_, hl1, hl2, fun j hj => ?_⟩
            · have : L.getD (n - d).toNat default = L.getD (n - d).toNat zeroT := rfl
              rw [this, ← h4, hback]
            · have hne : (n - d).toNat ≠ j := by rintro rfl; exact hf hj
              have := ha.2.2 j (by rw [getD_set_ne _ _ hne]; exact hj)
              rw [getD_set_ne _ _ hne] at this
              exact this
        · rw [if_neg hkp] at hm
          simp at hm
      · rw [if_neg hlt] at hm
        rw [if_neg hlt]
        injection hm with h1 h2
        subst h2
        obtain ⟨ku, nu, us⟩ := u
        simp only [Tm.k, Tm.n, Bool.and_eq_true, beq_iff_eq] at h1
        obtain ⟨rfl, rfl⟩ := h1
        have := valid_var hv
        subst this
        exact ⟨by simp, ha⟩
    · rw [if_neg h] at hm
      rw [flS, if_neg h]
      obtain ⟨ku, nu, us⟩ := u
      split at hm
      · rename_i hh
        obtain ⟨h1, h2, h3⟩ := hh
        have h1 : ku = k := h1
        have h2 : nu = n := h2
        subst h1 h2
        have hx := ih _ _ _ _ _ _ _ hd hk (fun u hu => validT_kid hv hu) h3 hm ha hl1 hl2
        rw [hx.1]
        exact ⟨rfl, hx.2⟩
      · simp at hm
  · intro q k d i us st st' _ _ _ hl hm ha _ _
    have : us = [] := List.eq_nil_of_length_eq_zero hl
    subst this
    rw [mtL] at hm
    · injection hm with _ h2; subst h2; exact ⟨by simp [flSL], ha⟩
    · intro _ _ _ _ h; cases h
  · intro t ts h1 h2 q k d i us st st' hd hs hv hl hm ha hl1 hl2
    cases us with
    | nil => simp at hl
    | cons u us =>
      rw [mtL] at hm
      have hun := under_le k (i : Nat)
      cases hb : mt L.length 0 (d + under k i) t u st with
      | mk b st2 =>
        rw [hb] at hm
        cases b with
        | false => simp at hm
        | true =>
          simp only [if_true] at hm
          have hlen := mt_length L.length 0 t (d + under k i) u st
          rw [hb] at hlen
          obtain ⟨e2, a2⟩ := h2 q k d (i + 1) us st2 st' hd (fun t ht => hs t (by simp [ht])) (fun u hu => hv u (by simp [hu])) (by simpa using hl) hm ha (by rw [← hl1]; exact hlen.1) (by rw [← hl2]; exact hlen.2)
          obtain ⟨e1, a1⟩ := h1 q (d + under k i) u st st2 (by omega) (hs t (by simp)) (hv u (by simp)) hb a2 hl1 hl2
          exact ⟨by rw [flSL, e1, e2], a1⟩
/-- what is found is valid -/
theorem mt_found {m : Nat} (p : Tm) : ∀ (d : Int) (u : Tm) (st : St), (∀ i, st.2.getD i false = true → validT (st.1.getD i zeroT) = true) → st.1.length = m → st.2.length = m → ∀ i, (mt m 0 d p u st).2.2.getD i false = true → validT ((mt m 0 d p u st).2.1.getD i zeroT) = true := by
  refine (Tm.ind2 (p := fun p => ∀ (d : Int) (u : Tm) (st : St), (∀ i, st.2.getD i false = true → validT (st.1.getD i zeroT) = true) → st.1.length = m → st.2.length = m → ∀ i, (mt m 0 d p u st).2.2.getD i false = true → validT ((mt m 0 d p u st).2.1.getD i zeroT) = true)
    (q := fun ts => ∀ (k d : Int) (i : Nat) (us : List Tm) (st : St), (∀ i, st.2.getD i false = true → validT (st.1.getD i zeroT) = true) → st.1.length = m → st.2.length = m → ∀ j, (mtL m 0 k d i ts us st).2.2.getD j false = true → validT ((mtL m 0 k d i ts us st).2.1.getD j zeroT) = true) ?_ ?_ ?_).1 p
  · intro k n ks ih d u st hf h1 h2 i hi
    rw [mt] at hi ⊢
    split at hi
    · rename_i h
      rw [if_pos h]
      split at hi
      · rename_i hlt
        rw [if_pos hlt]
        cases hsh : shiftI (-d) 0 u with
        | none => rw [hsh] at hi; exact hf i hi
        | some low =>
          rw [hsh] at hi
          simp only at hi ⊢
          have hlow : validT low = true := by
            unfold shiftI at hsh
            split at hsh
            · split at hsh
              · rename_i hv; injection hsh with hsh; subst hsh; exact hv
              · cases hsh
            · cases hsh
          split at hi
          · rename_i hfl; rw [if_pos hfl]; exact hf i hi
          · rename_i hfl
            rw [if_neg hfl]
            simp only at hi ⊢
            by_cases hij : (n - d).toNat = i
            · subst hij
              rw [getD_set_eq _ _ (by omega)]; exact hlow
            · rw [getD_set_ne _ _ hij] at hi ⊢
              exact hf i hi
      · rename_i hlt; rw [if_neg hlt]; exact hf i hi
    · rename_i h
      rw [if_neg h]
      split at hi
      · rename_i hh; rw [if_pos hh]; exact ih _ _ _ _ _ hf h1 h2 i hi
      · rename_i hh; rw [if_neg hh]; exact hf i hi
  · intro k d i us st hf _ _ j hj
    rw [mtL] at hj ⊢
    · exact hf j hj
    all_goals (intro _ _ _ _ h; cases h)
  · intro t ts a1 a2 k d i us st hf h1 h2 j hj
    cases us with
    | nil =>
      rw [mtL] at hj ⊢
      · exact hf j hj
      all_goals (intro _ _ _ _ _ h; cases h)
    | cons u us =>
      rw [mtL] at hj ⊢
      have hx := a1 (d + under k i) u st hf h1 h2
      have hlen := mt_length m 0 t (d + under k i) u st
      split at hj
      · rename_i hb; rw [if_pos hb]; exact a2 _ _ _ _ _ hx (hlen.1.trans h1) (hlen.2.trans h2) j hj
      · rename_i hb; rw [if_neg hb]; exact hx j hj

theorem tryS_some {m : Nat} {p u : Tm} {L : List Tm} (h : tryS m 0 p u = some L) : ∃ st, mt m 0 0 p u (List.replicate m zeroT, List.replicate m false) = (true, st) ∧ st.1 = L ∧ st.2.all id = true ∧ L.length = m ∧ st.2.length = m := by
  unfold tryS at h
  split at h
  · rename_i hh
    injection h with h
    have hlen := mt_length m 0 p 0 u (List.replicate m zeroT, List.replicate m false)
    refine ⟨(mt0 m 0 p u).2, Prod.ext hh.1 rfl, h, hh.2, ?_, ?_⟩
    · rw [← h]; simpa [mt0] using hlen.1
    · simpa [mt0] using hlen.2
  · cases h
/-- what matches, filled, is the term -/
theorem match_fill {p : Tm} {z : Int} {u : Tm} {L : List Tm} (h : matchTS p z u = some L) : fillTS p L = some u ∧ (L.length : Int) = z := by
  unfold matchTS at h
  split at h
  · rename_i hh
    obtain ⟨hp, hu, hz0, hz6⟩ := hh
    obtain ⟨st, hm, h1, hall, hl1, hl2⟩ := tryS_some h
    subst h1
    rw [← hl1] at hm hl2
    have hall' := (all_getD st.2).1 hall
    have hfill := mt_fill (L := st.1) (by omega) p 30 0 u _ st (by omega) (validT_shape hp) hu hm ⟨rfl, hl2, fun i _ => rfl⟩ (by simp) (by simp)
    have hfound := mt_found (m := st.1.length) p 0 u (List.replicate st.1.length zeroT, List.replicate st.1.length false) (fun i hi => by simp [List.getD_eq_getElem?_getD, List.getElem?_replicate] at hi; split at hi <;> simp at hi) (by simp) (by simp)
    rw [hm] at hfound
    refine ⟨?_, by omega⟩
    have hany : (st.1.any fun a => !validT a) = false := by
      refine Bool.eq_false_iff.2 fun hc => ?_
      obtain ⟨a, ha, hva⟩ := List.any_eq_true.1 hc
      obtain ⟨i, hi, rfl⟩ := List.getElem_of_mem ha
      have := hfound i (hall' i (by omega))
      simp only [List.getD_eq_getElem?_getD, List.getElem?_eq_getElem hi, Option.getD_some] at this
      rw [this] at hva
      cases hva
    unfold fillTS
    rw [if_pos ⟨hp, by omega, hany, by rw [hfill.1]; exact hu⟩, hfill.1]
  · cases h
end Go.Proofs.Ytodkenpmhhbppaa

namespace Go.Proofs.Ytodkenpmhhbppaa
open Go.RowKit
set_option linter.unusedSimpArgs false
set_option linter.unusedVariables false

theorem fill_mt {L : List Tm} (hL6 : L.length ≤ 1000) (p : Tm) : ∀ (q : Nat) (d : Int) (st : St), 0 ≤ d → shape q p = true → validT (flS L d p) = true → Agree L st → ∃ st', mt L.length 0 d p (flS L d p) st = (true, st') ∧ Agree L st' := by
  refine (Tm.ind2 (p := fun p => ∀ (q : Nat) (d : Int) (st : St), 0 ≤ d → shape q p = true → validT (flS L d p) = true → Agree L st → ∃ st', mt L.length 0 d p (flS L d p) st = (true, st') ∧ Agree L st')
    (q := fun ts => ∀ (q : Nat) (k d : Int) (i : Nat) (st : St), 0 ≤ d → (∀ t, t ∈ ts → shape q t = true) → (∀ u, u ∈ flSL L k d i ts → validT u = true) → Agree L st → ∃ st', mtL L.length 0 k d i ts (flSL L k d i ts) st = (true, st') ∧ Agree L st') ?_ ?_ ?_).1 p
  · intro k n ks ih q d st hd hs hv ha
    obtain ⟨q, rfl, har, _, _, hk⟩ := shape_pos hs
    rw [mt]
    rw [flS] at hv ⊢
    by_cases h : k = 1 ∧ d ≤ n
    · rw [if_pos h] at hv ⊢
      rw [if_pos h]
      by_cases hlt : n < d + L.length
      · rw [if_pos hlt] at hv ⊢
        rw [if_pos hlt]
        have hi : (n - d).toNat < L.length := by omega
        have hdu := shS_down_up hd (L.getD (n - d).toNat default) 0
        have hsh := shiftI_down hd hv
        rw [if_pos hdu.2, hdu.1] at hsh
        rw [hsh]
        simp only
        have hde : L.getD (n - d).toNat default = L.getD (n - d).toNat zeroT := rfl
        by_cases hf : st.2.getD (n - d).toNat false = true
        · rw [if_pos hf]
          refine ⟨st, ?_, ha⟩
          rw [hde, ha.2.2 _ hf, tmEq_self]
        · rw [if_neg hf]
          refine ⟨_, rfl, by simpa using ha.1, by simpa using ha.2.1, fun j hj => ?_⟩
          by_cases hij : (n - d).toNat = j
          · subst hij
            rw [getD_set_eq _ _ (by rw [ha.1]; exact hi), hde]
          · rw [getD_set_ne _ _ hij] at hj ⊢
            exact ha.2.2 j hj
      · rw [if_neg hlt]
        rw [if_neg hlt]
        refine ⟨st, ?_, ha⟩
        simp [Tm.k, Tm.n]
    · rw [if_neg h] at hv ⊢
      rw [if_neg h]
      rw [if_pos (show (Tm.mk k n (flSL L k d 0 ks)).k = k ∧ (Tm.mk k n (flSL L k d 0 ks)).n = n ∧ (Tm.mk k n (flSL L k d 0 ks)).kids.length = ks.length from ⟨rfl, rfl, flSL_length _ _ _ _ _⟩)]
      exact ih q k d 0 st hd hk (fun u hu => validT_kid hv hu) ha
  · intro q k d i st _ _ _ ha
    refine ⟨st, ?_, ha⟩
    rw [mtL]
    intro _ _ _ _ h; cases h
  · intro t ts h1 h2 q k d i st hd hs hv ha
    have hun := under_le k (i : Nat)
    rw [flSL] at hv ⊢
    obtain ⟨st1, e1, a1⟩ := h1 q (d + under k i) st (by omega) (hs t (by simp)) (hv _ (by simp)) ha
    obtain ⟨st2, e2, a2⟩ := h2 q k d (i + 1) st1 hd (fun t ht => hs t (by simp [ht])) (fun u hu => hv u (by simp [hu])) a1
    refine ⟨st2, ?_, a2⟩
    rw [mtL, e1]
    simp only [if_true]
    exact e2
/-- whether all the holes occur -/
def allOcc (m : Nat) (p : Tm) : Bool := (List.range m).all fun j => decide (0 < cnV (j : Nat) 0 p)
theorem allOcc_succ (m : Nat) (p : Tm) : allOcc (m + 1) p = (allOcc m p && decide (0 < cnV (m : Nat) 0 p)) := by
  unfold allOcc
  rw [List.range_succ, List.all_append]
  simp
theorem allOcc_iff (m : Nat) (p : Tm) : allOcc m p = true ↔ ∀ j : Nat, j < m → 0 < cnV j 0 p := by
  unfold allOcc
  rw [List.all_eq_true]
  constructor
  · intro h j hj
    simpa using h j (by simpa using hj)
  · intro h j hj
    simpa using h j (by simpa using hj)
/-- a filled pattern matches what its holes were filled with, if all of them occur -/
theorem fill_match {p : Tm} {L : List Tm} {t : Tm} (h : fillTS p L = some t) : matchTS p L.length t = if allOcc L.length p = true then some L else none := by
  unfold fillTS at h
  split at h
  · rename_i hh
    obtain ⟨hp, hl6, _, hv⟩ := hh
    injection h with h
    subst h
    unfold matchTS
    rw [if_pos ⟨hp, hv, by omega, by omega⟩]
    have e : ((L.length : Int)).toNat = L.length := by simp
    rw [e]
    obtain ⟨st', hm, ha⟩ := fill_mt (L := L) (by omega) p 30 0 (List.replicate L.length zeroT, List.replicate L.length false) (by omega) (validT_shape hp) hv
      ⟨by simp, by simp, fun i hi => by simp [List.getD_eq_getElem?_getD, List.getElem?_replicate] at hi; split at hi <;> simp at hi⟩
    have hm0 : mt0 L.length 0 p (flS L 0 p) = (true, st') := hm
    have hseen := seen_all (m := L.length) (add := 0) (p := p) (u := flS L 0 p) (validT_shape hp) (by rw [hm0])
    rw [hm0] at hseen
    unfold tryS
    rw [hm0]
    by_cases hall : allOcc L.length p = true
    · rw [if_pos hall]
      have h2 := hseen.2 ((allOcc_iff _ _).1 hall)
      rw [if_pos ⟨rfl, h2⟩]
      have hL : st'.1 = L := by
        refine List.ext_getElem ha.1 fun i h1 h2' => ?_
        have h3 := ha.2.2 i ((all_getD st'.2).1 h2 i (by have := ha.2.1; omega))
        simpa [List.getD_eq_getElem?_getD, List.getElem?_eq_getElem h1, List.getElem?_eq_getElem h2'] using h3
      rw [hL]
    · rw [if_neg hall, if_neg]
      intro hc
      exact hall ((allOcc_iff _ _).2 (hseen.1 hc.2))
  · cases h
end Go.Proofs.Ytodkenpmhhbppaa

namespace Go.Proofs.Ytodkenpmhhbppaa
open Go.RowKit
set_option linter.unusedSimpArgs false
set_option linter.unusedVariables false

/-- what MoreGeneral answers -/
def moreS (p : Tm) (z : Int) (u : Tm) (y : Int) : Bool := if validT p = true ∧ validT u = true ∧ (0 ≤ z ∧ z ≤ 6) ∧ (0 ≤ y ∧ y ≤ 6) then (tryS z.toNat y p u).isSome else false

set_option maxHeartbeats 2000000 in
set_option maxRecDepth 100000 in
theorem sMoreGeneral_any (k n : Int) (ks : List Tm) (A : Option Addr) (c : Nat) (z : Int) (ku nu : Int) (us : List Tm) (U : Option Addr) (cu : Nat) (y : Int) (w : World) (hz : (Lit.int .i64 z).wf = true) (hy : (Lit.int .i64 y).wf = true) (hM : sizes ks ≤ 1048576) (hMu : sizes us ≤ 1048576) (hr : Rd w A 0 ks) (hru : Rd w U 0 us) :
    Calls Try.prog 28 #[.agg #[.int .i64 k, .int .i64 n, .slice A ks.length c], .int .i64 z, .agg #[.int .i64 ku, .int .i64 nu, .slice U us.length cu], .int .i64 y] w fun e w' => e = .returned (.bool (moreS (.mk k n ks) z (.mk ku nu us) y)) ∧ Below w.heap.size w w' := by
  have hzr := lit_range hz
  have hyr := lit_range hy
  clear hz hy
  by_cases hall : validT (.mk k n ks) = true ∧ validT (.mk ku nu us) = true ∧ (0 ≤ z ∧ z ≤ 6) ∧ (0 ≤ y ∧ y ≤ 6)
  · obtain ⟨hvp, hvu, hzi, hyi⟩ := hall
    have hmm : moreS (.mk k n ks) z (.mk ku nu us) y = (tryS z.toNat y (.mk k n ks) (.mk ku nu us)).isSome := by rw [moreS, if_pos ⟨hvp, hvu, hzi, hyi⟩]
    obtain ⟨m, rfl⟩ : ∃ m : Nat, z = (m : Int) := ⟨z.toNat, by omega⟩
    rw [hmm, Int.toNat_natCast]
    have hm : m ≤ 6 := by omega
    have q1 : decide ((m : Int) < 0) = false := decide_eq_false (by omega)
    have q2 : decide ((6 : Int) < (m : Int)) = false := decide_eq_false (by omega)
    have q3 : (decide (0 ≤ (m : Int)) && decide ((m : Int) ≤ 6)) = true := by simp; omega
    have q4 : decide (y < 0) = false := decide_eq_false (by omega)
    have q5 : decide (6 < y) = false := decide_eq_false (by omega)
    have q6 : (decide (0 ≤ y) && decide (y ≤ 6)) = true := by simp; omega
    generalize hoo : tryS m y (.mk k n ks) (.mk ku nu us) = oo
    have hoo' := hide hoo
    clear hmm hoo
    go_enter Try.func28, Try.ntmps28
    go_wp2_with (first | (go_at_call 73; refine (sTry_any m hm y hyi k n ks A c ku nu us U cu _ hvp hvu (hr.below hb2) (hru.below hb2)).mono ?_; rw [hoo'.out]; rintro e w3 ⟨A3, c3, rfl, hf3, hb3⟩) | (go_at_call 60; refine (sTermValid_any ku nu us U cu _ (by omega) (hru.below hb1)).mono ?_; rw [hvu]; rintro e w2 ⟨rfl, hb2⟩; have hB02 := hB0.keep hb2; have hB12 := hB1.keep hb2; clear u0 u1 u2; have p0 := hB02.at_ (i := 0) rfl; have p1 := hB02.at_ (i := 1) rfl; have p2 := hB02.at_ (i := 2) rfl; have v0 := hB12.at_ (i := 0) rfl; have v1 := hB12.at_ (i := 1) rfl; have v2 := hB12.at_ (i := 2) rfl; replace hb2 : Below w.heap.size w w2 := hb1.trans (hb2.mono hb1.size)) | (go_at_call 60; refine (sTermValid_any k n ks A c _ (by omega) ((hr.alloc _).alloc _)).mono ?_; rw [hvp]; rintro e w1 ⟨rfl, hb1⟩; have hB0 : Blk w1 w.heap.size #[.int .i64 k, .int .i64 n, .slice A ks.length c] := ((Blk.new_ w 25 #[.int .i64 k, .int .i64 n, .slice A ks.length c] rfl).alloc (.cells #[.int .i64 ku, .int .i64 nu, .slice U us.length cu] 25)).keep hb1; have hB1 : Blk w1 (w.heap.size + 1) #[.int .i64 ku, .int .i64 nu, .slice U us.length cu] := (Blk.new_ (w.alloc (.cells #[.int .i64 k, .int .i64 n, .slice A ks.length c] 25)) 25 #[.int .i64 ku, .int .i64 nu, .slice U us.length cu] (by simp)).keep hb1; have u0 := hB1.at_ (i := 0) rfl; have u1 := hB1.at_ (i := 1) rfl; have u2 := hB1.at_ (i := 2) rfl; replace hb1 : Below w.heap.size w w1 := (((Below.refl _ _).alloc (Nat.le_refl _) _).alloc (by simp) _).trans (hb1.mono (by simp; omega))))
    go_ret
    exact ⟨rfl, hb2.trans (hb3.mono hb2.size)⟩
  · rw [moreS, if_neg hall]
    cases hvp : validT (.mk k n ks) with
    | false =>
      clear hall
      go_enter Try.func28, Try.ntmps28
      go_wp2_with (go_at_call 60; refine (sTermValid_any k n ks A c _ (by omega) ((hr.alloc _).alloc _)).mono ?_; rw [hvp]; rintro e w1 ⟨rfl, hb1⟩; have hB0 : Blk w1 w.heap.size #[.int .i64 k, .int .i64 n, .slice A ks.length c] := ((Blk.new_ w 25 #[.int .i64 k, .int .i64 n, .slice A ks.length c] rfl).alloc (.cells #[.int .i64 ku, .int .i64 nu, .slice U us.length cu] 25)).keep hb1; have hB1 : Blk w1 (w.heap.size + 1) #[.int .i64 ku, .int .i64 nu, .slice U us.length cu] := (Blk.new_ (w.alloc (.cells #[.int .i64 k, .int .i64 n, .slice A ks.length c] 25)) 25 #[.int .i64 ku, .int .i64 nu, .slice U us.length cu] (by simp)).keep hb1; have u0 := hB1.at_ (i := 0) rfl; have u1 := hB1.at_ (i := 1) rfl; have u2 := hB1.at_ (i := 2) rfl; replace hb1 : Below w.heap.size w w1 := (((Below.refl _ _).alloc (Nat.le_refl _) _).alloc (by simp) _).trans (hb1.mono (by simp; omega)))
      go_ret
      exact ⟨rfl, hb1⟩
    | true =>
      cases hvu : validT (.mk ku nu us) with
      | false =>
        clear hall
        go_enter Try.func28, Try.ntmps28
        go_wp2_with (first | (go_at_call 60; refine (sTermValid_any ku nu us U cu _ (by omega) (hru.below hb1)).mono ?_; rw [hvu]; rintro e w2 ⟨rfl, hb2⟩; have hB02 := hB0.keep hb2; have hB12 := hB1.keep hb2; clear u0 u1 u2; have p0 := hB02.at_ (i := 0) rfl; have p1 := hB02.at_ (i := 1) rfl; have p2 := hB02.at_ (i := 2) rfl; have v0 := hB12.at_ (i := 0) rfl; have v1 := hB12.at_ (i := 1) rfl; have v2 := hB12.at_ (i := 2) rfl; replace hb2 : Below w.heap.size w w2 := hb1.trans (hb2.mono hb1.size)) | (go_at_call 60; refine (sTermValid_any k n ks A c _ (by omega) ((hr.alloc _).alloc _)).mono ?_; rw [hvp]; rintro e w1 ⟨rfl, hb1⟩; have hB0 : Blk w1 w.heap.size #[.int .i64 k, .int .i64 n, .slice A ks.length c] := ((Blk.new_ w 25 #[.int .i64 k, .int .i64 n, .slice A ks.length c] rfl).alloc (.cells #[.int .i64 ku, .int .i64 nu, .slice U us.length cu] 25)).keep hb1; have hB1 : Blk w1 (w.heap.size + 1) #[.int .i64 ku, .int .i64 nu, .slice U us.length cu] := (Blk.new_ (w.alloc (.cells #[.int .i64 k, .int .i64 n, .slice A ks.length c] 25)) 25 #[.int .i64 ku, .int .i64 nu, .slice U us.length cu] (by simp)).keep hb1; have u0 := hB1.at_ (i := 0) rfl; have u1 := hB1.at_ (i := 1) rfl; have u2 := hB1.at_ (i := 2) rfl; replace hb1 : Below w.heap.size w w1 := (((Below.refl _ _).alloc (Nat.le_refl _) _).alloc (by simp) _).trans (hb1.mono (by simp; omega))))
        go_ret
        exact ⟨rfl, hb2⟩
      | true =>
        by_cases h1 : z < 0
        · have q1 : decide (z < 0) = true := decide_eq_true h1
          clear hall h1
          go_enter Try.func28, Try.ntmps28
          go_wp2_with (first | (go_at_call 60; refine (sTermValid_any ku nu us U cu _ (by omega) (hru.below hb1)).mono ?_; rw [hvu]; rintro e w2 ⟨rfl, hb2⟩; have hB02 := hB0.keep hb2; have hB12 := hB1.keep hb2; clear u0 u1 u2; have p0 := hB02.at_ (i := 0) rfl; have p1 := hB02.at_ (i := 1) rfl; have p2 := hB02.at_ (i := 2) rfl; have v0 := hB12.at_ (i := 0) rfl; have v1 := hB12.at_ (i := 1) rfl; have v2 := hB12.at_ (i := 2) rfl; replace hb2 : Below w.heap.size w w2 := hb1.trans (hb2.mono hb1.size)) | (go_at_call 60; refine (sTermValid_any k n ks A c _ (by omega) ((hr.alloc _).alloc _)).mono ?_; rw [hvp]; rintro e w1 ⟨rfl, hb1⟩; have hB0 : Blk w1 w.heap.size #[.int .i64 k, .int .i64 n, .slice A ks.length c] := ((Blk.new_ w 25 #[.int .i64 k, .int .i64 n, .slice A ks.length c] rfl).alloc (.cells #[.int .i64 ku, .int .i64 nu, .slice U us.length cu] 25)).keep hb1; have hB1 : Blk w1 (w.heap.size + 1) #[.int .i64 ku, .int .i64 nu, .slice U us.length cu] := (Blk.new_ (w.alloc (.cells #[.int .i64 k, .int .i64 n, .slice A ks.length c] 25)) 25 #[.int .i64 ku, .int .i64 nu, .slice U us.length cu] (by simp)).keep hb1; have u0 := hB1.at_ (i := 0) rfl; have u1 := hB1.at_ (i := 1) rfl; have u2 := hB1.at_ (i := 2) rfl; replace hb1 : Below w.heap.size w w1 := (((Below.refl _ _).alloc (Nat.le_refl _) _).alloc (by simp) _).trans (hb1.mono (by simp; omega))))
          go_ret
          exact ⟨rfl, hb2⟩
        · have q1 : decide (z < 0) = false := decide_eq_false h1
          by_cases h2 : 6 < z
          · have q2 : decide (6 < z) = true := decide_eq_true h2
            clear hall h1 h2
            go_enter Try.func28, Try.ntmps28
            go_wp2_with (first | (go_at_call 60; refine (sTermValid_any ku nu us U cu _ (by omega) (hru.below hb1)).mono ?_; rw [hvu]; rintro e w2 ⟨rfl, hb2⟩; have hB02 := hB0.keep hb2; have hB12 := hB1.keep hb2; clear u0 u1 u2; have p0 := hB02.at_ (i := 0) rfl; have p1 := hB02.at_ (i := 1) rfl; have p2 := hB02.at_ (i := 2) rfl; have v0 := hB12.at_ (i := 0) rfl; have v1 := hB12.at_ (i := 1) rfl; have v2 := hB12.at_ (i := 2) rfl; replace hb2 : Below w.heap.size w w2 := hb1.trans (hb2.mono hb1.size)) | (go_at_call 60; refine (sTermValid_any k n ks A c _ (by omega) ((hr.alloc _).alloc _)).mono ?_; rw [hvp]; rintro e w1 ⟨rfl, hb1⟩; have hB0 : Blk w1 w.heap.size #[.int .i64 k, .int .i64 n, .slice A ks.length c] := ((Blk.new_ w 25 #[.int .i64 k, .int .i64 n, .slice A ks.length c] rfl).alloc (.cells #[.int .i64 ku, .int .i64 nu, .slice U us.length cu] 25)).keep hb1; have hB1 : Blk w1 (w.heap.size + 1) #[.int .i64 ku, .int .i64 nu, .slice U us.length cu] := (Blk.new_ (w.alloc (.cells #[.int .i64 k, .int .i64 n, .slice A ks.length c] 25)) 25 #[.int .i64 ku, .int .i64 nu, .slice U us.length cu] (by simp)).keep hb1; have u0 := hB1.at_ (i := 0) rfl; have u1 := hB1.at_ (i := 1) rfl; have u2 := hB1.at_ (i := 2) rfl; replace hb1 : Below w.heap.size w w1 := (((Below.refl _ _).alloc (Nat.le_refl _) _).alloc (by simp) _).trans (hb1.mono (by simp; omega))))
            go_ret
            exact ⟨rfl, hb2⟩
          · have q2 : decide (6 < z) = false := decide_eq_false h2
            by_cases h3 : y < 0
            · have q3 : decide (y < 0) = true := decide_eq_true h3
              clear hall h1 h2 h3
              go_enter Try.func28, Try.ntmps28
              go_wp2_with (first | (go_at_call 60; refine (sTermValid_any ku nu us U cu _ (by omega) (hru.below hb1)).mono ?_; rw [hvu]; rintro e w2 ⟨rfl, hb2⟩; have hB02 := hB0.keep hb2; have hB12 := hB1.keep hb2; clear u0 u1 u2; have p0 := hB02.at_ (i := 0) rfl; have p1 := hB02.at_ (i := 1) rfl; have p2 := hB02.at_ (i := 2) rfl; have v0 := hB12.at_ (i := 0) rfl; have v1 := hB12.at_ (i := 1) rfl; have v2 := hB12.at_ (i := 2) rfl; replace hb2 : Below w.heap.size w w2 := hb1.trans (hb2.mono hb1.size)) | (go_at_call 60; refine (sTermValid_any k n ks A c _ (by omega) ((hr.alloc _).alloc _)).mono ?_; rw [hvp]; rintro e w1 ⟨rfl, hb1⟩; have hB0 : Blk w1 w.heap.size #[.int .i64 k, .int .i64 n, .slice A ks.length c] := ((Blk.new_ w 25 #[.int .i64 k, .int .i64 n, .slice A ks.length c] rfl).alloc (.cells #[.int .i64 ku, .int .i64 nu, .slice U us.length cu] 25)).keep hb1; have hB1 : Blk w1 (w.heap.size + 1) #[.int .i64 ku, .int .i64 nu, .slice U us.length cu] := (Blk.new_ (w.alloc (.cells #[.int .i64 k, .int .i64 n, .slice A ks.length c] 25)) 25 #[.int .i64 ku, .int .i64 nu, .slice U us.length cu] (by simp)).keep hb1; have u0 := hB1.at_ (i := 0) rfl; have u1 := hB1.at_ (i := 1) rfl; have u2 := hB1.at_ (i := 2) rfl; replace hb1 : Below w.heap.size w w1 := (((Below.refl _ _).alloc (Nat.le_refl _) _).alloc (by simp) _).trans (hb1.mono (by simp; omega))))
              go_ret
              exact ⟨rfl, hb2⟩
            · have q3 : decide (y < 0) = false := decide_eq_false h3
              have q4 : decide (6 < y) = true := decide_eq_true (by by_cases h4 : 6 < y; (· exact h4); (· exact absurd ⟨hvp, hvu, by omega, by omega⟩ hall))
              clear hall h1 h2 h3
              go_enter Try.func28, Try.ntmps28
              go_wp2_with (first | (go_at_call 60; refine (sTermValid_any ku nu us U cu _ (by omega) (hru.below hb1)).mono ?_; rw [hvu]; rintro e w2 ⟨rfl, hb2⟩; have hB02 := hB0.keep hb2; have hB12 := hB1.keep hb2; clear u0 u1 u2; have p0 := hB02.at_ (i := 0) rfl; have p1 := hB02.at_ (i := 1) rfl; have p2 := hB02.at_ (i := 2) rfl; have v0 := hB12.at_ (i := 0) rfl; have v1 := hB12.at_ (i := 1) rfl; have v2 := hB12.at_ (i := 2) rfl; replace hb2 : Below w.heap.size w w2 := hb1.trans (hb2.mono hb1.size)) | (go_at_call 60; refine (sTermValid_any k n ks A c _ (by omega) ((hr.alloc _).alloc _)).mono ?_; rw [hvp]; rintro e w1 ⟨rfl, hb1⟩; have hB0 : Blk w1 w.heap.size #[.int .i64 k, .int .i64 n, .slice A ks.length c] := ((Blk.new_ w 25 #[.int .i64 k, .int .i64 n, .slice A ks.length c] rfl).alloc (.cells #[.int .i64 ku, .int .i64 nu, .slice U us.length cu] 25)).keep hb1; have hB1 : Blk w1 (w.heap.size + 1) #[.int .i64 ku, .int .i64 nu, .slice U us.length cu] := (Blk.new_ (w.alloc (.cells #[.int .i64 k, .int .i64 n, .slice A ks.length c] 25)) 25 #[.int .i64 ku, .int .i64 nu, .slice U us.length cu] (by simp)).keep hb1; have u0 := hB1.at_ (i := 0) rfl; have u1 := hB1.at_ (i := 1) rfl; have u2 := hB1.at_ (i := 2) rfl; replace hb1 : Below w.heap.size w w1 := (((Below.refl _ _).alloc (Nat.le_refl _) _).alloc (by simp) _).trans (hb1.mono (by simp; omega))))
              go_ret
              exact ⟨rfl, hb2⟩

set_option maxHeartbeats 2000000 in
set_option maxRecDepth 100000 in
theorem iMoreGeneral_any (k n : Int) (ks : List Tm) (A : Option Addr) (c : Nat) (z : Int) (ku nu : Int) (us : List Tm) (U : Option Addr) (cu : Nat) (y : Int) (w : World) (hz : (Lit.int .i64 z).wf = true) (hy : (Lit.int .i64 y).wf = true) (hM : sizes ks ≤ 1048576) (hMu : sizes us ≤ 1048576) (hr : Rd w A 0 ks) (hru : Rd w U 0 us) :
    Calls Try.prog 27 #[.agg #[.int .i64 k, .int .i64 n, .slice A ks.length c], .int .i64 z, .agg #[.int .i64 ku, .int .i64 nu, .slice U us.length cu], .int .i64 y] w fun e w' => e = .returned (.bool (moreS (.mk k n ks) z (.mk ku nu us) y)) ∧ Below w.heap.size w w' := by
  have hzr := lit_range hz
  have hyr := lit_range hy
  clear hz hy
  by_cases hall : validT (.mk k n ks) = true ∧ validT (.mk ku nu us) = true ∧ (0 ≤ z ∧ z ≤ 6) ∧ (0 ≤ y ∧ y ≤ 6)
  · obtain ⟨hvp, hvu, hzi, hyi⟩ := hall
    have hmm : moreS (.mk k n ks) z (.mk ku nu us) y = (tryS z.toNat y (.mk k n ks) (.mk ku nu us)).isSome := by rw [moreS, if_pos ⟨hvp, hvu, hzi, hyi⟩]
    obtain ⟨m, rfl⟩ : ∃ m : Nat, z = (m : Int) := ⟨z.toNat, by omega⟩
    rw [hmm, Int.toNat_natCast]
    have hm : m ≤ 6 := by omega
    have q1 : decide ((m : Int) < 0) = false := decide_eq_false (by omega)
    have q2 : decide ((6 : Int) < (m : Int)) = false := decide_eq_false (by omega)
    have q3 : (decide (0 ≤ (m : Int)) && decide ((m : Int) ≤ 6)) = true := by simp; omega
    have q4 : decide (y < 0) = false := decide_eq_false (by omega)
    have q5 : decide (6 < y) = false := decide_eq_false (by omega)
    have q6 : (decide (0 ≤ y) && decide (y ≤ 6)) = true := by simp; omega
    generalize hoo : tryS m y (.mk k n ks) (.mk ku nu us) = oo
    have hoo' := hide hoo
    clear hmm hoo
    go_enter Try.func27, Try.ntmps27
    go_wp2_with (first | (go_at_call 56; refine (isHoles_any _ _).mono ?_; rw [q3]; rintro e w3 ⟨rfl, rfl⟩) | (go_at_call 56; refine (isHoles_any _ _).mono ?_; rw [q6]; rintro e w4 ⟨rfl, rfl⟩) | (go_at_call 72; refine (iMatches_any m hm y hyi k n ks A c ku nu us U cu _ hvp hvu (hr.below hb2) (hru.below hb2)).mono ?_; rw [hoo'.out]; rintro e w3 ⟨A3, c3, rfl, hf3, hb3⟩) | (go_at_call 34; refine (iTermValid_any ku nu us U cu _ (by omega) (hru.below hb1)).mono ?_; rw [hvu]; rintro e w2 ⟨rfl, hb2⟩; have hB02 := hB0.keep hb2; have hB12 := hB1.keep hb2; clear u0 u1 u2; have p0 := hB02.at_ (i := 0) rfl; have p1 := hB02.at_ (i := 1) rfl; have p2 := hB02.at_ (i := 2) rfl; have v0 := hB12.at_ (i := 0) rfl; have v1 := hB12.at_ (i := 1) rfl; have v2 := hB12.at_ (i := 2) rfl; replace hb2 : Below w.heap.size w w2 := hb1.trans (hb2.mono hb1.size)) | (go_at_call 34; refine (iTermValid_any k n ks A c _ (by omega) ((hr.alloc _).alloc _)).mono ?_; rw [hvp]; rintro e w1 ⟨rfl, hb1⟩; have hB0 : Blk w1 w.heap.size #[.int .i64 k, .int .i64 n, .slice A ks.length c] := ((Blk.new_ w 25 #[.int .i64 k, .int .i64 n, .slice A ks.length c] rfl).alloc (.cells #[.int .i64 ku, .int .i64 nu, .slice U us.length cu] 25)).keep hb1; have hB1 : Blk w1 (w.heap.size + 1) #[.int .i64 ku, .int .i64 nu, .slice U us.length cu] := (Blk.new_ (w.alloc (.cells #[.int .i64 k, .int .i64 n, .slice A ks.length c] 25)) 25 #[.int .i64 ku, .int .i64 nu, .slice U us.length cu] (by simp)).keep hb1; have u0 := hB1.at_ (i := 0) rfl; have u1 := hB1.at_ (i := 1) rfl; have u2 := hB1.at_ (i := 2) rfl; replace hb1 : Below w.heap.size w w1 := (((Below.refl _ _).alloc (Nat.le_refl _) _).alloc (by simp) _).trans (hb1.mono (by simp; omega))))
    go_ret
    exact ⟨rfl, hb2.trans (hb3.mono hb2.size)⟩
  · rw [moreS, if_neg hall]
    cases hvp : validT (.mk k n ks) with
    | false =>
      clear hall
      go_enter Try.func27, Try.ntmps27
      go_wp2_with (go_at_call 34; refine (iTermValid_any k n ks A c _ (by omega) ((hr.alloc _).alloc _)).mono ?_; rw [hvp]; rintro e w1 ⟨rfl, hb1⟩; have hB0 : Blk w1 w.heap.size #[.int .i64 k, .int .i64 n, .slice A ks.length c] := ((Blk.new_ w 25 #[.int .i64 k, .int .i64 n, .slice A ks.length c] rfl).alloc (.cells #[.int .i64 ku, .int .i64 nu, .slice U us.length cu] 25)).keep hb1; have hB1 : Blk w1 (w.heap.size + 1) #[.int .i64 ku, .int .i64 nu, .slice U us.length cu] := (Blk.new_ (w.alloc (.cells #[.int .i64 k, .int .i64 n, .slice A ks.length c] 25)) 25 #[.int .i64 ku, .int .i64 nu, .slice U us.length cu] (by simp)).keep hb1; have u0 := hB1.at_ (i := 0) rfl; have u1 := hB1.at_ (i := 1) rfl; have u2 := hB1.at_ (i := 2) rfl; replace hb1 : Below w.heap.size w w1 := (((Below.refl _ _).alloc (Nat.le_refl _) _).alloc (by simp) _).trans (hb1.mono (by simp; omega)))
      go_ret
      exact ⟨rfl, hb1⟩
    | true =>
      cases hvu : validT (.mk ku nu us) with
      | false =>
        clear hall
        go_enter Try.func27, Try.ntmps27
        go_wp2_with (first | (go_at_call 34; refine (iTermValid_any ku nu us U cu _ (by omega) (hru.below hb1)).mono ?_; rw [hvu]; rintro e w2 ⟨rfl, hb2⟩; have hB02 := hB0.keep hb2; have hB12 := hB1.keep hb2; clear u0 u1 u2; have p0 := hB02.at_ (i := 0) rfl; have p1 := hB02.at_ (i := 1) rfl; have p2 := hB02.at_ (i := 2) rfl; have v0 := hB12.at_ (i := 0) rfl; have v1 := hB12.at_ (i := 1) rfl; have v2 := hB12.at_ (i := 2) rfl; replace hb2 : Below w.heap.size w w2 := hb1.trans (hb2.mono hb1.size)) | (go_at_call 34; refine (iTermValid_any k n ks A c _ (by omega) ((hr.alloc _).alloc _)).mono ?_; rw [hvp]; rintro e w1 ⟨rfl, hb1⟩; have hB0 : Blk w1 w.heap.size #[.int .i64 k, .int .i64 n, .slice A ks.length c] := ((Blk.new_ w 25 #[.int .i64 k, .int .i64 n, .slice A ks.length c] rfl).alloc (.cells #[.int .i64 ku, .int .i64 nu, .slice U us.length cu] 25)).keep hb1; have hB1 : Blk w1 (w.heap.size + 1) #[.int .i64 ku, .int .i64 nu, .slice U us.length cu] := (Blk.new_ (w.alloc (.cells #[.int .i64 k, .int .i64 n, .slice A ks.length c] 25)) 25 #[.int .i64 ku, .int .i64 nu, .slice U us.length cu] (by simp)).keep hb1; have u0 := hB1.at_ (i := 0) rfl; have u1 := hB1.at_ (i := 1) rfl; have u2 := hB1.at_ (i := 2) rfl; replace hb1 : Below w.heap.size w w1 := (((Below.refl _ _).alloc (Nat.le_refl _) _).alloc (by simp) _).trans (hb1.mono (by simp; omega))))
        go_ret
        exact ⟨rfl, hb2⟩
      | true =>
        cases qz : (decide (0 ≤ z) && decide (z ≤ 6)) with
        | false =>
          clear hall
          go_enter Try.func27, Try.ntmps27
          go_wp2_with (first | (go_at_call 56; refine (isHoles_any _ _).mono ?_; rw [qz]; rintro e w3 ⟨rfl, rfl⟩) | (go_at_call 34; refine (iTermValid_any ku nu us U cu _ (by omega) (hru.below hb1)).mono ?_; rw [hvu]; rintro e w2 ⟨rfl, hb2⟩; have hB02 := hB0.keep hb2; have hB12 := hB1.keep hb2; clear u0 u1 u2; have p0 := hB02.at_ (i := 0) rfl; have p1 := hB02.at_ (i := 1) rfl; have p2 := hB02.at_ (i := 2) rfl; have v0 := hB12.at_ (i := 0) rfl; have v1 := hB12.at_ (i := 1) rfl; have v2 := hB12.at_ (i := 2) rfl; replace hb2 : Below w.heap.size w w2 := hb1.trans (hb2.mono hb1.size)) | (go_at_call 34; refine (iTermValid_any k n ks A c _ (by omega) ((hr.alloc _).alloc _)).mono ?_; rw [hvp]; rintro e w1 ⟨rfl, hb1⟩; have hB0 : Blk w1 w.heap.size #[.int .i64 k, .int .i64 n, .slice A ks.length c] := ((Blk.new_ w 25 #[.int .i64 k, .int .i64 n, .slice A ks.length c] rfl).alloc (.cells #[.int .i64 ku, .int .i64 nu, .slice U us.length cu] 25)).keep hb1; have hB1 : Blk w1 (w.heap.size + 1) #[.int .i64 ku, .int .i64 nu, .slice U us.length cu] := (Blk.new_ (w.alloc (.cells #[.int .i64 k, .int .i64 n, .slice A ks.length c] 25)) 25 #[.int .i64 ku, .int .i64 nu, .slice U us.length cu] (by simp)).keep hb1; have u0 := hB1.at_ (i := 0) rfl; have u1 := hB1.at_ (i := 1) rfl; have u2 := hB1.at_ (i := 2) rfl; replace hb1 : Below w.heap.size w w1 := (((Below.refl _ _).alloc (Nat.le_refl _) _).alloc (by simp) _).trans (hb1.mono (by simp; omega))))
          go_ret
          exact ⟨rfl, hb2⟩
        | true =>
          have qy : (decide (0 ≤ y) && decide (y ≤ 6)) = false := by cases h : (decide (0 ≤ y) && decide (y ≤ 6)) with | false => rfl | true => exact absurd ⟨hvp, hvu, by simpa using qz, by simpa using h⟩ hall
          clear hall
          go_enter Try.func27, Try.ntmps27
          go_wp2_with (first | (go_at_call 56; refine (isHoles_any _ _).mono ?_; rw [qz]; rintro e w3 ⟨rfl, rfl⟩) | (go_at_call 56; refine (isHoles_any _ _).mono ?_; rw [qy]; rintro e w4 ⟨rfl, rfl⟩) | (go_at_call 34; refine (iTermValid_any ku nu us U cu _ (by omega) (hru.below hb1)).mono ?_; rw [hvu]; rintro e w2 ⟨rfl, hb2⟩; have hB02 := hB0.keep hb2; have hB12 := hB1.keep hb2; clear u0 u1 u2; have p0 := hB02.at_ (i := 0) rfl; have p1 := hB02.at_ (i := 1) rfl; have p2 := hB02.at_ (i := 2) rfl; have v0 := hB12.at_ (i := 0) rfl; have v1 := hB12.at_ (i := 1) rfl; have v2 := hB12.at_ (i := 2) rfl; replace hb2 : Below w.heap.size w w2 := hb1.trans (hb2.mono hb1.size)) | (go_at_call 34; refine (iTermValid_any k n ks A c _ (by omega) ((hr.alloc _).alloc _)).mono ?_; rw [hvp]; rintro e w1 ⟨rfl, hb1⟩; have hB0 : Blk w1 w.heap.size #[.int .i64 k, .int .i64 n, .slice A ks.length c] := ((Blk.new_ w 25 #[.int .i64 k, .int .i64 n, .slice A ks.length c] rfl).alloc (.cells #[.int .i64 ku, .int .i64 nu, .slice U us.length cu] 25)).keep hb1; have hB1 : Blk w1 (w.heap.size + 1) #[.int .i64 ku, .int .i64 nu, .slice U us.length cu] := (Blk.new_ (w.alloc (.cells #[.int .i64 k, .int .i64 n, .slice A ks.length c] 25)) 25 #[.int .i64 ku, .int .i64 nu, .slice U us.length cu] (by simp)).keep hb1; have u0 := hB1.at_ (i := 0) rfl; have u1 := hB1.at_ (i := 1) rfl; have u2 := hB1.at_ (i := 2) rfl; replace hb1 : Below w.heap.size w w1 := (((Below.refl _ _).alloc (Nat.le_refl _) _).alloc (by simp) _).trans (hb1.mono (by simp; omega))))
          go_ret
          exact ⟨rfl, hb2⟩
end Go.Proofs.Ytodkenpmhhbppaa

namespace Go.Proofs.Ytodkenpmhhbppaa
open Go.RowKit
set_option linter.unusedSimpArgs false
set_option linter.unusedVariables false

theorem gotLO_pair {w : World} {o : Option (List Tm)} {e : Ending} {w' : World} (h : GotLO w o e w') {L : List Tm} (hL : o.getD [] = L) {b : Bool} (hb : o.isSome = b) :
    ∃ A c, e = .returned (.tuple #[.slice A L.length c, .bool b]) ∧ Fresh w.heap.size w' A L ∧ Below w.heap.size w w' := by
  subst hL hb; exact h
set_option maxHeartbeats 8000000 in
set_option maxRecDepth 100000 in
theorem lawMatchClosed_any (bs : List Int) (A : Option Addr) (c : Nat) (w : World) (hl : bs.length ≤ 9223372036854775807) (hc : bs.length ≤ c) (hr : RdY w A bs) :
    Calls Try.prog 7 #[.slice A bs.length c] w fun e w' => e = .returned (.bool true) ∧ Below w.heap.size w w' := by
  by_cases hbig : 1048576 < bs.length
  · go_enter Try.func7, Try.ntmps7
    go_wp2_with fail
    go_ret
    exact ⟨rfl, Below.refl _ _⟩
  · go_enter Try.func7, Try.ntmps7
    go_wp2_with (go_at_call 32; refine (drawMatch_any bs A c _ hl hc hr).mono ?_; rintro e w1 ⟨k, n, ks, A1, c1, z, ku, nu, us, U1, cu, rfl, hlk, hsk, hlu, hsu, hz1, hz2, hrk, hru, hb1⟩)
    refine name_calls ?_
    intro w2 hw2
    have hX : Blk w2 w1.heap.size #[.int .i64 k, .int .i64 n, .slice A1 ks.length c1] := by rw [hw2]; exact (Blk.new_ _ _ _ rfl).alloc _
    have hU : Blk w2 (w1.heap.size + 1) #[.int .i64 ku, .int .i64 nu, .slice U1 us.length cu] := by rw [hw2]; exact (Blk.new_ _ _ _ (by simp))
    have hrk2 : Rd w2 A1 0 ks := by rw [hw2]; exact ((hrk.alloc _).alloc _)
    have hru2 : Rd w2 U1 0 us := by rw [hw2]; exact ((hru.alloc _).alloc _)
    have g2 : Below w.heap.size w w2 := by rw [hw2]; exact (hb1.alloc hb1.size _).alloc (by have := hb1.size; simp; omega) _
    clear hw2
    obtain ⟨x0, x1, x2⟩ := hX.three
    obtain ⟨u0, u1, u2⟩ := hU.three
    cases hv : validT (.mk k n ks) with
    | true =>
      cases hs : tmEq (.mk k n ks) (.mk ku nu us) with
      | true =>
        have hL := hide (show (matchTS (.mk k n ks) 0 (.mk ku nu us)).getD [] = [] by rw [closed_law]; split <;> rfl)
        have hB := hide (show (matchTS (.mk k n ks) 0 (.mk ku nu us)).isSome = true by rw [closed_law, hv, hs]; rfl)
        have hV := hide hv
        have hS := hide hs
        clear hv hs
        go_wp2_with (first
          | (go_at_call 19; have _t := tok5; refine (iSame_any k n ks A1 c1 ku nu us U1 cu _ hlk hlu (hrk2.keeps K5) (hru2.keeps K5)).mono ?_; rw [hS.out]; rintro e w6 ⟨rfl, hb6⟩; have g6 := g5.trans (hb6.mono g5.size))
          | (go_at_call 34; have _t := tok4; refine (iTermValid_any k n ks A1 c1 _ (by omega) (hrk2.keeps K4)).mono ?_; rw [hV.out]; rintro e w5 ⟨rfl, hb5⟩; replace hX := hX.keep hb5; replace hU := hU.keep hb5; clear x0 x1 x2 u0 u1 u2; obtain ⟨x0, x1, x2⟩ := hX.three; obtain ⟨u0, u1, u2⟩ := hU.three; have g5 := g4.trans (hb5.mono g4.size); have K5 : Keeps w2 w5 := K4.trans (Keeps.of_below hb5); have tok5 := trivial)
          | (go_at_call 33; have _t := tok3; refine (sMatchTerm_any k n ks A1 c1 0 (by decide) ku nu us U1 cu _ (by omega) (by omega) (hrk2.keeps K3) (hru2.keeps K3)).mono ?_; rintro e w4 hgo; obtain ⟨A4, c4, rfl, hf4, hb4⟩ := gotLO_pair hgo hL.out hB.out; clear hgo; replace hX := hX.keep hb4; replace hU := hU.keep hb4; clear x0 x1 x2 u0 u1 u2; obtain ⟨x0, x1, x2⟩ := hX.three; obtain ⟨u0, u1, u2⟩ := hU.three; have g4 := g3.trans (hb4.mono g3.size); have K4 : Keeps w2 w4 := K3.trans (Keeps.of_below hb4); have tok4 := trivial)
          | (go_at_call 29; refine (iMatchTerm_any k n ks A1 c1 0 (by decide) ku nu us U1 cu _ (by omega) (by omega) hrk2 hru2).mono ?_; rintro e w3 hgo; obtain ⟨A3, c3, rfl, hf3, hb3⟩ := gotLO_pair hgo hL.out hB.out; clear hgo; replace hX := hX.keep hb3; replace hU := hU.keep hb3; clear x0 x1 x2 u0 u1 u2; obtain ⟨x0, x1, x2⟩ := hX.three; obtain ⟨u0, u1, u2⟩ := hU.three; have g3 := g2.trans (hb3.mono g2.size); have K3 : Keeps w2 w3 := Keeps.of_below hb3; have tok3 := trivial))
        go_ret
        exact ⟨rfl, g6⟩
      | false =>
        have hL := hide (show (matchTS (.mk k n ks) 0 (.mk ku nu us)).getD [] = [] by rw [closed_law]; split <;> rfl)
        have hB := hide (show (matchTS (.mk k n ks) 0 (.mk ku nu us)).isSome = false by rw [closed_law, hv, hs]; rfl)
        have hV := hide hv
        have hS := hide hs
        clear hv hs
        go_wp2_with (first
          | (go_at_call 19; have _t := tok5; refine (iSame_any k n ks A1 c1 ku nu us U1 cu _ hlk hlu (hrk2.keeps K5) (hru2.keeps K5)).mono ?_; rw [hS.out]; rintro e w6 ⟨rfl, hb6⟩; have g6 := g5.trans (hb6.mono g5.size))
          | (go_at_call 34; have _t := tok4; refine (iTermValid_any k n ks A1 c1 _ (by omega) (hrk2.keeps K4)).mono ?_; rw [hV.out]; rintro e w5 ⟨rfl, hb5⟩; replace hX := hX.keep hb5; replace hU := hU.keep hb5; clear x0 x1 x2 u0 u1 u2; obtain ⟨x0, x1, x2⟩ := hX.three; obtain ⟨u0, u1, u2⟩ := hU.three; have g5 := g4.trans (hb5.mono g4.size); have K5 : Keeps w2 w5 := K4.trans (Keeps.of_below hb5); have tok5 := trivial)
          | (go_at_call 33; have _t := tok3; refine (sMatchTerm_any k n ks A1 c1 0 (by decide) ku nu us U1 cu _ (by omega) (by omega) (hrk2.keeps K3) (hru2.keeps K3)).mono ?_; rintro e w4 hgo; obtain ⟨A4, c4, rfl, hf4, hb4⟩ := gotLO_pair hgo hL.out hB.out; clear hgo; replace hX := hX.keep hb4; replace hU := hU.keep hb4; clear x0 x1 x2 u0 u1 u2; obtain ⟨x0, x1, x2⟩ := hX.three; obtain ⟨u0, u1, u2⟩ := hU.three; have g4 := g3.trans (hb4.mono g3.size); have K4 : Keeps w2 w4 := K3.trans (Keeps.of_below hb4); have tok4 := trivial)
          | (go_at_call 29; refine (iMatchTerm_any k n ks A1 c1 0 (by decide) ku nu us U1 cu _ (by omega) (by omega) hrk2 hru2).mono ?_; rintro e w3 hgo; obtain ⟨A3, c3, rfl, hf3, hb3⟩ := gotLO_pair hgo hL.out hB.out; clear hgo; replace hX := hX.keep hb3; replace hU := hU.keep hb3; clear x0 x1 x2 u0 u1 u2; obtain ⟨x0, x1, x2⟩ := hX.three; obtain ⟨u0, u1, u2⟩ := hU.three; have g3 := g2.trans (hb3.mono g2.size); have K3 : Keeps w2 w3 := Keeps.of_below hb3; have tok3 := trivial))
        go_ret
        exact ⟨rfl, g6⟩
    | false =>
      cases hs : tmEq (.mk k n ks) (.mk ku nu us) with
      | true =>
        have hL := hide (show (matchTS (.mk k n ks) 0 (.mk ku nu us)).getD [] = [] by rw [closed_law]; split <;> rfl)
        have hB := hide (show (matchTS (.mk k n ks) 0 (.mk ku nu us)).isSome = false by rw [closed_law, hv, hs]; rfl)
        have hV := hide hv
        have hS := hide hs
        clear hv hs
        go_wp2_with (first
          | (go_at_call 19; have _t := tok5; refine (iSame_any k n ks A1 c1 ku nu us U1 cu _ hlk hlu (hrk2.keeps K5) (hru2.keeps K5)).mono ?_; rw [hS.out]; rintro e w6 ⟨rfl, hb6⟩; have g6 := g5.trans (hb6.mono g5.size))
          | (go_at_call 34; have _t := tok4; refine (iTermValid_any k n ks A1 c1 _ (by omega) (hrk2.keeps K4)).mono ?_; rw [hV.out]; rintro e w5 ⟨rfl, hb5⟩; replace hX := hX.keep hb5; replace hU := hU.keep hb5; clear x0 x1 x2 u0 u1 u2; obtain ⟨x0, x1, x2⟩ := hX.three; obtain ⟨u0, u1, u2⟩ := hU.three; have g5 := g4.trans (hb5.mono g4.size); have K5 : Keeps w2 w5 := K4.trans (Keeps.of_below hb5); have tok5 := trivial)
          | (go_at_call 33; have _t := tok3; refine (sMatchTerm_any k n ks A1 c1 0 (by decide) ku nu us U1 cu _ (by omega) (by omega) (hrk2.keeps K3) (hru2.keeps K3)).mono ?_; rintro e w4 hgo; obtain ⟨A4, c4, rfl, hf4, hb4⟩ := gotLO_pair hgo hL.out hB.out; clear hgo; replace hX := hX.keep hb4; replace hU := hU.keep hb4; clear x0 x1 x2 u0 u1 u2; obtain ⟨x0, x1, x2⟩ := hX.three; obtain ⟨u0, u1, u2⟩ := hU.three; have g4 := g3.trans (hb4.mono g3.size); have K4 : Keeps w2 w4 := K3.trans (Keeps.of_below hb4); have tok4 := trivial)
          | (go_at_call 29; refine (iMatchTerm_any k n ks A1 c1 0 (by decide) ku nu us U1 cu _ (by omega) (by omega) hrk2 hru2).mono ?_; rintro e w3 hgo; obtain ⟨A3, c3, rfl, hf3, hb3⟩ := gotLO_pair hgo hL.out hB.out; clear hgo; replace hX := hX.keep hb3; replace hU := hU.keep hb3; clear x0 x1 x2 u0 u1 u2; obtain ⟨x0, x1, x2⟩ := hX.three; obtain ⟨u0, u1, u2⟩ := hU.three; have g3 := g2.trans (hb3.mono g2.size); have K3 : Keeps w2 w3 := Keeps.of_below hb3; have tok3 := trivial))
        go_ret
        exact ⟨rfl, g5⟩
      | false =>
        have hL := hide (show (matchTS (.mk k n ks) 0 (.mk ku nu us)).getD [] = [] by rw [closed_law]; split <;> rfl)
        have hB := hide (show (matchTS (.mk k n ks) 0 (.mk ku nu us)).isSome = false by rw [closed_law, hv, hs]; rfl)
        have hV := hide hv
        have hS := hide hs
        clear hv hs
        go_wp2_with (first
          | (go_at_call 19; have _t := tok5; refine (iSame_any k n ks A1 c1 ku nu us U1 cu _ hlk hlu (hrk2.keeps K5) (hru2.keeps K5)).mono ?_; rw [hS.out]; rintro e w6 ⟨rfl, hb6⟩; have g6 := g5.trans (hb6.mono g5.size))
          | (go_at_call 34; have _t := tok4; refine (iTermValid_any k n ks A1 c1 _ (by omega) (hrk2.keeps K4)).mono ?_; rw [hV.out]; rintro e w5 ⟨rfl, hb5⟩; replace hX := hX.keep hb5; replace hU := hU.keep hb5; clear x0 x1 x2 u0 u1 u2; obtain ⟨x0, x1, x2⟩ := hX.three; obtain ⟨u0, u1, u2⟩ := hU.three; have g5 := g4.trans (hb5.mono g4.size); have K5 : Keeps w2 w5 := K4.trans (Keeps.of_below hb5); have tok5 := trivial)
          | (go_at_call 33; have _t := tok3; refine (sMatchTerm_any k n ks A1 c1 0 (by decide) ku nu us U1 cu _ (by omega) (by omega) (hrk2.keeps K3) (hru2.keeps K3)).mono ?_; rintro e w4 hgo; obtain ⟨A4, c4, rfl, hf4, hb4⟩ := gotLO_pair hgo hL.out hB.out; clear hgo; replace hX := hX.keep hb4; replace hU := hU.keep hb4; clear x0 x1 x2 u0 u1 u2; obtain ⟨x0, x1, x2⟩ := hX.three; obtain ⟨u0, u1, u2⟩ := hU.three; have g4 := g3.trans (hb4.mono g3.size); have K4 : Keeps w2 w4 := K3.trans (Keeps.of_below hb4); have tok4 := trivial)
          | (go_at_call 29; refine (iMatchTerm_any k n ks A1 c1 0 (by decide) ku nu us U1 cu _ (by omega) (by omega) hrk2 hru2).mono ?_; rintro e w3 hgo; obtain ⟨A3, c3, rfl, hf3, hb3⟩ := gotLO_pair hgo hL.out hB.out; clear hgo; replace hX := hX.keep hb3; replace hU := hU.keep hb3; clear x0 x1 x2 u0 u1 u2; obtain ⟨x0, x1, x2⟩ := hX.three; obtain ⟨u0, u1, u2⟩ := hU.three; have g3 := g2.trans (hb3.mono g2.size); have K3 : Keeps w2 w3 := Keeps.of_below hb3; have tok3 := trivial))
        go_ret
        exact ⟨rfl, g5⟩
end Go.Proofs.Ytodkenpmhhbppaa

namespace Go.Proofs.Ytodkenpmhhbppaa
open Go.RowKit
set_option linter.unusedSimpArgs false
set_option linter.unusedVariables false

/-- a term, a number, a term, a number -/
def DrawnTITI (w : World) (e : Ending) (w' : World) : Prop :=
  ∃ (k n : Int) (ks : List Tm) (A : Option Addr) (c z : Nat) (k' n' : Int) (ks' : List Tm) (A' : Option Addr) (c' z' : Nat), e = .returned (.tuple #[.agg #[.int .i64 k, .int .i64 n, .slice A ks.length c], .int .i64 z, .agg #[.int .i64 k', .int .i64 n', .slice A' ks'.length c'], .int .i64 z']) ∧
    ks.length ≤ 9223372036854775807 ∧ sizes ks ≤ 1000 ∧ ks'.length ≤ 9223372036854775807 ∧ sizes ks' ≤ 1000 ∧ z ≤ 3 ∧ z' ≤ 3 ∧ Rd w' A 0 ks ∧ Rd w' A' 0 ks' ∧ Below w.heap.size w w'
set_option maxHeartbeats 16000000 in
set_option maxRecDepth 100000 in
theorem drawMore_any (bs : List Int) (A : Option Addr) (c : Nat) (w : World) (hl : bs.length ≤ 9223372036854775807) (hc : bs.length ≤ c) (hr : RdY w A bs) : Calls Try.prog 26 #[.slice A bs.length c] w (DrawnTITI w) := by
  go_enter Try.func26, Try.ntmps26
  go_wp2_with (first
    | (go_at_call 51; have _t := tok; refine (pattern_any w1.heap.size r 2 _ (by omega) (by simp; omega) (hr2.alloc (by omega) _)).mono ?_; rintro e w4 ⟨k4, n4, ks4, z4, A4, c4, hmem4, hz4, rfl, hl4, hk4, hr4, hg4⟩; have hks4 := pats_small hmem4; obtain ⟨zz4, rfl, hz43⟩ := holes_small hz4; clear hmem4 hz4; replace hX := hX.grown hg4 (by simp; omega); replace hZ := (hZ.alloc (.cells #[.int .i64 k, .int .i64 n, .slice A2 ks.length c2] 25)).grown hg4 (by simp; omega); replace hY := (hY.alloc (.cells #[.int .i64 k, .int .i64 n, .slice A2 ks.length c2] 25)).grown hg4 (by simp; omega); replace hk2 := (hk2.alloc (.cells #[.int .i64 k, .int .i64 n, .slice A2 ks.length c2] 25)).grown hg4 (fun b hb => by simp; omega); have s4 : w2.heap.size + 1 ≤ w4.heap.size := (by have := hg4.size; simpa using this); have g4 := grown_trans (only_alloc hg2 (.cells #[.int .i64 k, .int .i64 n, .slice A2 ks.length c2] 25)) hg4; have lx4 := hX.lt; clear tok)
    | (go_at_call 51; refine (pattern_any w1.heap.size r 0 _ (by omega) (Nat.le_refl _) hr1).mono ?_; rintro e w2 ⟨k, n, ks, z, A2, c2, hmem, hz, rfl, hl2, hk2, hr2, hg2⟩; have tok := trivial; have hks := pats_small hmem; obtain ⟨zz, rfl, hz3⟩ := holes_small hz; clear hmem hz; replace hZ := hZ.grown hg2 (by simp; omega); replace hY := hY.grown hg2 (by simp; omega); have lz2 := hZ.lt; have s2 := hg2.size; have hX := Blk.new_ w2 25 #[.int .i64 k, .int .i64 n, .slice A2 ks.length c2] rfl)
    | (go_at_call 50; refine (open_any bs A c _ hl hc ((hr.keeps (.alloc _ _)).keeps (.alloc _ _))).mono ?_; rintro e w1 ⟨r, rfl, hr0, hrlt, hr1, hb1⟩; have hZ := ((Blk.new_ w 25 #[.int .i64 0, .int .i64 0, .slice none 0 0] rfl).alloc (.cells #[.int .i64 0, .int .i64 0, .slice none 0 0] 25)).keep hb1; have hY := (Blk.new_ (n := w.heap.size + 1) (w.alloc (.cells #[.int .i64 0, .int .i64 0, .slice none 0 0] 25)) 25 #[.int .i64 0, .int .i64 0, .slice none 0 0] (by simp)).keep hb1; have g1 : Below w.heap.size w w1 := (((Below.refl _ _).alloc (Nat.le_refl _) _).alloc (by simp) _).trans (hb1.mono (by simp; omega)); have s1 := g1.size; have hr0' : w.heap.size + 2 ≤ r := (by simpa using hr0)))
  refine (pick_any w1.heap.size r 4 2 _ (by omega) (by omega) (by simp; omega) (hr4.alloc (by omega) _)).mono ?_
  rintro e w5 ⟨m, rfl, hm, hm0, hr5, hg5⟩
  clear hm hm0
  have hT := (Blk.new_ w4 25 #[.int .i64 k4, .int .i64 n4, .slice A4 ks4.length c4] rfl).grown hg5 (by simp; omega)
  have g45 : w4.grownBy w5 (some r) := grown_trans (only_alloc (World.grownBy.refl _ _) _) hg5
  replace hX := hX.grown g45 (by simp; omega)
  replace hZ := hZ.grown g45 (by simp; omega)
  replace hY := hY.grown g45 (by simp; omega)
  replace hk2 := hk2.grown g45 (fun b hb => by simp; omega)
  have hk45 : RdP (fun b => w2.heap.size + 1 ≤ b ∧ b < w4.heap.size) w5 A4 0 ks4 := (hk4.grown g45 (fun b hb => by have h1 := hb.1; simp at h1; simp; omega)).mono (fun b hb => by have h1 := hb.1; simp at h1; omega)
  have g5 := grown_trans g4 g45
  have s5 : w4.heap.size + 1 ≤ w5.heap.size := by have := hg5.size; simpa using this
  have lx := hX.lt
  have lt := hT.lt
  obtain ⟨x0, x1, x2⟩ := hX.three
  have f0 := hT.frozen 0
  have f1 := hT.frozen 1
  have f2 := hT.frozen 2
  by_cases m0 : m = 0
  · subst m0
    obtain ⟨y0, y1, y2⟩ := hT.three
    go_wp2_with fail
    refine name_world ?_
    intro wx hwx
    have hXx : Blk wx w2.heap.size #[.int .i64 k, .int .i64 n, .slice A2 ks.length c2] := by rw [hwx]; exact ((hX.far (by simp; omega) _).far (by simp; omega) _).far (by simp; omega) _
    have hTx : Blk wx w4.heap.size #[.int .i64 k, .int .i64 n, .slice A2 ks.length c2] := by rw [hwx]; exact ((hT.set_ 0 _).set_ 1 _).set_ 2 _
    have hZx : Blk wx w.heap.size #[.int .i64 0, .int .i64 0, .slice none 0 0] := by rw [hwx]; exact ((hZ.far (by simp; omega) _).far (by simp; omega) _).far (by simp; omega) _
    have hYx : Blk wx (w.heap.size + 1) #[.int .i64 0, .int .i64 0, .slice none 0 0] := by rw [hwx]; exact ((hY.far (by simp; omega) _).far (by simp; omega) _).far (by simp; omega) _
    have hk2x : RdP (fun b => w1.heap.size ≤ b ∧ b < w2.heap.size) wx A2 0 ks := by rw [hwx]; exact ((hk2.setCell (a := ⟨w4.heap.size, 0, none⟩) (by simp; omega) _).setCell (a := ⟨w4.heap.size, 1, none⟩) (by simp; omega) _).setCell (a := ⟨w4.heap.size, 2, none⟩) (by simp; omega) _
    have hk9x : RdP (fun b => w1.heap.size ≤ b) wx A2 0 ks := by rw [hwx]; exact (((hk2.setCell (a := ⟨w4.heap.size, 0, none⟩) (by simp; omega) _).setCell (a := ⟨w4.heap.size, 1, none⟩) (by simp; omega) _).setCell (a := ⟨w4.heap.size, 2, none⟩) (by simp; omega) _).mono (fun b hb => hb.1)
    have hRx : Rdr w1.heap.size wx r (4 + 1) := by rw [hwx]; exact ((hr5.setCell (a := ⟨w4.heap.size, 0, none⟩) (by simp; omega) _).setCell (a := ⟨w4.heap.size, 1, none⟩) (by simp; omega) _).setCell (a := ⟨w4.heap.size, 2, none⟩) (by simp; omega) _
    have hGx : w1.grownBy wx (some r) := by rw [hwx]; exact only_setCell (only_setCell (only_setCell g5 (.inr (by simp; omega)) _) (.inr (by simp; omega)) _) (.inr (by simp; omega)) _
    clear hwx
    have sx := hGx.size
    have lTx := hTx.lt
    have lXx := hXx.lt
    refine wp_region_firstY (fun w' => w'.cell? ⟨w2.heap.size, 0, none⟩ = some (.int .i64 k) ∧ w'.cell? ⟨w2.heap.size, 1, none⟩ = some (.int .i64 n) ∧ w'.cell? ⟨w2.heap.size, 2, none⟩ = some (.slice A2 ks.length c2) ∧ w'.cell? ⟨w4.heap.size, 0, none⟩ = some (.int .i64 k) ∧ w'.cell? ⟨w4.heap.size, 1, none⟩ = some (.int .i64 n) ∧ w'.cell? ⟨w4.heap.size, 2, none⟩ = some (.slice A2 ks.length c2)) [0, 1, 3, 4, 5, 7] [2, 6, 8, 9, 10] [11] [_, _, _, _, _, _] [_, _, _, _, _] [_] (by kernel_rfl) (by kernel_rfl) rfl rfl rfl (fun _ _ d _ _ h => by cases d <;> exact h) ⟨hXx.drew.at_ rfl, hXx.drew.at_ rfl, hXx.drew.at_ rfl, hTx.drew.at_ rfl, hTx.drew.at_ rfl, hTx.drew.at_ rfl⟩ ?_
    repeat (first | ((refine takeY_skip (a' := ?_) ?_ ?_ ?_); (rotate_left); (· (simp [Region.wanted, yielded]; done)); (· (simp only [List.getElem_toArray, List.getElem_cons_zero, List.getElem_cons_succ, Act.put, List.setIfInBounds_toArray, List.set_cons_zero, List.set_cons_succ]; exact rfl))) | ((refine takeY_step (v := ?_) (a' := ?_) ?_ ?_ ?_ ?_); (rotate_left 2); (· (simp [Region.wanted, yielded]; done)); (· (intro w' hS'; obtain ⟨s0, s1, s2, s3, s4, s5⟩ := hS'; go_simp; try (with_reducible rfl))); (· (simp only [List.getElem_toArray, List.getElem_cons_zero, List.getElem_cons_succ, Act.put, List.setIfInBounds_toArray, List.set_cons_zero, List.set_cons_succ]; exact rfl))))
    refine takeY_nil (then_cons ?_)
    go_wp2_with (go_at_call 54; refine (mutate_any w1.heap.size r (4 + 1) k n ks A2 c2 _ (by omega) (by simp; omega) hRx.drew (by omega) hk2x.drew.rd).mono ?_; rintro e wa ⟨ka, na, ksa, Aa, ca, pa, rfl, hla, hsa, hpa, hka, hRa, hga⟩)
    have hxa : wx.grownBy wa (some r) := grown_trans (only_drew (World.grownBy.refl _ _)) hga
    have hXa := hXx.grown hxa (by simp; omega)
    have hTa := hTx.grown hxa (by simp; omega)
    refine mid_intro ⟨hXa.at_ rfl, hXa.at_ rfl, hXa.at_ rfl, hTa.at_ rfl, hTa.at_ rfl, hTa.at_ rfl⟩ (then_cons ?_)
    have sa : wx.heap.size ≤ wa.heap.size := hxa.size
    have hk9a := hk9x.grown hxa (fun b hb => by simp; omega)
    go_wp2_with (go_at_call 54; refine (mutate_any w1.heap.size r pa k n ks A2 c2 _ (by omega) (by omega) hRa (by omega) hk9a.rd).mono ?_; rintro e wb ⟨kb, nb, ksb, Ab, cb, pb, rfl, hlb, hsb, hpb, hkb, hRb, hgb⟩)
    have hxb : wx.grownBy wb (some r) := grown_trans hxa hgb
    have hXb := hXx.grown hxb (by simp; omega)
    have hTb := hTx.grown hxb (by simp; omega)
    refine mid_intro ⟨hXb.at_ rfl, hXb.at_ rfl, hXb.at_ rfl, hTb.at_ rfl, hTb.at_ rfl, hTb.at_ rfl⟩ (then_cons ?_)
    have sb := hgb.size
    have hZb := hZx.grown hxb (by simp; omega)
    have hYb := hYx.grown hxb (by simp; omega)
    have d0 := hZb.at_ (i := 0) rfl
    have d1 := hZb.at_ (i := 1) rfl
    have d2 := hZb.at_ (i := 2) rfl
    have e0 := hZb.frozen 0
    have e1 := hZb.frozen 1
    have e2 := hZb.frozen 2
    have v0 := hYb.at_ (i := 0) rfl
    have v1 := hYb.at_ (i := 1) rfl
    have v2 := hYb.at_ (i := 2) rfl
    have u0 := hYb.frozen 0
    have u1 := hYb.frozen 1
    have u2 := hYb.frozen 2
    have gb := grown_trans hGx hxb
    have kab := (hka.grown hgb (fun b hb => by have h1 : wx.heap.size ≤ b := hb.1; simp; omega)).mono (q := fun b => wx.heap.size ≤ b) (fun b hb => hb.1)
    have kbb := hkb.mono (q := fun b => wx.heap.size ≤ b) (fun b hb => by have := hb.1; omega)
    have n1 : w.heap.size ≠ w.heap.size + 1 := by omega
    have n2 : w.heap.size + 1 ≠ w.heap.size := by omega
    go_wp2_with fail
    have hXc := ((hXb.far (p := ⟨w.heap.size, 0, none⟩) (by simp; omega) (.int .i64 ka)).far (p := ⟨w.heap.size, 1, none⟩) (by simp; omega) (.int .i64 na)).far (p := ⟨w.heap.size, 2, none⟩) (by simp; omega) (.slice Aa ksa.length ca)
    have hTc := ((hTb.far (p := ⟨w.heap.size, 0, none⟩) (by simp; omega) (.int .i64 ka)).far (p := ⟨w.heap.size, 1, none⟩) (by simp; omega) (.int .i64 na)).far (p := ⟨w.heap.size, 2, none⟩) (by simp; omega) (.slice Aa ksa.length ca)
    refine mid_intro ⟨hXc.at_ rfl, hXc.at_ rfl, hXc.at_ rfl, hTc.at_ rfl, hTc.at_ rfl, hTc.at_ rfl⟩ (then_cons ?_)
    go_wp2_with fail
    refine mid_intro ⟨hXc.at_ rfl, hXc.at_ rfl, hXc.at_ rfl, hTc.at_ rfl, hTc.at_ rfl, hTc.at_ rfl⟩ (then_cons ?_)
    go_wp2_with fail
    have hXd := ((hXc.far (p := ⟨w.heap.size + 1, 0, none⟩) (by simp; omega) (.int .i64 kb)).far (p := ⟨w.heap.size + 1, 1, none⟩) (by simp; omega) (.int .i64 nb)).far (p := ⟨w.heap.size + 1, 2, none⟩) (by simp; omega) (.slice Ab ksb.length cb)
    have hTd := ((hTc.far (p := ⟨w.heap.size + 1, 0, none⟩) (by simp; omega) (.int .i64 kb)).far (p := ⟨w.heap.size + 1, 1, none⟩) (by simp; omega) (.int .i64 nb)).far (p := ⟨w.heap.size + 1, 2, none⟩) (by simp; omega) (.slice Ab ksb.length cb)
    refine mid_intro ⟨hXd.at_ rfl, hXd.at_ rfl, hXd.at_ rfl, hTd.at_ rfl, hTd.at_ rfl, hTd.at_ rfl⟩ (then_nil ?_)
    go_wp2_with fail
    refine bodyPost_ret (v := .tuple #[.agg #[.int .i64 ka, .int .i64 na, .slice Aa ksa.length ca], .int .i64 zz, .agg #[.int .i64 kb, .int .i64 nb, .slice Ab ksb.length cb], .int .i64 zz]) (by simp [results, Try.results26, go_sem, d0, d1, d2, v0, v1, v2, n1, n2]) rfl ⟨ka, na, ksa, Aa, ca, zz, kb, nb, ksb, Ab, cb, zz, rfl, hla, by omega, hlb, by omega, hz3, hz3, ?_, ?_, ?_⟩
    · exact ((((((kab.setCell (by simp; omega) _).setCell (by simp; omega) _).setCell (by simp; omega) _).setCell (by simp; omega) _).setCell (by simp; omega) _).setCell (by simp; omega) _).rd
    · exact ((((((kbb.setCell (by simp; omega) _).setCell (by simp; omega) _).setCell (by simp; omega) _).setCell (by simp; omega) _).setCell (by simp; omega) _).setCell (by simp; omega) _).rd
    · exact ((((((g1.trans (grown_below gb (by omega) (by omega))).setCell (by simp) _).setCell (by simp) _).setCell (by simp) _).setCell (by simp) _).setCell (by simp) _).setCell (by simp) _
  · have q0 : ((m : Int) == 0) = false := beq_eq_false_iff_ne.2 (by omega)
    go_wp2_with fail
    refine name_world ?_
    intro wx hwx
    have hXx : Blk wx w2.heap.size #[.int .i64 k, .int .i64 n, .slice A2 ks.length c2] := by rw [hwx]; exact hX
    have hTx : Blk wx w4.heap.size #[.int .i64 k4, .int .i64 n4, .slice A4 ks4.length c4] := by rw [hwx]; exact hT
    have hZx : Blk wx w.heap.size #[.int .i64 0, .int .i64 0, .slice none 0 0] := by rw [hwx]; exact hZ
    have hYx : Blk wx (w.heap.size + 1) #[.int .i64 0, .int .i64 0, .slice none 0 0] := by rw [hwx]; exact hY
    have hk2x : RdP (fun b => w1.heap.size ≤ b ∧ b < w2.heap.size) wx A2 0 ks := by rw [hwx]; exact hk2
    have hk9x : RdP (fun b => w1.heap.size ≤ b) wx A4 0 ks4 := by rw [hwx]; exact hk45.mono (fun b hb => by have := hb.1; omega)
    have hRx : Rdr w1.heap.size wx r (4 + 1) := by rw [hwx]; exact hr5
    have hGx : w1.grownBy wx (some r) := by rw [hwx]; exact g5
    clear hwx
    have sx := hGx.size
    have lTx := hTx.lt
    have lXx := hXx.lt
    refine wp_region_firstY (fun w' => w'.cell? ⟨w2.heap.size, 0, none⟩ = some (.int .i64 k) ∧ w'.cell? ⟨w2.heap.size, 1, none⟩ = some (.int .i64 n) ∧ w'.cell? ⟨w2.heap.size, 2, none⟩ = some (.slice A2 ks.length c2) ∧ w'.cell? ⟨w4.heap.size, 0, none⟩ = some (.int .i64 k4) ∧ w'.cell? ⟨w4.heap.size, 1, none⟩ = some (.int .i64 n4) ∧ w'.cell? ⟨w4.heap.size, 2, none⟩ = some (.slice A4 ks4.length c4)) [0, 1, 3, 4, 5, 7] [2, 6, 8, 9, 10] [11] [_, _, _, _, _, _] [_, _, _, _, _] [_] (by kernel_rfl) (by kernel_rfl) rfl rfl rfl (fun _ _ d _ _ h => by cases d <;> exact h) ⟨hXx.drew.at_ rfl, hXx.drew.at_ rfl, hXx.drew.at_ rfl, hTx.drew.at_ rfl, hTx.drew.at_ rfl, hTx.drew.at_ rfl⟩ ?_
    repeat (first | ((refine takeY_skip (a' := ?_) ?_ ?_ ?_); (rotate_left); (· (simp [Region.wanted, yielded]; done)); (· (simp only [List.getElem_toArray, List.getElem_cons_zero, List.getElem_cons_succ, Act.put, List.setIfInBounds_toArray, List.set_cons_zero, List.set_cons_succ]; exact rfl))) | ((refine takeY_step (v := ?_) (a' := ?_) ?_ ?_ ?_ ?_); (rotate_left 2); (· (simp [Region.wanted, yielded]; done)); (· (intro w' hS'; obtain ⟨s0, s1, s2, s3, s4, s5⟩ := hS'; go_simp; try (with_reducible rfl))); (· (simp only [List.getElem_toArray, List.getElem_cons_zero, List.getElem_cons_succ, Act.put, List.setIfInBounds_toArray, List.set_cons_zero, List.set_cons_succ]; exact rfl))))
    refine takeY_nil (then_cons ?_)
    go_wp2_with (go_at_call 54; refine (mutate_any w1.heap.size r (4 + 1) k n ks A2 c2 _ (by omega) (by simp; omega) hRx.drew (by omega) hk2x.drew.rd).mono ?_; rintro e wa ⟨ka, na, ksa, Aa, ca, pa, rfl, hla, hsa, hpa, hka, hRa, hga⟩)
    have hxa : wx.grownBy wa (some r) := grown_trans (only_drew (World.grownBy.refl _ _)) hga
    have hXa := hXx.grown hxa (by simp; omega)
    have hTa := hTx.grown hxa (by simp; omega)
    refine mid_intro ⟨hXa.at_ rfl, hXa.at_ rfl, hXa.at_ rfl, hTa.at_ rfl, hTa.at_ rfl, hTa.at_ rfl⟩ (then_cons ?_)
    have sa : wx.heap.size ≤ wa.heap.size := hxa.size
    have hk9a := hk9x.grown hxa (fun b hb => by simp; omega)
    go_wp2_with (go_at_call 54; refine (mutate_any w1.heap.size r pa k4 n4 ks4 A4 c4 _ (by omega) (by omega) hRa (by omega) hk9a.rd).mono ?_; rintro e wb ⟨kb, nb, ksb, Ab, cb, pb, rfl, hlb, hsb, hpb, hkb, hRb, hgb⟩)
    have hxb : wx.grownBy wb (some r) := grown_trans hxa hgb
    have hXb := hXx.grown hxb (by simp; omega)
    have hTb := hTx.grown hxb (by simp; omega)
    refine mid_intro ⟨hXb.at_ rfl, hXb.at_ rfl, hXb.at_ rfl, hTb.at_ rfl, hTb.at_ rfl, hTb.at_ rfl⟩ (then_cons ?_)
    have sb := hgb.size
    have hZb := hZx.grown hxb (by simp; omega)
    have hYb := hYx.grown hxb (by simp; omega)
    have d0 := hZb.at_ (i := 0) rfl
    have d1 := hZb.at_ (i := 1) rfl
    have d2 := hZb.at_ (i := 2) rfl
    have e0 := hZb.frozen 0
    have e1 := hZb.frozen 1
    have e2 := hZb.frozen 2
    have v0 := hYb.at_ (i := 0) rfl
    have v1 := hYb.at_ (i := 1) rfl
    have v2 := hYb.at_ (i := 2) rfl
    have u0 := hYb.frozen 0
    have u1 := hYb.frozen 1
    have u2 := hYb.frozen 2
    have gb := grown_trans hGx hxb
    have kab := (hka.grown hgb (fun b hb => by have h1 : wx.heap.size ≤ b := hb.1; simp; omega)).mono (q := fun b => wx.heap.size ≤ b) (fun b hb => hb.1)
    have kbb := hkb.mono (q := fun b => wx.heap.size ≤ b) (fun b hb => by have := hb.1; omega)
    have n1 : w.heap.size ≠ w.heap.size + 1 := by omega
    have n2 : w.heap.size + 1 ≠ w.heap.size := by omega
    go_wp2_with fail
    have hXc := ((hXb.far (p := ⟨w.heap.size, 0, none⟩) (by simp; omega) (.int .i64 ka)).far (p := ⟨w.heap.size, 1, none⟩) (by simp; omega) (.int .i64 na)).far (p := ⟨w.heap.size, 2, none⟩) (by simp; omega) (.slice Aa ksa.length ca)
    have hTc := ((hTb.far (p := ⟨w.heap.size, 0, none⟩) (by simp; omega) (.int .i64 ka)).far (p := ⟨w.heap.size, 1, none⟩) (by simp; omega) (.int .i64 na)).far (p := ⟨w.heap.size, 2, none⟩) (by simp; omega) (.slice Aa ksa.length ca)
    refine mid_intro ⟨hXc.at_ rfl, hXc.at_ rfl, hXc.at_ rfl, hTc.at_ rfl, hTc.at_ rfl, hTc.at_ rfl⟩ (then_cons ?_)
    go_wp2_with fail
    refine mid_intro ⟨hXc.at_ rfl, hXc.at_ rfl, hXc.at_ rfl, hTc.at_ rfl, hTc.at_ rfl, hTc.at_ rfl⟩ (then_cons ?_)
    go_wp2_with fail
    have hXd := ((hXc.far (p := ⟨w.heap.size + 1, 0, none⟩) (by simp; omega) (.int .i64 kb)).far (p := ⟨w.heap.size + 1, 1, none⟩) (by simp; omega) (.int .i64 nb)).far (p := ⟨w.heap.size + 1, 2, none⟩) (by simp; omega) (.slice Ab ksb.length cb)
    have hTd := ((hTc.far (p := ⟨w.heap.size + 1, 0, none⟩) (by simp; omega) (.int .i64 kb)).far (p := ⟨w.heap.size + 1, 1, none⟩) (by simp; omega) (.int .i64 nb)).far (p := ⟨w.heap.size + 1, 2, none⟩) (by simp; omega) (.slice Ab ksb.length cb)
    refine mid_intro ⟨hXd.at_ rfl, hXd.at_ rfl, hXd.at_ rfl, hTd.at_ rfl, hTd.at_ rfl, hTd.at_ rfl⟩ (then_nil ?_)
    go_wp2_with fail
    refine bodyPost_ret (v := .tuple #[.agg #[.int .i64 ka, .int .i64 na, .slice Aa ksa.length ca], .int .i64 zz, .agg #[.int .i64 kb, .int .i64 nb, .slice Ab ksb.length cb], .int .i64 zz4]) (by simp [results, Try.results26, go_sem, d0, d1, d2, v0, v1, v2, n1, n2]) rfl ⟨ka, na, ksa, Aa, ca, zz, kb, nb, ksb, Ab, cb, zz4, rfl, hla, by omega, hlb, by omega, hz3, hz43, ?_, ?_, ?_⟩
    · exact ((((((kab.setCell (by simp; omega) _).setCell (by simp; omega) _).setCell (by simp; omega) _).setCell (by simp; omega) _).setCell (by simp; omega) _).setCell (by simp; omega) _).rd
    · exact ((((((kbb.setCell (by simp; omega) _).setCell (by simp; omega) _).setCell (by simp; omega) _).setCell (by simp; omega) _).setCell (by simp; omega) _).setCell (by simp; omega) _).rd
    · exact ((((((g1.trans (grown_below gb (by omega) (by omega))).setCell (by simp) _).setCell (by simp) _).setCell (by simp) _).setCell (by simp) _).setCell (by simp) _).setCell (by simp) _
end Go.Proofs.Ytodkenpmhhbppaa

namespace Go.Proofs.Ytodkenpmhhbppaa
open Go.RowKit
set_option linter.unusedSimpArgs false
set_option linter.unusedVariables false

/-- a sort -/
def isSort (t : Tm) : Prop := ∃ n, t = .mk 2 n []
theorem isSort.shS {t : Tm} (h : isSort t) (b c : Int) : shS b c t = t := by
  obtain ⟨n, rfl⟩ := h
  rw [Go.Proofs.Ytodkenpmhhbppaa.shS, if_neg (by omega), shSL]
theorem isSort.kpS {t : Tm} (h : isSort t) (b c : Int) : kpS b c t = true := by
  obtain ⟨n, rfl⟩ := h
  rw [Go.Proofs.Ytodkenpmhhbppaa.kpS, if_neg (by omega), kpSL]
theorem sort_getD {L : List Tm} (hL : ∀ t, t ∈ L → isSort t) {i : Nat} (hi : i < L.length) : isSort (L.getD i default) := by
  rw [List.getD_eq_getElem?_getD, List.getElem?_eq_getElem hi]
  exact hL _ (List.getElem_mem hi)
/-- filling with sorts goes through a shift down -/
theorem flS_down {L : List Tm} (hL : ∀ t, t ∈ L → isSort t) {d : Int} (hd : 0 ≤ d) (u : Tm) : ∀ (q : Nat) (c : Int), 0 ≤ c → shape q u = true → kpS d c u = true → kpS d c (flS L (d + c) u) = true ∧ shS (-d) c (flS L (d + c) u) = flS L c (shS (-d) c u) := by
  refine (Tm.ind2 (p := fun u => ∀ (q : Nat) (c : Int), 0 ≤ c → shape q u = true → kpS d c u = true → kpS d c (flS L (d + c) u) = true ∧ shS (-d) c (flS L (d + c) u) = flS L c (shS (-d) c u))
    (q := fun us => ∀ (q : Nat) (k c : Int) (i : Nat), 0 ≤ c → (∀ t, t ∈ us → shape q t = true) → kpSL d k c i us = true → kpSL d k c i (flSL L k (d + c) i us) = true ∧ shSL (-d) k c i (flSL L k (d + c) i us) = flSL L k c i (shSL (-d) k c i us)) ?_ ?_ ?_).1 u
  · intro k n ks ih q c hc hs h
    obtain ⟨q, rfl, har, _, _, hk⟩ := shape_pos hs
    rw [kpS] at h
    by_cases hno : k = 1 ∧ c ≤ n ∧ n < c + d
    · rw [if_pos hno] at h; cases h
    · rw [if_neg hno] at h
      by_cases hv : k = 1 ∧ c ≤ n
      · obtain ⟨rfl, hcn⟩ := hv
        have hks := var_nil har
        subst hks
        have hdn : d + c ≤ n := by
          rcases Int.lt_or_le n (c + d) with hx | hx
          · exact absurd ⟨rfl, hcn, hx⟩ hno
          · omega
        have eR : shS (-d) c (.mk 1 n []) = .mk 1 (n + -d) [] := by rw [shS, if_pos ⟨rfl, hcn⟩, shSL]
        have eA : flS L (d + c) (.mk 1 n []) = if n < d + c + L.length then shS (d + c) 0 (L.getD (n - (d + c)).toNat default) else .mk 1 (n - L.length) [] := by rw [flS, if_pos ⟨rfl, hdn⟩]
        have eB : flS L c (.mk 1 (n + -d) []) = if n + -d < c + L.length then shS c 0 (L.getD (n + -d - c).toNat default) else .mk 1 (n + -d - L.length) [] := by rw [flS, if_pos (show (1 : Int) = 1 ∧ c ≤ n + -d from ⟨rfl, by omega⟩)]
        have e1 : (n - (d + c)).toNat = (n + -d - c).toNat := by omega
        rw [eR, eA, eB]
        by_cases hlt : n < d + c + L.length
        · rw [if_pos hlt, if_pos (by omega), e1]
          have hS := sort_getD hL (i := (n + -d - c).toNat) (by omega)
          rw [hS.shS, hS.shS, hS.shS]
          exact ⟨hS.kpS _ _, rfl⟩
        · rw [if_neg hlt, if_neg (by omega)]
          constructor
          · rw [kpS, if_neg (by omega), kpSL]
          · rw [shS, if_pos (show (1 : Int) = 1 ∧ c ≤ n - L.length from ⟨rfl, by omega⟩), shSL]
            congr 1
            omega
      · have hd1 : ¬ (k = 1 ∧ d + c ≤ n) := fun hx => hv ⟨hx.1, by omega⟩
        rw [flS, if_neg hd1, shS, if_neg hv, shS, if_neg hv, flS, if_neg hv, kpS, if_neg hno]
        have := ih q k c 0 hc hk h
        exact ⟨this.1, by rw [this.2]⟩
  · intro q k c i _ _ _; simp [flSL, shSL, kpSL]
  · intro t ts h1 h2 q k c i hc hs h
    have hun := under_le k (i : Nat)
    rw [kpSL, Bool.and_eq_true] at h
    obtain ⟨a1, a2⟩ := h1 q (c + under k i) (by omega) (hs t (by simp)) h.1
    obtain ⟨b1, b2⟩ := h2 q k c (i + 1) hc (fun t ht => hs t (by simp [ht])) h.2
    rw [← Int.add_assoc] at a1 a2
    rw [flSL, shSL, kpSL, shSL, flSL, a1, a2, b1, b2]
    exact ⟨rfl, rfl⟩
/-- what was found, filled -/
def mapSt (L : List Tm) (st : St) : St := (st.1.map (flS L 0), st.2)
theorem flS_zeroT (L : List Tm) : flS L 0 zeroT = zeroT := by
  unfold zeroT
  rw [flS, if_neg (by omega), flSL]
theorem mapSt_getD (L : List Tm) (st : St) (i : Nat) : (mapSt L st).1.getD i zeroT = flS L 0 (st.1.getD i zeroT) := by
  simp only [mapSt, List.getD_eq_getElem?_getD, List.getElem?_map]
  cases st.1[i]? with
  | none => exact (flS_zeroT L).symm
  | some t => rfl
theorem mt_filled {L : List Tm} (hL : ∀ t, t ∈ L → isSort t) {m : Nat} (p : Tm) : ∀ (q : Nat) (d : Int) (u : Tm) (st st' : St), 0 ≤ d → shape q p = true → validT u = true → validT (flS L d u) = true → mt m L.length d p u st = (true, st') → mt m 0 d p (flS L d u) (mapSt L st) = (true, mapSt L st') := by
  refine (Tm.ind2 (p := fun p => ∀ (q : Nat) (d : Int) (u : Tm) (st st' : St), 0 ≤ d → shape q p = true → validT u = true → validT (flS L d u) = true → mt m L.length d p u st = (true, st') → mt m 0 d p (flS L d u) (mapSt L st) = (true, mapSt L st'))
    (q := fun ts => ∀ (q : Nat) (k d : Int) (i : Nat) (us : List Tm) (st st' : St), 0 ≤ d → (∀ t, t ∈ ts → shape q t = true) → (∀ u, u ∈ us → validT u = true) → (∀ u, u ∈ flSL L k d i us → validT u = true) → us.length = ts.length → mtL m L.length k d i ts us st = (true, st') → mtL m 0 k d i ts (flSL L k d i us) (mapSt L st) = (true, mapSt L st')) ?_ ?_ ?_).1 p
  · intro k n ks ih q d u st st' hd hs hv hv2 hm
    obtain ⟨q, rfl, har, _, _, hk⟩ := shape_pos hs
    rw [mt] at hm ⊢
    by_cases h : k = 1 ∧ d ≤ n
    · obtain ⟨rfl, hdn⟩ := h
      rw [if_pos ⟨rfl, hdn⟩] at hm ⊢
      by_cases hlt : n < d + m
      · rw [if_pos hlt] at hm ⊢
        rw [shiftI_down hd hv] at hm
        rw [shiftI_down hd hv2]
        by_cases hkp : kpS d 0 u = true
        · rw [if_pos hkp] at hm
          simp only at hm
          have hdn := flS_down hL hd u 30 0 (Int.le_refl 0) (validT_shape hv) hkp
          rw [Int.add_zero] at hdn
          rw [if_pos hdn.1, hdn.2]
          simp only
          split at hm
          · rename_i hf
            rw [if_pos (show (mapSt L st).2.getD (n - d).toNat false = true from hf)]
            injection hm with h1 h2
            subst h2
            rw [mapSt_getD, tmEq_iff.1 h1, tmEq_self]
          · rename_i hf
            rw [if_neg (show ¬ (mapSt L st).2.getD (n - d).toNat false = true from hf)]
            injection hm with h1 h2
            subst h2
            simp only [mapSt, List.map_set]
        · rw [if_neg hkp] at hm
          simp at hm
      · rw [if_neg hlt] at hm ⊢
        injection hm with h1 h2
        subst h2
        obtain ⟨ku, nu, us⟩ := u
        simp only [Tm.k, Tm.n, Bool.and_eq_true, beq_iff_eq] at h1
        obtain ⟨rfl, rfl⟩ := h1
        rw [flS, if_pos ⟨rfl, by omega⟩, if_neg (by omega)]
        simp [Tm.k, Tm.n]
    · rw [if_neg h] at hm ⊢
      obtain ⟨ku, nu, us⟩ := u
      split at hm
      · rename_i hh
        obtain ⟨h1, h2, h3⟩ := hh
        have h1 : ku = k := h1
        have h2 : nu = n := h2
        subst h1 h2
        have h3 : us.length = ks.length := h3
        rw [flS, if_neg h] at hv2 ⊢
        rw [if_pos (show (Tm.mk ku nu (flSL L ku d 0 us)).k = ku ∧ (Tm.mk ku nu (flSL L ku d 0 us)).n = nu ∧ (Tm.mk ku nu (flSL L ku d 0 us)).kids.length = ks.length from ⟨rfl, rfl, (flSL_length _ _ _ _ _).trans h3⟩)]
        exact ih q ku d 0 us st st' hd hk (fun u hu => validT_kid hv hu) (fun u hu => validT_kid hv2 hu) h3 hm
      · simp at hm
  · intro q k d i us st st' _ _ _ _ hl hm
    have : us = [] := List.eq_nil_of_length_eq_zero hl
    subst this
    rw [mtL] at hm
    · injection hm with _ h2
      subst h2
      rw [flSL, mtL]
      intro _ _ _ _ h; cases h
    · intro _ _ _ _ h; cases h
  · intro t ts h1 h2 q k d i us st st' hd hs hv hv2 hl hm
    cases us with
    | nil => simp at hl
    | cons u us =>
      have hun := under_le k (i : Nat)
      rw [mtL] at hm
      rw [flSL] at hv2 ⊢
      cases hb : mt m L.length (d + under k i) t u st with
      | mk b st2 =>
        rw [hb] at hm
        cases b with
        | false => simp at hm
        | true =>
          simp only [if_true] at hm
          have e1 := h1 q (d + under k i) u st st2 (by omega) (hs t (by simp)) (hv u (by simp)) (hv2 _ (by simp)) hb
          rw [mtL, e1]
          simp only [if_true]
          exact h2 q k d (i + 1) us st2 st' hd (fun t ht => hs t (by simp [ht])) (fun u hu => hv u (by simp [hu])) (fun u hu => hv2 u (by simp [hu])) (by simpa using hl) hm
/-- the law -/
theorem more_match {p u t : Tm} {z : Int} {L : List Tm} (hL : ∀ t, t ∈ L → isSort t) (h : moreS p z u L.length = true) (hf : fillTS u L = some t) : (matchTS p z t).isSome = true := by
  unfold moreS at h
  split at h
  · rename_i hh
    obtain ⟨hp, hu, hz, _⟩ := hh
    unfold fillTS at hf
    split at hf
    · rename_i hg
      obtain ⟨_, _, _, hv⟩ := hg
      injection hf with hf
      subst hf
      unfold matchTS
      rw [if_pos ⟨hp, hv, hz⟩]
      unfold tryS mt0 at h
      split at h
      · rename_i hx
        cases hb : mt z.toNat L.length 0 p u (List.replicate z.toNat zeroT, List.replicate z.toNat false) with
        | mk b st' =>
          rw [hb] at hx
          obtain ⟨hx1, hx2⟩ := hx
          simp only at hx1 hx2
          subst hx1
          have e := mt_filled hL p 30 0 u _ st' (Int.le_refl 0) (validT_shape hp) hu hv hb
          have e0 : mapSt L (List.replicate z.toNat zeroT, List.replicate z.toNat false) = (List.replicate z.toNat zeroT, List.replicate z.toNat false) := by
            simp only [mapSt, List.map_replicate, flS_zeroT]
          rw [e0] at e
          unfold tryS mt0
          rw [e, if_pos ⟨rfl, hx2⟩]
          rfl
      · cases h
    · cases hf
  · cases h
/-- some sorts -/
def sortsOf (b j : Nat) : List Tm := (List.range j).map fun i => .mk 2 (((i + b) % 4 : Nat) : Int) []
theorem sortsOf_sort (b j : Nat) : ∀ t, t ∈ sortsOf b j → isSort t := by
  intro t ht
  obtain ⟨i, _, rfl⟩ := List.mem_map.1 ht
  exact ⟨_, rfl⟩
theorem sortsOf_length (b j : Nat) : (sortsOf b j).length = j := by simp [sortsOf]
theorem sortsOf_succ (b j : Nat) : sortsOf b (j + 1) = sortsOf b j ++ [.mk 2 (((j + b) % 4 : Nat) : Int) []] := by simp [sortsOf, List.range_succ]
theorem sortsOf_sizes (b : Nat) : ∀ j, sizes (sortsOf b j) = j
  | 0 => rfl
  | j + 1 => by rw [sortsOf_succ, sizes_append, sortsOf_sizes b j]; simp [sizes, Tm.size]
end Go.Proofs.Ytodkenpmhhbppaa

namespace Go.Proofs.Ytodkenpmhhbppaa
open Go.RowKit
set_option linter.unusedSimpArgs false
set_option linter.unusedVariables false

set_option maxHeartbeats 8000000 in
set_option maxRecDepth 100000 in
theorem lawMoreGeneral_any (bs : List Int) (A : Option Addr) (c : Nat) (ms : List Int) (M : Option Addr) (cm : Nat) (w : World) (hl : bs.length ≤ 9223372036854775807) (hc : bs.length ≤ c) (hr : RdY w A bs) (hlm : ms.length ≤ 9223372036854775807) (hcm : ms.length ≤ cm) (hrm : RdY w M ms) :
    Calls Try.prog 5 #[.slice A bs.length c, .slice M ms.length cm] w fun e w' => e = .returned (.bool true) ∧ Below w.heap.size w w' := by
  by_cases hbig : 1048576 < bs.length
  · go_enter Try.func5, Try.ntmps5
    go_wp2_with fail
    go_ret
    exact ⟨rfl, Below.refl _ _⟩
  · by_cases hbig2 : 1048576 < ms.length
    · go_enter Try.func5, Try.ntmps5
      go_wp2_with fail
      go_ret
      exact ⟨rfl, Below.refl _ _⟩
    · go_enter Try.func5, Try.ntmps5
      go_wp2_with (go_at_call 26; refine (drawMore_any bs A c _ hl hc hr).mono ?_; rintro e w1 ⟨k, n, ks, A1, c1, z, ku, nu, us, U1, cu, y, rfl, hlk, hsk, hlu, hsu, hz, hy, hrk, hru, hb1⟩)
      refine name_calls ?_
      intro w2 hw2
      have hX : Blk w2 w1.heap.size #[.int .i64 k, .int .i64 n, .slice A1 ks.length c1] := by rw [hw2]; exact (Blk.new_ _ _ _ rfl).alloc _
      have hU : Blk w2 (w1.heap.size + 1) #[.int .i64 ku, .int .i64 nu, .slice U1 us.length cu] := by rw [hw2]; exact (Blk.new_ _ _ _ (by simp))
      have rk : Rd w2 A1 0 ks := by rw [hw2]; exact ((hrk.alloc _).alloc _)
      have ru : Rd w2 U1 0 us := by rw [hw2]; exact ((hru.alloc _).alloc _)
      have gg : Below w.heap.size w w2 := by rw [hw2]; exact (hb1.alloc hb1.size _).alloc (by have := hb1.size; simp; omega) _
      clear hw2
      obtain ⟨x0, x1, x2⟩ := hX.three
      obtain ⟨u0, u1, u2⟩ := hU.three
      have hzw : (Lit.int .i64 (z : Int)).wf = true := WalkArith.wf_i64 (by omega)
      have hyw : (Lit.int .i64 (y : Int)).wf = true := WalkArith.wf_i64 (by omega)
      cases hb0 : moreS (.mk k n ks) z (.mk ku nu us) y with
      | false =>
        have hb := hide hb0
        clear hb0
        go_wp2_with (first
          | (go_at_call 28; have _t := tok4; refine (sMoreGeneral_any k n ks A1 c1 z ku nu us U1 cu y _ hzw hyw (by omega) (by omega) rk ru).mono ?_; rw [hb.out]; rintro e w5 ⟨rfl, hb5⟩; replace hX := hX.keep hb5; replace hU := hU.keep hb5; clear x0 x1 x2 u0 u1 u2; obtain ⟨x0, x1, x2⟩ := hX.three; obtain ⟨u0, u1, u2⟩ := hU.three; replace gg := gg.trans (hb5.mono gg.size); replace rk := rk.below hb5; replace ru := ru.below hb5; have tok5 := trivial)
          | (go_at_call 28; have _t := tok3; refine (sMoreGeneral_any k n ks A1 c1 z ku nu us U1 cu y _ hzw hyw (by omega) (by omega) rk ru).mono ?_; rw [hb.out]; rintro e w4 ⟨rfl, hb4⟩; replace hX := hX.keep hb4; replace hU := hU.keep hb4; clear x0 x1 x2 u0 u1 u2; obtain ⟨x0, x1, x2⟩ := hX.three; obtain ⟨u0, u1, u2⟩ := hU.three; replace gg := gg.trans (hb4.mono gg.size); replace rk := rk.below hb4; replace ru := ru.below hb4; have tok4 := trivial)
          | (go_at_call 27; refine (iMoreGeneral_any k n ks A1 c1 z ku nu us U1 cu y _ hzw hyw (by omega) (by omega) rk ru).mono ?_; rw [hb.out]; rintro e w3 ⟨rfl, hb3⟩; replace hX := hX.keep hb3; replace hU := hU.keep hb3; clear x0 x1 x2 u0 u1 u2; obtain ⟨x0, x1, x2⟩ := hX.three; obtain ⟨u0, u1, u2⟩ := hU.three; replace gg := gg.trans (hb3.mono gg.size); replace rk := rk.below hb3; replace ru := ru.below hb3; have tok3 := trivial))
        go_ret
        exact ⟨rfl, gg⟩
      | true =>
        have hb := hide hb0
        obtain ⟨kt, nt, kst, htt⟩ := tm_eta ((fillTS (.mk ku nu us) (sortsOf ms.length y)).getD (.mk 0 0 []))
        have hst4 := fillTS_size _ _ htt
        obtain ⟨f, hf0⟩ : ∃ f, (fillTS (.mk ku nu us) (sortsOf ms.length y)).isSome = f := ⟨_, rfl⟩
        obtain ⟨L, hL0⟩ : ∃ L, (matchTS (.mk k n ks) z (.mk kt nt kst)).getD [] = L := ⟨_, rfl⟩
        obtain ⟨g, hg0⟩ : ∃ g, (matchTS (.mk k n ks) z (.mk kt nt kst)).isSome = g := ⟨_, rfl⟩
        have hfg : (!f || g) = true := by
          cases hf : fillTS (.mk ku nu us) (sortsOf ms.length y) with
          | none => rw [hf] at hf0; subst hf0; rfl
          | some t =>
            rw [hf] at htt
            have htt : t = .mk kt nt kst := htt
            subst htt
            have := more_match (sortsOf_sort ms.length y) (by rw [sortsOf_length]; exact hb0) hf
            rw [this] at hg0
            subst hg0
            simp
        have hT := hide htt
        have hF := hide hf0
        have hL := hide hL0
        have hG := hide hg0
        have hI := hide (fill_same (.mk ku nu us) (sortsOf ms.length y))
        have hss := hide (sortsOf_sizes ms.length y)
        have hsl := hide (sortsOf_length ms.length y)
        have hml : ms.length ≤ 1048576 := by omega
        clear hb0 htt hf0 hL0 hg0
        go_wp2_with (first
          | (go_at_call 28; have _t := tok3; refine (sMoreGeneral_any k n ks A1 c1 z ku nu us U1 cu y _ hzw hyw (by omega) (by omega) rk ru).mono ?_; rw [hb.out]; rintro e w4 ⟨rfl, hb4⟩; replace hX := hX.keep hb4; replace hU := hU.keep hb4; clear x0 x1 x2 u0 u1 u2; obtain ⟨x0, x1, x2⟩ := hX.three; obtain ⟨u0, u1, u2⟩ := hU.three; replace gg := gg.trans (hb4.mono gg.size); replace rk := rk.below hb4; replace ru := ru.below hb4; have tok4 := trivial)
          | (go_at_call 27; refine (iMoreGeneral_any k n ks A1 c1 z ku nu us U1 cu y _ hzw hyw (by omega) (by omega) rk ru).mono ?_; rw [hb.out]; rintro e w3 ⟨rfl, hb3⟩; replace hX := hX.keep hb3; replace hU := hU.keep hb3; clear x0 x1 x2 u0 u1 u2; obtain ⟨x0, x1, x2⟩ := hX.three; obtain ⟨u0, u1, u2⟩ := hU.three; replace gg := gg.trans (hb3.mono gg.size); replace rk := rk.below hb3; replace ru := ru.below hb3; have tok3 := trivial))
        go_loopw [10, 11] (fun v i wr => ∃ j : Nat, j ≤ y ∧ i = .int .i64 j ∧ Part w4.heap.size wr v (sortsOf ms.length j) ∧ Below w4.heap.size w4 wr) (fun _ i _ => y - (intOf i).toNat)
        case atStart => exact ⟨0, Nat.zero_le _, rfl, (Part.empty_ (B := w4.heap.size) (w := w4) rfl (Nat.le_refl _)), (Below.refl _ _).alloc (Nat.le_refl _) _⟩
        case round =>
          obtain ⟨j, hj, rfl, hq, hbr⟩ := hrel
          have sr := hbr.size
          by_cases hlt : j < y
          · have hrem := hide (show (((j + ms.length) % 4 : Nat) : Int) = ((j : Int) + (ms.length : Int)) % 4 from rfl)
            go_wp2_with (at_builtin; refine wpList_append_built (B := w4.heap.size) (w0 := wr) (w1 := wr) (m := j) (k := 2) (n := ((j : Int) + (ms.length : Int)) % 4) (c := 0) (A := none) (ks := []) hq (Below.refl _ _) sr Fresh.nil (by simp) (sortsOf_length _ _) (by omega) rfl _ _ rfl rfl (by show Value.slice (some ⟨wr.heap.size, 0, none⟩) 1 1 = _; simp) ?_; intro A2 c2 w5 hp2 hb2 hg2)
            go_roundw
            case rel => exact ⟨j + 1, by omega, by go_num, by rw [sortsOf_succ, hrem.out]; exact hp2, hbr.trans hb2⟩
            case measure => simp [intOf]; omega
          · have hje : j = y := by omega
            subst hje
            obtain ⟨B1, d1, rfl, hfr⟩ := hq.fresh
            replace hX := hX.keep hbr
            replace hU := hU.keep hbr
            clear x0 x1 x2 u0 u1 u2
            obtain ⟨x0, x1, x2⟩ := hX.three
            obtain ⟨u0, u1, u2⟩ := hU.three
            replace rk := rk.below hbr
            replace ru := ru.below hbr
            replace gg := gg.trans (hbr.mono gg.size)
            go_wp2_with (first
              | (go_at_call 29; refine (iMatchTerm_any k n ks A1 c1 z hzw kt nt kst A6 c6 _ (by omega) (by omega) rk rT).mono ?_; rintro e w7 hgo; obtain ⟨A7, c7, rfl, hf7, hb7⟩ := gotLO_pair hgo hL.out hG.out; clear hgo; replace gg := gg.trans (hb7.mono gg.size))
              | (go_at_call 17; refine (iFillTerm_any ku nu us U1 cu (sortsOf ms.length j) B1 d1 _ (by omega) (by rw [hss.out]; omega) ru hfr.rd).mono ?_; rw [hI.out.symm]; rintro e w6 hgo; obtain ⟨A6, c6, rfl, hl6, hf6, hb6⟩ := gotO_pair hgo hT.out hF.out; clear hgo; replace hX := hX.keep hb6; replace hU := hU.keep hb6; clear x0 x1 x2 u0 u1 u2; obtain ⟨x0, x1, x2⟩ := hX.three; obtain ⟨u0, u1, u2⟩ := hU.three; replace gg := gg.trans (hb6.mono gg.size); replace rk := rk.below hb6; replace ru := ru.below hb6; replace hX := hX.alloc (.cells #[.int .i64 kt, .int .i64 nt, .slice A6 kst.length c6] 25); replace hU := hU.alloc (.cells #[.int .i64 kt, .int .i64 nt, .slice A6 kst.length c6] 25); have hT6 := Blk.new_ w6 25 #[.int .i64 kt, .int .i64 nt, .slice A6 kst.length c6] rfl; clear x0 x1 x2 u0 u1 u2; obtain ⟨x0, x1, x2⟩ := hX.three; obtain ⟨u0, u1, u2⟩ := hU.three; obtain ⟨t0, t1, t2⟩ := hT6.three; replace rk := rk.alloc (.cells #[.int .i64 kt, .int .i64 nt, .slice A6 kst.length c6] 25); have rT := hf6.rd.alloc (.cells #[.int .i64 kt, .int .i64 nt, .slice A6 kst.length c6] 25); replace gg := gg.alloc gg.size (.cells #[.int .i64 kt, .int .i64 nt, .slice A6 kst.length c6] 25)))
            · have hft : f = true := by assumption
              rw [hft] at hfg
              have hg : g = true := by simpa using hfg
              subst hg
              go_ret
              exact ⟨rfl, gg⟩
            · go_ret
              exact ⟨rfl, gg⟩
end Go.Proofs.Ytodkenpmhhbppaa

namespace Go.Proofs.Ytodkenpmhhbppaa.lMoreGeneral
open Go.ChangeShapes Go.WideShapes Go.ChangeAt Go.RowKit
set_option linter.unusedVariables false
set_option linter.unusedSimpArgs false

theorem own : ownKnob Try.prog.godebug = none := by kernel_rfl
theorem laidOut : laidOutB Try.prog = true := by kernel_rfl

set_option maxRecDepth 100000 in
theorem lifted (os : Os) (started : os.Started) (H : Type) (enc : TypeId × Value → H) :
    ReturnsInHanded {} Try.checked os 5 .any (Rows.fnMoreGeneralSpec.pre6 enc Try.prog Try.f5 Rows.fnMoreGeneralRow.domain false) (Rows.fnMoreGeneralSpec.post enc Try.prog Try.f5 false true false false) := by
  refine returnsInHanded_of_change (C := Try.checked) own started (by kernel_rfl) Try.func5
    (ChangeSpec.witness6 (enc := enc) (C := Try.checked) false ⟨#[], #[.slice none 0 0, .slice none 0 0], []⟩ 8 (by kernel_rfl) (by kernel_rfl) (by kernel_rfl) (by kernel_rfl)) ?_
  intro W base args ds gs before hval0 hW hcnd _
  have hval : ∀ (j : Nat) t v, Try.f5.params[j]? = some t → args[j]? = some v → Value.okWide Try.prog W .any base t v := hval0
  have hW' := hW
  obtain ⟨p, q, hA0, hV, rfl, hfz, hnd⟩ := hW
  have hA : DataW.TrodAll enc Try.prog W 0 (fun _ => true) true Try.f5.params.toList args.toList ds p := hA0
  rw [Try.params5] at hA hval
  obtain ⟨v0, vs0, d0, ds0, p0, q0, hargs0, rfl, rfl, h0, r0⟩ := trodAll_cons hA
  obtain ⟨v1, vs1, d1, ds1, p1, q1, hargs1, rfl, rfl, h1, r1⟩ := trodAll_cons r0
  obtain ⟨rfl, rfl, rfl⟩ := trodAll_nil r1
  obtain rfl : args = #[v0, v1] := by cases args; simp_all
  obtain ⟨rfl, rfl⟩ := trodVars_none hV
  obtain ⟨xs0, P0, cp0, rfl, hl0, hc0, hr0⟩ := open_code (hval 0 22 v0 rfl rfl) h0
  obtain ⟨xs1, P1, cp1, rfl, hl1, hc1, hr1⟩ := open_code (hval 1 22 v1 rfl rfl) h1
  clear hA0 hval0
  simp only [List.append_nil] at hW' hfz
  have hlt : ∀ x ∈ p0 ++ p1, x.block < W.heap.size := fun x hx => hW'.lt x hx
  refine (lawMoreGeneral_any xs0 P0 cp0 xs1 P1 cp1 W hl0 hc0 hr0 hl1 hc1 hr1).mono fun e W' ⟨he, hb⟩ => ?_
  subst he
  exact ⟨_, rfl, post_below (pa := p0 ++ p1) (pv := []) hW' (fun _ _ _ => (trodAll_cons_mk (shut_bool Try.underlying4 _) trodAll_mk0)) (fun sp hsp => by
      have := (trodAll_cons_mk (WideElems.Trod_stays (sp' := sp) laidOut (by kernel_rfl) (of_decide_eq_true (by kernel_rfl)) h0 (fun x hx => hb.same (hlt x (by simp [hx]))) (fun x hx => hsp x (by simp [hx]))) (trodAll_cons_mk (WideElems.Trod_stays (sp' := sp) laidOut (by kernel_rfl) (of_decide_eq_true (by kernel_rfl)) h1 (fun x hx => hb.same (hlt x (by simp [hx]))) (fun x hx => hsp x (by simp [hx]))) trodAll_mk0))
      show DataW.TrodAll enc Try.prog W' 0 sp true Try.f5.params.toList [_, _] [d0, d1] (p0 ++ p1)
      rw [Try.params5]
      simpa using this) (fun _ _ => rfl) (by simp)
    hb (ok_one (by kernel_rfl) rfl (okWide_bool_mk Try.underlying4 _))⟩

theorem holds : Rows.FnMoreGeneralSaid :=
  OpenClaim.holds_of_wide 5 Try.f5 rfl rfl rfl rfl rfl rfl rfl ⟨rfl, rfl, rfl, rfl, rfl⟩ rfl rfl rfl rfl rfl (by kernel_rfl) Try.func5 (by kernel_rfl)
    (of_decide_eq_true (by kernel_rfl)) (by unfold Func.isWrapper; first | (rw [if_pos (by decide +kernel)]; kernel_rfl) | (rw [if_neg (by decide +kernel)]; exact ⟨rfl, rfl⟩))
    (fun os started H enc _ => lifted os started H enc)
end Go.Proofs.Ytodkenpmhhbppaa.lMoreGeneral
