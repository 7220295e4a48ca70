/-
  The statement FnFillTermSaid, proved.
-/
import Derived.Test.YtodkenpmhhbppaaK1
import Derived.Test.YtodkenpmhhbppaaK2
import Derived.Test.YtodkenpmhhbppaaK3
import Derived.Test.YtodkenpmhhbppaaK5
import Derived.Test.YtodkenpmhhbppaaK6
import Derived.Test.YtodkenpmhhbppaaK8
import Derived.Test.YtodkenpmhhbppaaK12
import Derived.Test.YtodkenpmhhbppaaK15

namespace Go.Proofs.Ytodkenpmhhbppaa
open Go.RowKit
set_option linter.unusedSimpArgs false
set_option linter.unusedVariables false

/-- what is known so far agrees with a list -/
def Agree (L : List Tm) (st : St) : Prop := st.1.length = L.length ∧ st.2.length = L.length ∧ ∀ i, st.2.getD i false = true → st.1.getD i zeroT = L.getD i zeroT
theorem getD_set_eq {α : Type} {l : List α} {i : Nat} (x d : α) (h : i < l.length) : (l.set i x).getD i d = x := by
  simp [List.getD_eq_getElem?_getD, h]
theorem getD_set_ne {α : Type} {l : List α} {i j : Nat} (x d : α) (h : i ≠ j) : (l.set i x).getD j d = l.getD j d := by
  simp [List.getD_eq_getElem?_getD, List.getElem?_set_ne h]
theorem getD_true_lt {l : List Bool} {i : Nat} (h : l.getD i false = true) : i < l.length := by
  rcases Nat.lt_or_ge i l.length with hl | hl
  · exact hl
  · simp [List.getD_eq_getElem?_getD, List.getElem?_eq_none hl] at h

/-- a match, with a list that holds what was found, gives the term back -/
theorem mt_fill {L : List Tm} (hL6 : L.length ≤ 1000) (p : Tm) : ∀ (q : Nat) (d : Int) (u : Tm) (st st' : St), 0 ≤ d → shape q p = true → validT u = true → mt L.length 0 d p u st = (true, st') → Agree L st' → st.1.length = L.length → st.2.length = L.length → flS L d p = u ∧ Agree L st := by
  refine (Tm.ind2 (p := fun p => ∀ (q : Nat) (d : Int) (u : Tm) (st st' : St), 0 ≤ d → shape q p = true → validT u = true → mt L.length 0 d p u st = (true, st') → Agree L st' → st.1.length = L.length → st.2.length = L.length → flS L d p = u ∧ Agree L st)
    (q := fun ts => ∀ (q : Nat) (k d : Int) (i : Nat) (us : List Tm) (st st' : St), 0 ≤ d → (∀ t, t ∈ ts → shape q t = true) → (∀ u, u ∈ us → validT u = true) → us.length = ts.length → mtL L.length 0 k d i ts us st = (true, st') → Agree L st' → st.1.length = L.length → st.2.length = L.length → flSL L k d i ts = us ∧ Agree L st) ?_ ?_ ?_).1 p
  · intro k n ks ih q d u st st' hd hs hv hm ha hl1 hl2
    obtain ⟨q, rfl, har, _, _, hk⟩ := shape_pos hs
    rw [mt] at hm
    by_cases h : k = 1 ∧ d ≤ n
    · obtain ⟨rfl, hdn⟩ := h
      rw [if_pos ⟨rfl, hdn⟩] at hm
      rw [flS, if_pos ⟨rfl, hdn⟩]
      by_cases hlt : n < d + L.length
      · rw [if_pos hlt] at hm
        rw [if_pos hlt]
        rw [shiftI_down hd hv] at hm
        by_cases hkp : kpS d 0 u = true
        · rw [if_pos hkp] at hm
          simp only at hm
          have hi : (n - d).toNat < L.length := by omega
          have hback := shS_up_down hd u 0 hkp
          split at hm
          · rename_i hf
            injection hm with h1 h2
            subst h2
            have h3 := tmEq_iff.1 h1
            have h4 := ha.2.2 _ hf
            refine ⟨?_, ha⟩
            have : L.getD (n - d).toNat default = L.getD (n - d).toNat zeroT := rfl
            rw [this, ← h4, h3, hback]
          · rename_i hf
            injection hm with h1 h2
            subst h2
            have h4 := ha.2.2 (n - d).toNat (getD_set_eq _ _ (by omega))
            rw [getD_set_eq _ _ (by omega)] at h4
            refine ⟨?_, hl1, hl2, fun j hj => ?_⟩
            · have : L.getD (n - d).toNat default = L.getD (n - d).toNat zeroT := rfl
              rw [this, ← h4, hback]
            · have hne : (n - d).toNat ≠ j := by rintro rfl; exact hf hj
              have := ha.2.2 j (by rw [getD_set_ne _ _ hne]; exact hj)
              rw [getD_set_ne _ _ hne] at this
              exact this
        · rw [if_neg hkp] at hm
          simp at hm
      · rw [if_neg hlt] at hm
        rw [if_neg hlt]
        injection hm with h1 h2
        subst h2
        obtain ⟨ku, nu, us⟩ := u
        simp only [Tm.k, Tm.n, Bool.and_eq_true, beq_iff_eq] at h1
        obtain ⟨rfl, rfl⟩ := h1
        have := valid_var hv
        subst this
        exact ⟨by simp, ha⟩
    · rw [if_neg h] at hm
      rw [flS, if_neg h]
      obtain ⟨ku, nu, us⟩ := u
      split at hm
      · rename_i hh
        obtain ⟨h1, h2, h3⟩ := hh
        have h1 : ku = k := h1
        have h2 : nu = n := h2
        subst h1 h2
        have hx := ih _ _ _ _ _ _ _ hd hk (fun u hu => validT_kid hv hu) h3 hm ha hl1 hl2
        rw [hx.1]
        exact ⟨rfl, hx.2⟩
      · simp at hm
  · intro q k d i us st st' _ _ _ hl hm ha _ _
    have : us = [] := List.eq_nil_of_length_eq_zero hl
    subst this
    rw [mtL] at hm
    · injection hm with _ h2; subst h2; exact ⟨by simp [flSL], ha⟩
    · intro _ _ _ _ h; cases h
  · intro t ts h1 h2 q k d i us st st' hd hs hv hl hm ha hl1 hl2
    cases us with
    | nil => simp at hl
    | cons u us =>
      rw [mtL] at hm
      have hun := under_le k (i : Nat)
      cases hb : mt L.length 0 (d + under k i) t u st with
      | mk b st2 =>
        rw [hb] at hm
        cases b with
        | false => simp at hm
        | true =>
          simp only [if_true] at hm
          have hlen := mt_length L.length 0 t (d + under k i) u st
          rw [hb] at hlen
          obtain ⟨e2, a2⟩ := h2 q k d (i + 1) us st2 st' hd (fun t ht => hs t (by simp [ht])) (fun u hu => hv u (by simp [hu])) (by simpa using hl) hm ha (by rw [← hl1]; exact hlen.1) (by rw [← hl2]; exact hlen.2)
          obtain ⟨e1, a1⟩ := h1 q (d + under k i) u st st2 (by omega) (hs t (by simp)) (hv u (by simp)) hb a2 hl1 hl2
          exact ⟨by rw [flSL, e1, e2], a1⟩
/-- what is found is valid -/
theorem mt_found {m : Nat} (p : Tm) : ∀ (d : Int) (u : Tm) (st : St), (∀ i, st.2.getD i false = true → validT (st.1.getD i zeroT) = true) → st.1.length = m → st.2.length = m → ∀ i, (mt m 0 d p u st).2.2.getD i false = true → validT ((mt m 0 d p u st).2.1.getD i zeroT) = true := by
  refine (Tm.ind2 (p := fun p => ∀ (d : Int) (u : Tm) (st : St), (∀ i, st.2.getD i false = true → validT (st.1.getD i zeroT) = true) → st.1.length = m → st.2.length = m → ∀ i, (mt m 0 d p u st).2.2.getD i false = true → validT ((mt m 0 d p u st).2.1.getD i zeroT) = true)
    (q := fun ts => ∀ (k d : Int) (i : Nat) (us : List Tm) (st : St), (∀ i, st.2.getD i false = true → validT (st.1.getD i zeroT) = true) → st.1.length = m → st.2.length = m → ∀ j, (mtL m 0 k d i ts us st).2.2.getD j false = true → validT ((mtL m 0 k d i ts us st).2.1.getD j zeroT) = true) ?_ ?_ ?_).1 p
  · intro k n ks ih d u st hf h1 h2 i hi
    rw [mt] at hi ⊢
    split at hi
    · rename_i h
      rw [if_pos h]
      split at hi
      · rename_i hlt
        rw [if_pos hlt]
        cases hsh : shiftI (-d) 0 u with
        | none => rw [hsh] at hi; exact hf i hi
        | some low =>
          rw [hsh] at hi
          simp only at hi ⊢
          have hlow : validT low = true := by
            unfold shiftI at hsh
            split at hsh
            · split at hsh
              · rename_i hv; injection hsh with hsh; subst hsh; exact hv
              · cases hsh
            · cases hsh
          split at hi
          · rename_i hfl; rw [if_pos hfl]; exact hf i hi
          · rename_i hfl
            rw [if_neg hfl]
            simp only at hi ⊢
            by_cases hij : (n - d).toNat = i
            · subst hij
              rw [getD_set_eq _ _ (by omega)]; exact hlow
            · rw [getD_set_ne _ _ hij] at hi ⊢
              exact hf i hi
      · rename_i hlt; rw [if_neg hlt]; exact hf i hi
    · rename_i h
      rw [if_neg h]
      split at hi
      · rename_i hh; rw [if_pos hh]; exact ih _ _ _ _ _ hf h1 h2 i hi
      · rename_i hh; rw [if_neg hh]; exact hf i hi
  · intro k d i us st hf _ _ j hj
    rw [mtL] at hj ⊢
    · exact hf j hj
    all_goals (intro _ _ _ _ h; cases h)
  · intro t ts a1 a2 k d i us st hf h1 h2 j hj
    cases us with
    | nil =>
      rw [mtL] at hj ⊢
      · exact hf j hj
      all_goals (intro _ _ _ _ _ h; cases h)
    | cons u us =>
      rw [mtL] at hj ⊢
      have hx := a1 (d + under k i) u st hf h1 h2
      have hlen := mt_length m 0 t (d + under k i) u st
      split at hj
      · rename_i hb; rw [if_pos hb]; exact a2 _ _ _ _ _ hx (hlen.1.trans h1) (hlen.2.trans h2) j hj
      · rename_i hb; rw [if_neg hb]; exact hx j hj

theorem tryS_some {m : Nat} {p u : Tm} {L : List Tm} (h : tryS m 0 p u = some L) : ∃ st, mt m 0 0 p u (List.replicate m zeroT, List.replicate m false) = (true, st) ∧ st.1 = L ∧ st.2.all id = true ∧ L.length = m ∧ st.2.length = m := by
  unfold tryS at h
  split at h
  · rename_i hh
    injection h with h
    have hlen := mt_length m 0 p 0 u (List.replicate m zeroT, List.replicate m false)
    refine ⟨(mt0 m 0 p u).2, Prod.ext hh.1 rfl, h, hh.2, ?_, ?_⟩
    · rw [← h]; simpa [mt0] using hlen.1
    · simpa [mt0] using hlen.2
  · cases h
/-- what matches, filled, is the term -/
theorem match_fill {p : Tm} {z : Int} {u : Tm} {L : List Tm} (h : matchTS p z u = some L) : fillTS p L = some u ∧ (L.length : Int) = z := by
  unfold matchTS at h
  split at h
  · rename_i hh
    obtain ⟨hp, hu, hz0, hz6⟩ := hh
    obtain ⟨st, hm, h1, hall, hl1, hl2⟩ := tryS_some h
    subst h1
    rw [← hl1] at hm hl2
    have hall' := (all_getD st.2).1 hall
    have hfill := mt_fill (L := st.1) (by omega) p 30 0 u _ st (by omega) (validT_shape hp) hu hm ⟨rfl, hl2, fun i _ => rfl⟩ (by simp) (by simp)
    have hfound := mt_found (m := st.1.length) p 0 u (List.replicate st.1.length zeroT, List.replicate st.1.length false) (fun i hi => by simp [List.getD_eq_getElem?_getD, List.getElem?_replicate] at hi; split at hi <;> simp at hi) (by simp) (by simp)
    rw [hm] at hfound
    refine ⟨?_, by omega⟩
    have hany : (st.1.any fun a => !validT a) = false := by
      refine Bool.eq_false_iff.2 fun hc => ?_
      obtain ⟨a, ha, hva⟩ := List.any_eq_true.1 hc
      obtain ⟨i, hi, rfl⟩ := List.getElem_of_mem ha
      have := hfound i (hall' i (by omega))
      simp only [List.getD_eq_getElem?_getD, List.getElem?_eq_getElem hi, Option.getD_some] at this
      rw [this] at hva
      cases hva
    unfold fillTS
    rw [if_pos ⟨hp, by omega, hany, by rw [hfill.1]; exact hu⟩, hfill.1]
  · cases h
end Go.Proofs.Ytodkenpmhhbppaa

namespace Go.Proofs.Ytodkenpmhhbppaa
open Go.RowKit
set_option linter.unusedSimpArgs false
set_option linter.unusedVariables false

theorem fill_mt {L : List Tm} (hL6 : L.length ≤ 1000) (p : Tm) : ∀ (q : Nat) (d : Int) (st : St), 0 ≤ d → shape q p = true → validT (flS L d p) = true → Agree L st → ∃ st', mt L.length 0 d p (flS L d p) st = (true, st') ∧ Agree L st' := by
  refine (Tm.ind2 (p := fun p => ∀ (q : Nat) (d : Int) (st : St), 0 ≤ d → shape q p = true → validT (flS L d p) = true → Agree L st → ∃ st', mt L.length 0 d p (flS L d p) st = (true, st') ∧ Agree L st')
    (q := fun ts => ∀ (q : Nat) (k d : Int) (i : Nat) (st : St), 0 ≤ d → (∀ t, t ∈ ts → shape q t = true) → (∀ u, u ∈ flSL L k d i ts → validT u = true) → Agree L st → ∃ st', mtL L.length 0 k d i ts (flSL L k d i ts) st = (true, st') ∧ Agree L st') ?_ ?_ ?_).1 p
  · intro k n ks ih q d st hd hs hv ha
    obtain ⟨q, rfl, har, _, _, hk⟩ := shape_pos hs
    rw [mt]
    rw [flS] at hv ⊢
    by_cases h : k = 1 ∧ d ≤ n
    · rw [if_pos h] at hv ⊢
      rw [if_pos h]
      by_cases hlt : n < d + L.length
      · rw [if_pos hlt] at hv ⊢
        rw [if_pos hlt]
        have hi : (n - d).toNat < L.length := by omega
        have hdu := shS_down_up hd (L.getD (n - d).toNat default) 0
        have hsh := shiftI_down hd hv
        rw [if_pos hdu.2, hdu.1] at hsh
        rw [hsh]
        simp only
        have hde : L.getD (n - d).toNat default = L.getD (n - d).toNat zeroT := rfl
        by_cases hf : st.2.getD (n - d).toNat false = true
        · rw [if_pos hf]
          refine ⟨st, ?_, ha⟩
          rw [hde, ha.2.2 _ hf, tmEq_self]
        · rw [if_neg hf]
          refine ⟨_, rfl, by simpa using ha.1, by simpa using ha.2.1, fun j hj => ?_⟩
          by_cases hij : (n - d).toNat = j
          · subst hij
            rw [getD_set_eq _ _ (by rw [ha.1]; exact hi), hde]
          · rw [getD_set_ne _ _ hij] at hj ⊢
            exact ha.2.2 j hj
      · rw [if_neg hlt]
        rw [if_neg hlt]
        refine ⟨st, ?_, ha⟩
        simp [Tm.k, Tm.n]
    · rw [if_neg h] at hv ⊢
      rw [if_neg h]
      rw [if_pos (show (Tm.mk k n (flSL L k d 0 ks)).k = k ∧ (Tm.mk k n (flSL L k d 0 ks)).n = n ∧ (Tm.mk k n (flSL L k d 0 ks)).kids.length = ks.length from ⟨rfl, rfl, flSL_length _ _ _ _ _⟩)]
      exact ih q k d 0 st hd hk (fun u hu => validT_kid hv hu) ha
  · intro q k d i st _ _ _ ha
    refine ⟨st, ?_, ha⟩
    rw [mtL]
    intro _ _ _ _ h; cases h
  · intro t ts h1 h2 q k d i st hd hs hv ha
    have hun := under_le k (i : Nat)
    rw [flSL] at hv ⊢
    obtain ⟨st1, e1, a1⟩ := h1 q (d + under k i) st (by omega) (hs t (by simp)) (hv _ (by simp)) ha
    obtain ⟨st2, e2, a2⟩ := h2 q k d (i + 1) st1 hd (fun t ht => hs t (by simp [ht])) (fun u hu => hv u (by simp [hu])) a1
    refine ⟨st2, ?_, a2⟩
    rw [mtL, e1]
    simp only [if_true]
    exact e2
/-- whether all the holes occur -/
def allOcc (m : Nat) (p : Tm) : Bool := (List.range m).all fun j => decide (0 < cnV (j : Nat) 0 p)
theorem allOcc_succ (m : Nat) (p : Tm) : allOcc (m + 1) p = (allOcc m p && decide (0 < cnV (m : Nat) 0 p)) := by
  unfold allOcc
  rw [List.range_succ, List.all_append]
  simp
theorem allOcc_iff (m : Nat) (p : Tm) : allOcc m p = true ↔ ∀ j : Nat, j < m → 0 < cnV j 0 p := by
  unfold allOcc
  rw [List.all_eq_true]
  constructor
  · intro h j hj
    simpa using h j (by simpa using hj)
  · intro h j hj
    simpa using h j (by simpa using hj)
/-- a filled pattern matches what its holes were filled with, if all of them occur -/
theorem fill_match {p : Tm} {L : List Tm} {t : Tm} (h : fillTS p L = some t) : matchTS p L.length t = if allOcc L.length p = true then some L else none := by
  unfold fillTS at h
  split at h
  · rename_i hh
    obtain ⟨hp, hl6, _, hv⟩ := hh
    injection h with h
    subst h
    unfold matchTS
    rw [if_pos ⟨hp, hv, by omega, by omega⟩]
    have e : ((L.length : Int)).toNat = L.length := by simp
    rw [e]
    obtain ⟨st', hm, ha⟩ := fill_mt (L := L) (by omega) p 30 0 (List.replicate L.length zeroT, List.replicate L.length false) (by omega) (validT_shape hp) hv
      ⟨by simp, by simp, fun i hi => by simp [List.getD_eq_getElem?_getD, List.getElem?_replicate] at hi; split at hi <;> simp at hi⟩
    have hm0 : mt0 L.length 0 p (flS L 0 p) = (true, st') := hm
    have hseen := seen_all (m := L.length) (add := 0) (p := p) (u := flS L 0 p) (validT_shape hp) (by rw [hm0])
    rw [hm0] at hseen
    unfold tryS
    rw [hm0]
    by_cases hall : allOcc L.length p = true
    · rw [if_pos hall]
      have h2 := hseen.2 ((allOcc_iff _ _).1 hall)
      rw [if_pos ⟨rfl, h2⟩]
      have hL : st'.1 = L := by
        refine List.ext_getElem ha.1 fun i h1 h2' => ?_
        have h3 := ha.2.2 i ((all_getD st'.2).1 h2 i (by have := ha.2.1; omega))
        simpa [List.getD_eq_getElem?_getD, List.getElem?_eq_getElem h1, List.getElem?_eq_getElem h2'] using h3
      rw [hL]
    · rw [if_neg hall, if_neg]
      intro hc
      exact hall ((allOcc_iff _ _).2 (hseen.1 hc.2))
  · cases h
end Go.Proofs.Ytodkenpmhhbppaa

namespace Go.Proofs.Ytodkenpmhhbppaa
open Go.RowKit
set_option linter.unusedSimpArgs false
set_option linter.unusedVariables false

set_option maxHeartbeats 4000000 in
set_option maxRecDepth 100000 in
theorem iCountVar_any (k n : Int) (ks : List Tm) (A : Option Addr) (c : Nat) (x : Int) (w : World) (hv : validT (.mk k n ks) = true) (hx : 0 ≤ x ∧ x ≤ 20) (hr : Rd w A 0 ks) :
    Calls Try.prog 74 #[.agg #[.int .i64 k, .int .i64 n, .slice A ks.length c], .int .i64 x] w fun e w' => e = .returned (.int .i64 (cnV x 0 (.mk k n ks) : Nat)) ∧ Below w.heap.size w w' := by
  have hsz := validT_size hv
  rw [Tm.size] at hsz
  have hsh : shape 30 (.mk k n ks) = true := by simp only [validT, Bool.and_eq_true] at hv; exact hv.1
  have hv' := hide hv
  have hsh' := hide hsh
  have q1 : decide (0 ≤ x) = true := decide_eq_true hx.1
  have q2 : decide (x ≤ 20) = true := decide_eq_true hx.2
  clear hv hsh
  obtain ⟨N, hN⟩ : ∃ N, cnV x 0 (.mk k n ks) = N := ⟨_, rfl⟩
  rw [hN]
  have hN' := hide hN
  clear hN
  go_enter Try.func74, Try.ntmps74
  go_wp2_with (first
    | (go_at_call 115; refine (countVar_any k n ks A c x _ (by omega) hsh'.out ((hr.alloc _).below hb1)).mono ?_; rw [hN'.out]; rintro e w2 ⟨rfl, hb2⟩)
    | (go_at_call 69; refine (within_any _ _ _ _).mono ?_; rintro e w9 ⟨rfl, rfl⟩)
    | (go_at_call 34; refine (iTermValid_any k n ks A c _ (by omega) (hr.alloc _)).mono ?_; rw [hv'.out]; rintro e w1 ⟨rfl, hb1⟩; have hX := (Blk.new_ w 25 #[.int .i64 k, .int .i64 n, .slice A ks.length c] rfl).keep hb1; obtain ⟨x0, x1, x2⟩ := hX.three))
  go_ret
  exact ⟨rfl, (((Below.refl _ _).alloc (Nat.le_refl _) _).trans (hb1.mono (by simp))).trans (hb2.mono (by have := hb1.size; simp at this; omega))⟩
set_option maxHeartbeats 4000000 in
set_option maxRecDepth 100000 in
theorem iFreeAt_any (k n : Int) (ks : List Tm) (A : Option Addr) (c : Nat) (x : Int) (w : World) (hv : validT (.mk k n ks) = true) (hx : 0 ≤ x ∧ x ≤ 20) (hr : Rd w A 0 ks) :
    Calls Try.prog 30 #[.agg #[.int .i64 k, .int .i64 n, .slice A ks.length c], .int .i64 x] w fun e w' => e = .returned (.bool (decide (0 < cnV x 0 (.mk k n ks)))) ∧ Below w.heap.size w w' := by
  have hc := hide (fun (w : World) hr => iCountVar_any k n ks A c x w hv hx hr)
  generalize cnV x 0 (.mk k n ks) = N at *
  clear hv
  go_enter Try.func30, Try.ntmps30
  go_wp2_with (go_at_call 74; refine (hc.out _ (hr.alloc _)).mono ?_; rintro e w2 ⟨rfl, hb2⟩)
  go_ret
  exact ⟨ret_bool (by simp), ((Below.refl _ _).alloc (Nat.le_refl _) _).trans (hb2.mono (by simp))⟩
end Go.Proofs.Ytodkenpmhhbppaa

namespace Go.Proofs.Ytodkenpmhhbppaa
open Go.RowKit
set_option linter.unusedSimpArgs false
set_option linter.unusedVariables false

theorem gotLO_pair {w : World} {o : Option (List Tm)} {e : Ending} {w' : World} (h : GotLO w o e w') {L : List Tm} (hL : o.getD [] = L) {b : Bool} (hb : o.isSome = b) :
    ∃ A c, e = .returned (.tuple #[.slice A L.length c, .bool b]) ∧ Fresh w.heap.size w' A L ∧ Below w.heap.size w w' := by
  subst hL hb; exact h
set_option maxHeartbeats 8000000 in
set_option maxRecDepth 100000 in
theorem lawMatchClosed_any (bs : List Int) (A : Option Addr) (c : Nat) (w : World) (hl : bs.length ≤ 9223372036854775807) (hc : bs.length ≤ c) (hr : RdY w A bs) :
    Calls Try.prog 7 #[.slice A bs.length c] w fun e w' => e = .returned (.bool true) ∧ Below w.heap.size w w' := by
  by_cases hbig : 1048576 < bs.length
  · go_enter Try.func7, Try.ntmps7
    go_wp2_with fail
    go_ret
    exact ⟨rfl, Below.refl _ _⟩
  · go_enter Try.func7, Try.ntmps7
    go_wp2_with (go_at_call 32; refine (drawMatch_any bs A c _ hl hc hr).mono ?_; rintro e w1 ⟨k, n, ks, A1, c1, z, ku, nu, us, U1, cu, rfl, hlk, hsk, hlu, hsu, hz1, hz2, hrk, hru, hb1⟩)
    refine name_calls ?_
    intro w2 hw2
    have hX : Blk w2 w1.heap.size #[.int .i64 k, .int .i64 n, .slice A1 ks.length c1] := by rw [hw2]; exact (Blk.new_ _ _ _ rfl).alloc _
    have hU : Blk w2 (w1.heap.size + 1) #[.int .i64 ku, .int .i64 nu, .slice U1 us.length cu] := by rw [hw2]; exact (Blk.new_ _ _ _ (by simp))
    have hrk2 : Rd w2 A1 0 ks := by rw [hw2]; exact ((hrk.alloc _).alloc _)
    have hru2 : Rd w2 U1 0 us := by rw [hw2]; exact ((hru.alloc _).alloc _)
    have g2 : Below w.heap.size w w2 := by rw [hw2]; exact (hb1.alloc hb1.size _).alloc (by have := hb1.size; simp; omega) _
    clear hw2
    obtain ⟨x0, x1, x2⟩ := hX.three
    obtain ⟨u0, u1, u2⟩ := hU.three
    cases hv : validT (.mk k n ks) with
    | true =>
      cases hs : tmEq (.mk k n ks) (.mk ku nu us) with
      | true =>
        have hL := hide (show (matchTS (.mk k n ks) 0 (.mk ku nu us)).getD [] = [] by rw [closed_law]; split <;> rfl)
        have hB := hide (show (matchTS (.mk k n ks) 0 (.mk ku nu us)).isSome = true by rw [closed_law, hv, hs]; rfl)
        have hV := hide hv
        have hS := hide hs
        clear hv hs
        go_wp2_with (first
          | (go_at_call 19; have _t := tok5; refine (iSame_any k n ks A1 c1 ku nu us U1 cu _ hlk hlu (hrk2.keeps K5) (hru2.keeps K5)).mono ?_; rw [hS.out]; rintro e w6 ⟨rfl, hb6⟩; have g6 := g5.trans (hb6.mono g5.size))
          | (go_at_call 34; have _t := tok4; refine (iTermValid_any k n ks A1 c1 _ (by omega) (hrk2.keeps K4)).mono ?_; rw [hV.out]; rintro e w5 ⟨rfl, hb5⟩; replace hX := hX.keep hb5; replace hU := hU.keep hb5; clear x0 x1 x2 u0 u1 u2; obtain ⟨x0, x1, x2⟩ := hX.three; obtain ⟨u0, u1, u2⟩ := hU.three; have g5 := g4.trans (hb5.mono g4.size); have K5 : Keeps w2 w5 := K4.trans (Keeps.of_below hb5); have tok5 := trivial)
          | (go_at_call 33; have _t := tok3; refine (sMatchTerm_any k n ks A1 c1 0 (by decide) ku nu us U1 cu _ (by omega) (by omega) (hrk2.keeps K3) (hru2.keeps K3)).mono ?_; rintro e w4 hgo; obtain ⟨A4, c4, rfl, hf4, hb4⟩ := gotLO_pair hgo hL.out hB.out; clear hgo; replace hX := hX.keep hb4; replace hU := hU.keep hb4; clear x0 x1 x2 u0 u1 u2; obtain ⟨x0, x1, x2⟩ := hX.three; obtain ⟨u0, u1, u2⟩ := hU.three; have g4 := g3.trans (hb4.mono g3.size); have K4 : Keeps w2 w4 := K3.trans (Keeps.of_below hb4); have tok4 := trivial)
          | (go_at_call 29; refine (iMatchTerm_any k n ks A1 c1 0 (by decide) ku nu us U1 cu _ (by omega) (by omega) hrk2 hru2).mono ?_; rintro e w3 hgo; obtain ⟨A3, c3, rfl, hf3, hb3⟩ := gotLO_pair hgo hL.out hB.out; clear hgo; replace hX := hX.keep hb3; replace hU := hU.keep hb3; clear x0 x1 x2 u0 u1 u2; obtain ⟨x0, x1, x2⟩ := hX.three; obtain ⟨u0, u1, u2⟩ := hU.three; have g3 := g2.trans (hb3.mono g2.size); have K3 : Keeps w2 w3 := Keeps.of_below hb3; have tok3 := trivial))
        go_ret
        exact ⟨rfl, g6⟩
      | false =>
        have hL := hide (show (matchTS (.mk k n ks) 0 (.mk ku nu us)).getD [] = [] by rw [closed_law]; split <;> rfl)
        have hB := hide (show (matchTS (.mk k n ks) 0 (.mk ku nu us)).isSome = false by rw [closed_law, hv, hs]; rfl)
        have hV := hide hv
        have hS := hide hs
        clear hv hs
        go_wp2_with (first
          | (go_at_call 19; have _t := tok5; refine (iSame_any k n ks A1 c1 ku nu us U1 cu _ hlk hlu (hrk2.keeps K5) (hru2.keeps K5)).mono ?_; rw [hS.out]; rintro e w6 ⟨rfl, hb6⟩; have g6 := g5.trans (hb6.mono g5.size))
          | (go_at_call 34; have _t := tok4; refine (iTermValid_any k n ks A1 c1 _ (by omega) (hrk2.keeps K4)).mono ?_; rw [hV.out]; rintro e w5 ⟨rfl, hb5⟩; replace hX := hX.keep hb5; replace hU := hU.keep hb5; clear x0 x1 x2 u0 u1 u2; obtain ⟨x0, x1, x2⟩ := hX.three; obtain ⟨u0, u1, u2⟩ := hU.three; have g5 := g4.trans (hb5.mono g4.size); have K5 : Keeps w2 w5 := K4.trans (Keeps.of_below hb5); have tok5 := trivial)
          | (go_at_call 33; have _t := tok3; refine (sMatchTerm_any k n ks A1 c1 0 (by decide) ku nu us U1 cu _ (by omega) (by omega) (hrk2.keeps K3) (hru2.keeps K3)).mono ?_; rintro e w4 hgo; obtain ⟨A4, c4, rfl, hf4, hb4⟩ := gotLO_pair hgo hL.out hB.out; clear hgo; replace hX := hX.keep hb4; replace hU := hU.keep hb4; clear x0 x1 x2 u0 u1 u2; obtain ⟨x0, x1, x2⟩ := hX.three; obtain ⟨u0, u1, u2⟩ := hU.three; have g4 := g3.trans (hb4.mono g3.size); have K4 : Keeps w2 w4 := K3.trans (Keeps.of_below hb4); have tok4 := trivial)
          | (go_at_call 29; refine (iMatchTerm_any k n ks A1 c1 0 (by decide) ku nu us U1 cu _ (by omega) (by omega) hrk2 hru2).mono ?_; rintro e w3 hgo; obtain ⟨A3, c3, rfl, hf3, hb3⟩ := gotLO_pair hgo hL.out hB.out; clear hgo; replace hX := hX.keep hb3; replace hU := hU.keep hb3; clear x0 x1 x2 u0 u1 u2; obtain ⟨x0, x1, x2⟩ := hX.three; obtain ⟨u0, u1, u2⟩ := hU.three; have g3 := g2.trans (hb3.mono g2.size); have K3 : Keeps w2 w3 := Keeps.of_below hb3; have tok3 := trivial))
        go_ret
        exact ⟨rfl, g6⟩
    | false =>
      cases hs : tmEq (.mk k n ks) (.mk ku nu us) with
      | true =>
        have hL := hide (show (matchTS (.mk k n ks) 0 (.mk ku nu us)).getD [] = [] by rw [closed_law]; split <;> rfl)
        have hB := hide (show (matchTS (.mk k n ks) 0 (.mk ku nu us)).isSome = false by rw [closed_law, hv, hs]; rfl)
        have hV := hide hv
        have hS := hide hs
        clear hv hs
        go_wp2_with (first
          | (go_at_call 19; have _t := tok5; refine (iSame_any k n ks A1 c1 ku nu us U1 cu _ hlk hlu (hrk2.keeps K5) (hru2.keeps K5)).mono ?_; rw [hS.out]; rintro e w6 ⟨rfl, hb6⟩; have g6 := g5.trans (hb6.mono g5.size))
          | (go_at_call 34; have _t := tok4; refine (iTermValid_any k n ks A1 c1 _ (by omega) (hrk2.keeps K4)).mono ?_; rw [hV.out]; rintro e w5 ⟨rfl, hb5⟩; replace hX := hX.keep hb5; replace hU := hU.keep hb5; clear x0 x1 x2 u0 u1 u2; obtain ⟨x0, x1, x2⟩ := hX.three; obtain ⟨u0, u1, u2⟩ := hU.three; have g5 := g4.trans (hb5.mono g4.size); have K5 : Keeps w2 w5 := K4.trans (Keeps.of_below hb5); have tok5 := trivial)
          | (go_at_call 33; have _t := tok3; refine (sMatchTerm_any k n ks A1 c1 0 (by decide) ku nu us U1 cu _ (by omega) (by omega) (hrk2.keeps K3) (hru2.keeps K3)).mono ?_; rintro e w4 hgo; obtain ⟨A4, c4, rfl, hf4, hb4⟩ := gotLO_pair hgo hL.out hB.out; clear hgo; replace hX := hX.keep hb4; replace hU := hU.keep hb4; clear x0 x1 x2 u0 u1 u2; obtain ⟨x0, x1, x2⟩ := hX.three; obtain ⟨u0, u1, u2⟩ := hU.three; have g4 := g3.trans (hb4.mono g3.size); have K4 : Keeps w2 w4 := K3.trans (Keeps.of_below hb4); have tok4 := trivial)
          | (go_at_call 29; refine (iMatchTerm_any k n ks A1 c1 0 (by decide) ku nu us U1 cu _ (by omega) (by omega) hrk2 hru2).mono ?_; rintro e w3 hgo; obtain ⟨A3, c3, rfl, hf3, hb3⟩ := gotLO_pair hgo hL.out hB.out; clear hgo; replace hX := hX.keep hb3; replace hU := hU.keep hb3; clear x0 x1 x2 u0 u1 u2; obtain ⟨x0, x1, x2⟩ := hX.three; obtain ⟨u0, u1, u2⟩ := hU.three; have g3 := g2.trans (hb3.mono g2.size); have K3 : Keeps w2 w3 := Keeps.of_below hb3; have tok3 := trivial))
        go_ret
        exact ⟨rfl, g5⟩
      | false =>
        have hL := hide (show (matchTS (.mk k n ks) 0 (.mk ku nu us)).getD [] = [] by rw [closed_law]; split <;> rfl)
        have hB := hide (show (matchTS (.mk k n ks) 0 (.mk ku nu us)).isSome = false by rw [closed_law, hv, hs]; rfl)
        have hV := hide hv
        have hS := hide hs
        clear hv hs
        go_wp2_with (first
          | (go_at_call 19; have _t := tok5; refine (iSame_any k n ks A1 c1 ku nu us U1 cu _ hlk hlu (hrk2.keeps K5) (hru2.keeps K5)).mono ?_; rw [hS.out]; rintro e w6 ⟨rfl, hb6⟩; have g6 := g5.trans (hb6.mono g5.size))
          | (go_at_call 34; have _t := tok4; refine (iTermValid_any k n ks A1 c1 _ (by omega) (hrk2.keeps K4)).mono ?_; rw [hV.out]; rintro e w5 ⟨rfl, hb5⟩; replace hX := hX.keep hb5; replace hU := hU.keep hb5; clear x0 x1 x2 u0 u1 u2; obtain ⟨x0, x1, x2⟩ := hX.three; obtain ⟨u0, u1, u2⟩ := hU.three; have g5 := g4.trans (hb5.mono g4.size); have K5 : Keeps w2 w5 := K4.trans (Keeps.of_below hb5); have tok5 := trivial)
          | (go_at_call 33; have _t := tok3; refine (sMatchTerm_any k n ks A1 c1 0 (by decide) ku nu us U1 cu _ (by omega) (by omega) (hrk2.keeps K3) (hru2.keeps K3)).mono ?_; rintro e w4 hgo; obtain ⟨A4, c4, rfl, hf4, hb4⟩ := gotLO_pair hgo hL.out hB.out; clear hgo; replace hX := hX.keep hb4; replace hU := hU.keep hb4; clear x0 x1 x2 u0 u1 u2; obtain ⟨x0, x1, x2⟩ := hX.three; obtain ⟨u0, u1, u2⟩ := hU.three; have g4 := g3.trans (hb4.mono g3.size); have K4 : Keeps w2 w4 := K3.trans (Keeps.of_below hb4); have tok4 := trivial)
          | (go_at_call 29; refine (iMatchTerm_any k n ks A1 c1 0 (by decide) ku nu us U1 cu _ (by omega) (by omega) hrk2 hru2).mono ?_; rintro e w3 hgo; obtain ⟨A3, c3, rfl, hf3, hb3⟩ := gotLO_pair hgo hL.out hB.out; clear hgo; replace hX := hX.keep hb3; replace hU := hU.keep hb3; clear x0 x1 x2 u0 u1 u2; obtain ⟨x0, x1, x2⟩ := hX.three; obtain ⟨u0, u1, u2⟩ := hU.three; have g3 := g2.trans (hb3.mono g2.size); have K3 : Keeps w2 w3 := Keeps.of_below hb3; have tok3 := trivial))
        go_ret
        exact ⟨rfl, g5⟩
end Go.Proofs.Ytodkenpmhhbppaa

namespace Go.Proofs.Ytodkenpmhhbppaa
open Go.RowKit
set_option linter.unusedSimpArgs false
set_option linter.unusedVariables false

set_option maxHeartbeats 8000000 in
set_option maxRecDepth 100000 in
theorem lawFillTerm_any (bs : List Int) (A : Option Addr) (c : Nat) (w : World) (hl : bs.length ≤ 9223372036854775807) (hc : bs.length ≤ c) (hr : RdY w A bs) :
    Calls Try.prog 6 #[.slice A bs.length c] w fun e w' => e = .returned (.bool true) ∧ Below w.heap.size w w' := by
  by_cases hbig : 1048576 < bs.length
  · go_enter Try.func6, Try.ntmps6
    go_wp2_with fail
    go_ret
    exact ⟨rfl, Below.refl _ _⟩
  · go_enter Try.func6, Try.ntmps6
    go_wp2_with (go_at_call 16; refine (drawFill_any bs A c _ hl hc hr).mono ?_; rintro e w1 ⟨k, n, ks, A1, c1, ts, B1, d1, rfl, hlk, hsk, hlt7, hst, hrk, hrt, hb1⟩)
    refine name_calls ?_
    intro w2 hw2
    have hX : Blk w2 w1.heap.size #[.int .i64 k, .int .i64 n, .slice A1 ks.length c1] := by rw [hw2]; exact Blk.new_ _ _ _ rfl
    have rk : Rd w2 A1 0 ks := by rw [hw2]; exact hrk.alloc _
    have rt : Rd w2 B1 0 ts := by rw [hw2]; exact hrt.alloc _
    have gg : Below w.heap.size w w2 := by rw [hw2]; exact hb1.alloc hb1.size _
    clear hw2
    obtain ⟨x0, x1, x2⟩ := hX.three
    obtain ⟨kt, nt, kst, htt⟩ := tm_eta ((fillTS (.mk k n ks) ts).getD (.mk 0 0 []))
    have hst4 := fillTS_size _ _ htt
    cases ho : fillTS (.mk k n ks) ts with
    | none =>
      have hT := hide htt
      have hB := hide (show (fillTS (.mk k n ks) ts).isSome = false by rw [ho]; rfl)
      have hI := hide (fill_same (.mk k n ks) ts)
      clear ho htt
      go_wp2_with (first
        | (go_at_call 19; have _t := tok4; refine (iSame_any kt nt kst A3 c3 kt nt kst A4 c4 _ hl3 hl4 rT rS).mono ?_; rw [tmEq_self]; rintro e w5 ⟨rfl, hb5⟩; replace hX := hX.keep hb5; clear x0 x1 x2; obtain ⟨x0, x1, x2⟩ := hX.three; replace gg := gg.trans (hb5.mono gg.size); replace rk := rk.below hb5; replace rt := rt.below hb5; replace hY := hY.keep hb5; replace hW := hW.keep hb5; replace rT := rT.below hb5; replace rS := rS.below hb5; clear y0 y1 y2 z0 z1 z2; obtain ⟨y0, y1, y2⟩ := hY.three; obtain ⟨z0, z1, z2⟩ := hW.three)
        | (go_at_call 18; have _t := tok3; refine (sFillTerm_any k n ks A1 c1 ts B1 d1 _ (by omega) (by omega) rk rt).mono ?_; rintro e w4 hgo; obtain ⟨A4, c4, rfl, hl4, hf4, hb4⟩ := gotO_pair hgo hT.out hB.out; clear hgo; replace hX := hX.keep hb4; clear x0 x1 x2; obtain ⟨x0, x1, x2⟩ := hX.three; replace gg := gg.trans (hb4.mono gg.size); replace rk := rk.below hb4; replace rt := rt.below hb4; replace hY := hY.keep hb4; replace rT := rT.below hb4; have lx4 := hX.lt; have ly4 := hY.lt; have hW := Blk.new_ w4 25 #[.int .i64 kt, .int .i64 nt, .slice A4 kst.length c4] rfl; replace hX := hX.alloc (.cells #[.int .i64 kt, .int .i64 nt, .slice A4 kst.length c4] 25); replace hY := hY.alloc (.cells #[.int .i64 kt, .int .i64 nt, .slice A4 kst.length c4] 25); replace rk := rk.alloc (.cells #[.int .i64 kt, .int .i64 nt, .slice A4 kst.length c4] 25); replace rt := rt.alloc (.cells #[.int .i64 kt, .int .i64 nt, .slice A4 kst.length c4] 25); replace rT := rT.alloc (.cells #[.int .i64 kt, .int .i64 nt, .slice A4 kst.length c4] 25); have rS := hf4.rd.alloc (.cells #[.int .i64 kt, .int .i64 nt, .slice A4 kst.length c4] 25); replace gg := gg.alloc gg.size (.cells #[.int .i64 kt, .int .i64 nt, .slice A4 kst.length c4] 25); clear x0 x1 x2; obtain ⟨x0, x1, x2⟩ := hX.three; obtain ⟨y0, y1, y2⟩ := hY.three; obtain ⟨z0, z1, z2⟩ := hW.three; have tok4 := trivial)
        | (go_at_call 17; refine (iFillTerm_any k n ks A1 c1 ts B1 d1 _ (by omega) (by omega) rk rt).mono ?_; rw [← hI.out]; rintro e w3 hgo; obtain ⟨A3, c3, rfl, hl3, hf3, hb3⟩ := gotO_pair hgo hT.out hB.out; clear hgo; replace hX := hX.keep hb3; clear x0 x1 x2; obtain ⟨x0, x1, x2⟩ := hX.three; replace gg := gg.trans (hb3.mono gg.size); replace rk := rk.below hb3; replace rt := rt.below hb3; have hY := Blk.new_ w3 25 #[.int .i64 kt, .int .i64 nt, .slice A3 kst.length c3] rfl; replace hX := hX.alloc (.cells #[.int .i64 kt, .int .i64 nt, .slice A3 kst.length c3] 25); have lx3 := hX.lt; replace rk := rk.alloc (.cells #[.int .i64 kt, .int .i64 nt, .slice A3 kst.length c3] 25); replace rt := rt.alloc (.cells #[.int .i64 kt, .int .i64 nt, .slice A3 kst.length c3] 25); have rT := hf3.rd.alloc (.cells #[.int .i64 kt, .int .i64 nt, .slice A3 kst.length c3] 25); replace gg := gg.alloc gg.size (.cells #[.int .i64 kt, .int .i64 nt, .slice A3 kst.length c3] 25); clear x0 x1 x2; obtain ⟨x0, x1, x2⟩ := hX.three; have tok3 := trivial))
      go_ret
      exact ⟨rfl, gg⟩
    | some t =>
      have hmt := fill_match ho
      have hvp : validT (.mk k n ks) = true ∧ ts.length ≤ 6 := by
        unfold fillTS at ho
        split at ho
        · rename_i hh; exact ⟨hh.1, hh.2.1⟩
        · cases ho
      rw [ho] at htt
      simp only [Option.getD_some] at htt
      subst htt
      have hT := hide (show (fillTS (.mk k n ks) ts).getD (.mk 0 0 []) = .mk kt nt kst by rw [ho]; rfl)
      have hB := hide (show (fillTS (.mk k n ks) ts).isSome = true by rw [ho]; rfl)
      have hI := hide (fill_same (.mk k n ks) ts)
      have hM := hide hmt
      obtain ⟨hvp, hl6⟩ := hvp
      have hV := hide hvp
      clear ho hmt hvp
      go_wp2_with (first
        | (go_at_call 19; have _t := tok4; refine (iSame_any kt nt kst A3 c3 kt nt kst A4 c4 _ hl3 hl4 rT rS).mono ?_; rw [tmEq_self]; rintro e w5 ⟨rfl, hb5⟩; replace hX := hX.keep hb5; clear x0 x1 x2; obtain ⟨x0, x1, x2⟩ := hX.three; replace gg := gg.trans (hb5.mono gg.size); replace rk := rk.below hb5; replace rt := rt.below hb5; replace hY := hY.keep hb5; replace hW := hW.keep hb5; replace rT := rT.below hb5; replace rS := rS.below hb5; clear y0 y1 y2 z0 z1 z2; obtain ⟨y0, y1, y2⟩ := hY.three; obtain ⟨z0, z1, z2⟩ := hW.three)
        | (go_at_call 18; have _t := tok3; refine (sFillTerm_any k n ks A1 c1 ts B1 d1 _ (by omega) (by omega) rk rt).mono ?_; rintro e w4 hgo; obtain ⟨A4, c4, rfl, hl4, hf4, hb4⟩ := gotO_pair hgo hT.out hB.out; clear hgo; replace hX := hX.keep hb4; clear x0 x1 x2; obtain ⟨x0, x1, x2⟩ := hX.three; replace gg := gg.trans (hb4.mono gg.size); replace rk := rk.below hb4; replace rt := rt.below hb4; replace hY := hY.keep hb4; replace rT := rT.below hb4; have lx4 := hX.lt; have ly4 := hY.lt; have hW := Blk.new_ w4 25 #[.int .i64 kt, .int .i64 nt, .slice A4 kst.length c4] rfl; replace hX := hX.alloc (.cells #[.int .i64 kt, .int .i64 nt, .slice A4 kst.length c4] 25); replace hY := hY.alloc (.cells #[.int .i64 kt, .int .i64 nt, .slice A4 kst.length c4] 25); replace rk := rk.alloc (.cells #[.int .i64 kt, .int .i64 nt, .slice A4 kst.length c4] 25); replace rt := rt.alloc (.cells #[.int .i64 kt, .int .i64 nt, .slice A4 kst.length c4] 25); replace rT := rT.alloc (.cells #[.int .i64 kt, .int .i64 nt, .slice A4 kst.length c4] 25); have rS := hf4.rd.alloc (.cells #[.int .i64 kt, .int .i64 nt, .slice A4 kst.length c4] 25); replace gg := gg.alloc gg.size (.cells #[.int .i64 kt, .int .i64 nt, .slice A4 kst.length c4] 25); clear x0 x1 x2; obtain ⟨x0, x1, x2⟩ := hX.three; obtain ⟨y0, y1, y2⟩ := hY.three; obtain ⟨z0, z1, z2⟩ := hW.three; have tok4 := trivial)
        | (go_at_call 17; refine (iFillTerm_any k n ks A1 c1 ts B1 d1 _ (by omega) (by omega) rk rt).mono ?_; rw [← hI.out]; rintro e w3 hgo; obtain ⟨A3, c3, rfl, hl3, hf3, hb3⟩ := gotO_pair hgo hT.out hB.out; clear hgo; replace hX := hX.keep hb3; clear x0 x1 x2; obtain ⟨x0, x1, x2⟩ := hX.three; replace gg := gg.trans (hb3.mono gg.size); replace rk := rk.below hb3; replace rt := rt.below hb3; have hY := Blk.new_ w3 25 #[.int .i64 kt, .int .i64 nt, .slice A3 kst.length c3] rfl; replace hX := hX.alloc (.cells #[.int .i64 kt, .int .i64 nt, .slice A3 kst.length c3] 25); have lx3 := hX.lt; replace rk := rk.alloc (.cells #[.int .i64 kt, .int .i64 nt, .slice A3 kst.length c3] 25); replace rt := rt.alloc (.cells #[.int .i64 kt, .int .i64 nt, .slice A3 kst.length c3] 25); have rT := hf3.rd.alloc (.cells #[.int .i64 kt, .int .i64 nt, .slice A3 kst.length c3] 25); replace gg := gg.alloc gg.size (.cells #[.int .i64 kt, .int .i64 nt, .slice A3 kst.length c3] 25); clear x0 x1 x2; obtain ⟨x0, x1, x2⟩ := hX.three; have tok3 := trivial))
      go_loopw [9, 10] (fun b i wr => ∃ j : Nat, j ≤ ts.length ∧ i = .int .i64 j ∧ b = .bool (allOcc j (.mk k n ks)) ∧ Blk wr w1.heap.size #[.int .i64 k, .int .i64 n, .slice A1 ks.length c1] ∧ Blk wr w3.heap.size #[.int .i64 kt, .int .i64 nt, .slice A3 kst.length c3] ∧ Rd wr A1 0 ks ∧ Rd wr B1 0 ts ∧ Rd wr A3 0 kst ∧ Below w.heap.size w wr) (fun _ i _ => ts.length - (intOf i).toNat)
      case atStart => exact ⟨0, Nat.zero_le _, rfl, rfl, hX, hY, rk, rt, rT, gg⟩
      case round =>
        clear hX hY rk rt rT gg x0 x1 x2 y0 y1 y2 z0 z1 z2
        obtain ⟨j, hj, rfl, rfl, hX, hY, rk, rt, rT, gg⟩ := hrel
        obtain ⟨x0, x1, x2⟩ := hX.three
        obtain ⟨y0, y1, y2⟩ := hY.three
        by_cases hlt : j < ts.length
        · have hsucc := hide (allOcc_succ j (.mk k n ks))
          obtain ⟨ob, hob⟩ : ∃ ob, decide (0 < cnV (j : Nat) 0 (.mk k n ks)) = ob := ⟨_, rfl⟩
          have hob' := hide hob
          clear hob
          cases ha : allOcc j (.mk k n ks) with
          | false =>
            have ha' := hide ha
            clear ha
            go_wp2_with fail
            go_roundw
            case rel => exact ⟨j + 1, by omega, by go_num, by rw [hsucc.out, ha'.out]; rfl, hX, hY, rk, rt, rT, gg⟩
            case measure => simp [intOf]; omega
          | true =>
            have ha' := hide ha
            clear ha
            go_wp2_with (go_at_call 30; refine (iFreeAt_any k n ks A1 c1 j _ hV.out (by omega) rk).mono ?_; rw [hob'.out]; rintro e w6 ⟨rfl, hb6⟩)
            go_roundw
            case rel => exact ⟨j + 1, by omega, by go_num, by rw [hsucc.out, ha'.out, hob'.out]; rfl, hX.keep hb6, hY.keep hb6, rk.below hb6, rt.below hb6, rT.below hb6, gg.trans (hb6.mono gg.size)⟩
            case measure => simp [intOf]; omega
        · have hje : j = ts.length := by omega
          subst hje
          have hzw : (Lit.int .i64 (ts.length : Int)).wf = true := WalkArith.wf_i64 (by omega)
          cases ha : allOcc ts.length (.mk k n ks) with
          | false =>
            have hL := hide (show (matchTS (.mk k n ks) ts.length (.mk kt nt kst)).getD [] = [] by rw [hM.out, ha]; rfl)
            have hO := hide (show (matchTS (.mk k n ks) ts.length (.mk kt nt kst)).isSome = false by rw [hM.out, ha]; rfl)
            clear ha
            go_wp2_with (go_at_call 29; refine (iMatchTerm_any k n ks A1 c1 ts.length hzw kt nt kst A3 c3 _ (by omega) (by omega) rk rT).mono ?_; rintro e w7 hgo; obtain ⟨A7, c7, rfl, hf7, hb7⟩ := gotLO_pair hgo hL.out hO.out; clear hgo)
            go_ret
            exact ⟨rfl, gg.trans (hb7.mono gg.size)⟩
          | true =>
            have hL := hide (show (matchTS (.mk k n ks) ts.length (.mk kt nt kst)).getD [] = ts by rw [hM.out, ha]; rfl)
            have hO := hide (show (matchTS (.mk k n ks) ts.length (.mk kt nt kst)).isSome = true by rw [hM.out, ha]; rfl)
            clear ha
            go_wp2_with (first
              | (go_at_call 31; refine (dk_same ts A7 c7 B1 d1 _ (by omega) hf7.rd (rt.below hb7)).mono ?_; rintro e w8 ⟨rfl, hb8⟩)
              | (go_at_call 29; refine (iMatchTerm_any k n ks A1 c1 ts.length hzw kt nt kst A3 c3 _ (by omega) (by omega) rk rT).mono ?_; rintro e w7 hgo; obtain ⟨A7, c7, rfl, hf7, hb7⟩ := gotLO_pair hgo hL.out hO.out; clear hgo))
            go_ret
            exact ⟨rfl, (gg.trans (hb7.mono gg.size)).trans (hb8.mono (by have := gg.size; have := hb7.size; omega))⟩
end Go.Proofs.Ytodkenpmhhbppaa

namespace Go.Proofs.Ytodkenpmhhbppaa.lFillTerm
open Go.ChangeShapes Go.WideShapes Go.ChangeAt Go.RowKit
set_option linter.unusedVariables false
set_option linter.unusedSimpArgs false

theorem own : ownKnob Try.prog.godebug = none := by kernel_rfl
theorem laidOut : laidOutB Try.prog = true := by kernel_rfl

set_option maxRecDepth 100000 in
theorem lifted (os : Os) (started : os.Started) (H : Type) (enc : TypeId × Value → H) :
    ReturnsInHanded {} Try.checked os 6 .any (Rows.fnFillTermSpec.pre6 enc Try.prog Try.f6 Rows.fnFillTermRow.domain false) (Rows.fnFillTermSpec.post enc Try.prog Try.f6 false true false false) := by
  refine returnsInHanded_of_change (C := Try.checked) own started (by kernel_rfl) Try.func6
    (ChangeSpec.witness6 (enc := enc) (C := Try.checked) false ⟨#[], #[.slice none 0 0], []⟩ 8 (by kernel_rfl) (by kernel_rfl) (by kernel_rfl) (by kernel_rfl)) ?_
  intro W base args ds gs before hval0 hW hcnd _
  have hval : ∀ (j : Nat) t v, Try.f6.params[j]? = some t → args[j]? = some v → Value.okWide Try.prog W .any base t v := hval0
  have hW' := hW
  obtain ⟨p, q, hA0, hV, rfl, hfz, hnd⟩ := hW
  have hA : DataW.TrodAll enc Try.prog W 0 (fun _ => true) true Try.f6.params.toList args.toList ds p := hA0
  rw [Try.params6] at hA hval
  obtain ⟨v0, vs0, d0, ds0, p0, q0, hargs0, rfl, rfl, h0, r0⟩ := trodAll_cons hA
  obtain ⟨rfl, rfl, rfl⟩ := trodAll_nil r0
  obtain rfl : args = #[v0] := by cases args; simp_all
  obtain ⟨rfl, rfl⟩ := trodVars_none hV
  obtain ⟨xs0, P0, cp0, rfl, hl0, hc0, hr0⟩ := open_code (hval 0 22 v0 rfl rfl) h0
  clear hA0 hval0
  simp only [List.append_nil] at hW' hfz
  have hlt : ∀ x ∈ p0, x.block < W.heap.size := fun x hx => hW'.lt x hx
  refine (lawFillTerm_any xs0 P0 cp0 W hl0 hc0 hr0).mono fun e W' ⟨he, hb⟩ => ?_
  subst he
  exact ⟨_, rfl, post_below (pa := p0) (pv := []) hW' (fun _ _ _ => (trodAll_cons_mk (shut_bool Try.underlying4 _) trodAll_mk0)) (fun sp hsp => by
      have := (trodAll_cons_mk (WideElems.Trod_stays (sp' := sp) laidOut (by kernel_rfl) (of_decide_eq_true (by kernel_rfl)) h0 (fun x hx => hb.same (hlt x (by simp [hx]))) (fun x hx => hsp x (by simp [hx]))) trodAll_mk0)
      show DataW.TrodAll enc Try.prog W' 0 sp true Try.f6.params.toList [_] [d0] (p0)
      rw [Try.params6]
      simpa using this) (fun _ _ => rfl) (by simp)
    hb (ok_one (by kernel_rfl) rfl (okWide_bool_mk Try.underlying4 _))⟩

theorem holds : Rows.FnFillTermSaid :=
  OpenClaim.holds_of_wide 6 Try.f6 rfl rfl rfl rfl rfl rfl rfl ⟨rfl, rfl, rfl, rfl, rfl⟩ rfl rfl rfl rfl rfl (by kernel_rfl) Try.func6 (by kernel_rfl)
    (of_decide_eq_true (by kernel_rfl)) (by unfold Func.isWrapper; first | (rw [if_pos (by decide +kernel)]; kernel_rfl) | (rw [if_neg (by decide +kernel)]; exact ⟨rfl, rfl⟩))
    (fun os started H enc _ => lifted os started H enc)
end Go.Proofs.Ytodkenpmhhbppaa.lFillTerm
