/-
  Contracts of the functions that the law reaches, and plain lemmas. No condition.
-/
import Derived.Test.YtodkenpmhhbppaaK4
import Derived.Test.YtodkenpmhhbppaaK12
import Derived.Test.YtodkenpmhhbppaaK14
import Derived.Deep.Upon
import Derived.WalkSpells
import Derived.WalkLawsBesides
namespace Go.Proofs.Ytodkenpmhhbppaa
set_option linter.unusedSimpArgs false
set_option linter.unusedVariables false
open Go.RowKit
/-- what is known so far agrees with a list -/
def Agree (L : List Tm) (st : St) : Prop := st.1.length = L.length ∧ st.2.length = L.length ∧ ∀ i, st.2.getD i false = true → st.1.getD i zeroT = L.getD i zeroT
theorem getD_set_eq {α : Type} {l : List α} {i : Nat} (x d : α) (h : i < l.length) : (l.set i x).getD i d = x := by
  simp [List.getD_eq_getElem?_getD, h]
theorem getD_set_ne {α : Type} {l : List α} {i j : Nat} (x d : α) (h : i ≠ j) : (l.set i x).getD j d = l.getD j d := by
  simp [List.getD_eq_getElem?_getD, List.getElem?_set_ne h]
/-- a match, with a list that holds what was found, gives the term back -/
theorem mt_fill {L : List Tm} (hL6 : L.length ≤ 1000) (p : Tm) : ∀ (q : Nat) (d : Int) (u : Tm) (st st' : St), 0 ≤ d → shape q p = true → validT u = true → mt L.length 0 d p u st = (true, st') → Agree L st' → st.1.length = L.length → st.2.length = L.length → flS L d p = u ∧ Agree L st := by
  refine (Tm.ind2 (p := fun p => ∀ (q : Nat) (d : Int) (u : Tm) (st st' : St), 0 ≤ d → shape q p = true → validT u = true → mt L.length 0 d p u st = (true, st') → Agree L st' → st.1.length = L.length → st.2.length = L.length → flS L d p = u ∧ Agree L st)
    (q := fun ts => ∀ (q : Nat) (k d : Int) (i : Nat) (us : List Tm) (st st' : St), 0 ≤ d → (∀ t, t ∈ ts → shape q t = true) → (∀ u, u ∈ us → validT u = true) → us.length = ts.length → mtL L.length 0 k d i ts us st = (true, st') → Agree L st' → st.1.length = L.length → st.2.length = L.length → flSL L k d i ts = us ∧ Agree L st) ?_ ?_ ?_).1 p
  · intro k n ks ih q d u st st' hd hs hv hm ha hl1 hl2
    obtain ⟨q, rfl, har, _, _, hk⟩ := shape_pos hs
    rw [mt] at hm
    by_cases h : k = 1 ∧ d ≤ n
    · obtain ⟨rfl, hdn⟩ := h
      rw [if_pos ⟨rfl, hdn⟩] at hm
      rw [flS, if_pos ⟨rfl, hdn⟩]
      by_cases hlt : n < d + L.length
      · rw [if_pos hlt] at hm
        rw [if_pos hlt]
        rw [shiftI_down hd hv] at hm
        by_cases hkp : kpS d 0 u = true
        · rw [if_pos hkp] at hm
          simp only at hm
          have hi : (n - d).toNat < L.length := by omega
          have hback := shS_up_down hd u 0 hkp
          split at hm
          · rename_i hf
            injection hm with h1 h2
            subst h2
            have h3 := tmEq_iff.1 h1
            have h4 := ha.2.2 _ hf
            refine ⟨?_, ha⟩
            have : L.getD (n - d).toNat default = L.getD (n - d).toNat zeroT := rfl
            rw [this, ← h4, h3, hback]
          · rename_i hf
            injection hm with h1 h2
            subst h2
            have h4 := ha.2.2 (n - d).toNat (getD_set_eq _ _ (by omega))
            rw [getD_set_eq _ _ (by omega)] at h4
            refine ⟨?_, hl1, hl2, fun j hj => ?_⟩
            · have : L.getD (n - d).toNat default = L.getD (n - d).toNat zeroT := rfl
              rw [this, ← h4, hback]
            · have hne : (n - d).toNat ≠ j := by rintro rfl; exact hf hj
              have := ha.2.2 j (by rw [getD_set_ne _ _ hne]; exact hj)
              rw [getD_set_ne _ _ hne] at this
              exact this
        · rw [if_neg hkp] at hm
          simp at hm
      · rw [if_neg hlt] at hm
        rw [if_neg hlt]
        injection hm with h1 h2
        subst h2
        obtain ⟨ku, nu, us⟩ := u
        simp only [Tm.k, Tm.n, Bool.and_eq_true, beq_iff_eq] at h1
        obtain ⟨rfl, rfl⟩ := h1
        have := valid_var hv
        subst this
        exact ⟨by simp, ha⟩
    · rw [if_neg h] at hm
      rw [flS, if_neg h]
      obtain ⟨ku, nu, us⟩ := u
      split at hm
      · rename_i hh
        obtain ⟨h1, h2, h3⟩ := hh
        have h1 : ku = k := h1
        have h2 : nu = n := h2
        subst h1 h2
        have hx := ih _ _ _ _ _ _ _ hd hk (fun u hu => validT_kid hv hu) h3 hm ha hl1 hl2
        rw [hx.1]
        exact ⟨rfl, hx.2⟩
      · simp at hm
  · intro q k d i us st st' _ _ _ hl hm ha _ _
    have : us = [] := List.eq_nil_of_length_eq_zero hl
    subst this
    rw [mtL] at hm
    · injection hm with _ h2; subst h2; exact ⟨by simp [flSL], ha⟩
    · intro _ _ _ _ h; cases h
  · intro t ts h1 h2 q k d i us st st' hd hs hv hl hm ha hl1 hl2
    cases us with
    | nil => simp at hl
    | cons u us =>
      rw [mtL] at hm
      have hun := under_le k (i : Nat)
      cases hb : mt L.length 0 (d + under k i) t u st with
      | mk b st2 =>
        rw [hb] at hm
        cases b with
        | false => simp at hm
        | true =>
          simp only [if_true] at hm
          have hlen := mt_length L.length 0 t (d + under k i) u st
          rw [hb] at hlen
          obtain ⟨e2, a2⟩ := h2 q k d (i + 1) us st2 st' hd (fun t ht => hs t (by simp [ht])) (fun u hu => hv u (by simp [hu])) (by simpa using hl) hm ha (by rw [← hl1]; exact hlen.1) (by rw [← hl2]; exact hlen.2)
          obtain ⟨e1, a1⟩ := h1 q (d + under k i) u st st2 (by omega) (hs t (by simp)) (hv u (by simp)) hb a2 hl1 hl2
          exact ⟨by rw [flSL, e1, e2], a1⟩
/-- what is found is valid -/
theorem mt_found {m : Nat} (p : Tm) : ∀ (d : Int) (u : Tm) (st : St), (∀ i, st.2.getD i false = true → validT (st.1.getD i zeroT) = true) → st.1.length = m → st.2.length = m → ∀ i, (mt m 0 d p u st).2.2.getD i false = true → validT ((mt m 0 d p u st).2.1.getD i zeroT) = true := by
  refine (Tm.ind2 (p := fun p => ∀ (d : Int) (u : Tm) (st : St), (∀ i, st.2.getD i false = true → validT (st.1.getD i zeroT) = true) → st.1.length = m → st.2.length = m → ∀ i, (mt m 0 d p u st).2.2.getD i false = true → validT ((mt m 0 d p u st).2.1.getD i zeroT) = true)
    (q := fun ts => ∀ (k d : Int) (i : Nat) (us : List Tm) (st : St), (∀ i, st.2.getD i false = true → validT (st.1.getD i zeroT) = true) → st.1.length = m → st.2.length = m → ∀ j, (mtL m 0 k d i ts us st).2.2.getD j false = true → validT ((mtL m 0 k d i ts us st).2.1.getD j zeroT) = true) ?_ ?_ ?_).1 p
  · intro k n ks ih d u st hf h1 h2 i hi
    rw [mt] at hi ⊢
    split at hi
    · rename_i h
      rw [if_pos h]
      split at hi
      · rename_i hlt
        rw [if_pos hlt]
        cases hsh : shiftI (-d) 0 u with
        | none => rw [hsh] at hi; exact hf i hi
        | some low =>
          rw [hsh] at hi
          simp only at hi ⊢
          have hlow : validT low = true := by
            unfold shiftI at hsh
            split at hsh
            · split at hsh
              · rename_i hv; injection hsh with hsh; subst hsh; exact hv
              · cases hsh
            · cases hsh
          split at hi
          · rename_i hfl; rw [if_pos hfl]; exact hf i hi
          · rename_i hfl
            rw [if_neg hfl]
            simp only at hi ⊢
            by_cases hij : (n - d).toNat = i
            · subst hij
              rw [getD_set_eq _ _ (by omega)]; exact hlow
            · rw [getD_set_ne _ _ hij] at hi ⊢
              exact hf i hi
      · rename_i hlt; rw [if_neg hlt]; exact hf i hi
    · rename_i h
      rw [if_neg h]
      split at hi
      · rename_i hh; rw [if_pos hh]; exact ih _ _ _ _ _ hf h1 h2 i hi
      · rename_i hh; rw [if_neg hh]; exact hf i hi
  · intro k d i us st hf _ _ j hj
    rw [mtL] at hj ⊢
    · exact hf j hj
    all_goals (intro _ _ _ _ h; cases h)
  · intro t ts a1 a2 k d i us st hf h1 h2 j hj
    cases us with
    | nil =>
      rw [mtL] at hj ⊢
      · exact hf j hj
      all_goals (intro _ _ _ _ _ h; cases h)
    | cons u us =>
      rw [mtL] at hj ⊢
      have hx := a1 (d + under k i) u st hf h1 h2
      have hlen := mt_length m 0 t (d + under k i) u st
      split at hj
      · rename_i hb; rw [if_pos hb]; exact a2 _ _ _ _ _ hx (hlen.1.trans h1) (hlen.2.trans h2) j hj
      · rename_i hb; rw [if_neg hb]; exact hx j hj
theorem tryS_some {m : Nat} {p u : Tm} {L : List Tm} (h : tryS m 0 p u = some L) : ∃ st, mt m 0 0 p u (List.replicate m zeroT, List.replicate m false) = (true, st) ∧ st.1 = L ∧ st.2.all id = true ∧ L.length = m ∧ st.2.length = m := by
  unfold tryS at h
  split at h
  · rename_i hh
    injection h with h
    have hlen := mt_length m 0 p 0 u (List.replicate m zeroT, List.replicate m false)
    refine ⟨(mt0 m 0 p u).2, Prod.ext hh.1 rfl, h, hh.2, ?_, ?_⟩
    · rw [← h]; simpa [mt0] using hlen.1
    · simpa [mt0] using hlen.2
  · cases h
/-- what matches, filled, is the term -/
theorem match_fill {p : Tm} {z : Int} {u : Tm} {L : List Tm} (h : matchTS p z u = some L) : fillTS p L = some u ∧ (L.length : Int) = z := by
  unfold matchTS at h
  split at h
  · rename_i hh
    obtain ⟨hp, hu, hz0, hz6⟩ := hh
    obtain ⟨st, hm, h1, hall, hl1, hl2⟩ := tryS_some h
    subst h1
    rw [← hl1] at hm hl2
    have hall' := (all_getD st.2).1 hall
    have hfill := mt_fill (L := st.1) (by omega) p 30 0 u _ st (by omega) (validT_shape hp) hu hm ⟨rfl, hl2, fun i _ => rfl⟩ (by simp) (by simp)
    have hfound := mt_found (m := st.1.length) p 0 u (List.replicate st.1.length zeroT, List.replicate st.1.length false) (fun i hi => by simp [List.getD_eq_getElem?_getD, List.getElem?_replicate] at hi; split at hi <;> simp at hi) (by simp) (by simp)
    rw [hm] at hfound
    refine ⟨?_, by omega⟩
    have hany : (st.1.any fun a => !validT a) = false := by
      refine Bool.eq_false_iff.2 fun hc => ?_
      obtain ⟨a, ha, hva⟩ := List.any_eq_true.1 hc
      obtain ⟨i, hi, rfl⟩ := List.getElem_of_mem ha
      have := hfound i (hall' i (by omega))
      simp only [List.getD_eq_getElem?_getD, List.getElem?_eq_getElem hi, Option.getD_some] at this
      rw [this] at hva
      cases hva
    unfold fillTS
    rw [if_pos ⟨hp, by omega, hany, by rw [hfill.1]; exact hu⟩, hfill.1]
  · cases h
open Go.RowKit
/-- the cells of a row of terms that can be read in some blocks -/
def RdX (p : Nat → Prop) (w : World) : List Tm → List Value → Prop
  | [], xs => xs = []
  | .mk k n ks :: ts, xs => ∃ A c ys, xs = .int .i64 k :: .int .i64 n :: .slice A ks.length c :: ys ∧ ks.length ≤ 9223372036854775807 ∧ RdP p w A 0 ks ∧ RdX p w ts ys
theorem RdX.keep {p q : Nat → Prop} {w w' : World} (hq : ∀ b, p b → q b) (hk : ∀ b, p b → b < w.heap.size → w'.heap[b]? = w.heap[b]?) : ∀ {ts : List Tm} {xs : List Value}, RdX p w ts xs → RdX q w' ts xs
  | [], xs, h => h
  | .mk k n ks :: ts, xs, h => by
    obtain ⟨A, c, ys, e, hl, hr, hx⟩ := h
    exact ⟨A, c, ys, e, hl, (hr.blocks hk).mono hq, hx.keep hq hk⟩
theorem RdX.append {p : Nat → Prop} {w : World} {us : List Tm} {y : List Value} (hu : RdX p w us y) : ∀ {ts : List Tm} {xs : List Value}, RdX p w ts xs → RdX p w (ts ++ us) (xs ++ y)
  | [], xs, h => by have h : xs = [] := h; subst h; exact hu
  | .mk k n ks :: ts, xs, h => by
    obtain ⟨A, c, ys, rfl, hl, hr, hx⟩ := h
    exact ⟨A, c, ys ++ y, rfl, hl, hr, RdX.append hu hx⟩
theorem RdX.length {p : Nat → Prop} {w : World} : ∀ {ts : List Tm} {xs : List Value}, RdX p w ts xs → xs.length = ts.length * 3
  | [], xs, h => by have h : xs = [] := h; subst h; rfl
  | .mk k n ks :: ts, xs, h => by
    obtain ⟨A, c, ys, rfl, hl, hr, hx⟩ := h
    have := hx.length
    simp only [List.length_cons]
    omega
theorem RdX.rd {p : Nat → Prop} {w : World} {g off : Nat} : ∀ {ts : List Tm} {xs : List Value} {i : Nat}, RdX p w ts xs → (∀ j u, xs[j]? = some u → w.cell? ⟨g, off + i * 3 + j, none⟩ = some u) → Rd w (some ⟨g, off, none⟩) i ts
  | [], xs, i, _, _ => Rd.nil
  | .mk k n ks :: ts, xs, i, h, hc => by
    obtain ⟨A, c, ys, rfl, hl, hr, hx⟩ := h
    refine Rd.cons_iff.2 ⟨⟨g, off, rfl, RdC.iff.2 ⟨hc 0 _ rfl, hc 1 _ rfl, A, c, hc 2 _ rfl, hl, hr.rd⟩⟩, hx.rd fun j u hu => ?_⟩
    have := hc (j + 3) u (by simpa using hu)
    rw [← this]
    congr 2
    omega
theorem RdX.rdp {p : Nat → Prop} {w : World} {g off : Nat} (hg : p g) : ∀ {ts : List Tm} {xs : List Value} {i : Nat}, RdX p w ts xs → (∀ j u, xs[j]? = some u → w.cell? ⟨g, off + i * 3 + j, none⟩ = some u) → RdP p w (some ⟨g, off, none⟩) i ts
  | [], xs, i, _, _ => RdP.nil
  | .mk k n ks :: ts, xs, i, h, hc => by
    obtain ⟨A, c, ys, rfl, hl, hr, hx⟩ := h
    refine RdP.cons_iff.2 ⟨⟨g, off, rfl, RdPC.iff.2 ⟨hg, hc 0 _ rfl, hc 1 _ rfl, A, c, hc 2 _ rfl, hl, hr⟩⟩, hx.rdp hg fun j u hu => ?_⟩
    have := hc (j + 3) u (by simpa using hu)
    rw [← this]
    congr 2
    omega
/-- where the terms of a slice that grows may lie: where p says, or from B on, not in the row itself -/
def PB (lo : Nat → Prop) (B : Nat) (w : World) (v : Value) (b : Nat) : Prop := (lo b ∨ B ≤ b) ∧ b < w.heap.size ∧ v.ownBlock ≠ some b
/-- a slice of terms that grows: its own row lies from B on -/
def PartR (lo : Nat → Prop) (B : Nat) (w : World) (v : Value) (ts : List Tm) : Prop :=
  ∃ xs, w.ownsRow B 25 3 v ts.length xs ∧ RdX (PB lo B w v) w ts xs
section
variable {lo : Nat → Prop} {B : Nat} {w w' : World} {v : Value} {ts : List Tm}
theorem PartR.nil : PartR lo B w (.slice none 0 0) [] := ⟨[], World.ownsRow_nil _ _ _ _, rfl⟩
theorem PartR.below (h : PartR lo B w v ts) (hk : Below w.heap.size w w') : PartR lo B w' v ts := by
  obtain ⟨xs, h1, h2⟩ := h
  refine ⟨xs, ⟨h1.1, ?_⟩, h2.keep (fun b hb => ⟨hb.1, Nat.lt_of_lt_of_le hb.2.1 hk.size, hb.2.2⟩) fun b hb hl => hk.block b hl⟩
  rcases h1.2 with hn | ⟨g, cap, cur, rfl, hb, hg, r⟩
  · exact .inl hn
  · exact .inr ⟨g, cap, cur, rfl, hb, (hk.block g (Array.getElem?_eq_some_iff.1 hg).1).trans hg, r⟩
theorem PartR.alloc (h : PartR lo B w v ts) (o : Obj) : PartR lo B (w.alloc o) v ts := h.below ((Below.refl _ _).alloc (Nat.le_refl _) _)
theorem PartR.drew (h : PartR lo B w v ts) : PartR lo B w.drew v ts := h.below (Below.refl _ _).drew
theorem PartR.setCell (h : PartR lo B w v ts) {a : Addr} (ha : ¬ lo a.block ∧ a.block < B) (u : Value) : PartR lo B (w.setCell a u) v ts := by
  obtain ⟨xs, h1, h2⟩ := h
  refine ⟨xs, ⟨h1.1, ?_⟩, h2.keep (fun b hb => ⟨hb.1, by simpa using hb.2.1, hb.2.2⟩) fun b hb hl => Below.heap_setCell w a u b (fun e => by subst e; exact hb.1.elim ha.1 (fun h => by omega))⟩
  rcases h1.2 with hn | ⟨g, cap, cur, rfl, hb, hg, r⟩
  · exact .inl hn
  · exact .inr ⟨g, cap, cur, rfl, hb, (Below.heap_setCell w a u g (by omega)).trans hg, r⟩
/-- at the end: the slice's shape, and that its terms can be read -/
theorem PartR.rd (h : PartR lo B w v ts) : ∃ A c, v = .slice A ts.length c ∧ RdP (fun b => lo b ∨ B ≤ b) w A 0 ts := by
  obtain ⟨xs, h1, h2⟩ := h
  rcases h1.2 with ⟨rfl, h0⟩ | ⟨g, cap, cur, rfl, hb, hg, _, _, _, htk⟩
  · have : ts = [] := List.eq_nil_of_length_eq_zero h0
    subst this
    exact ⟨none, 0, rfl, RdP.nil⟩
  · refine ⟨_, _, rfl, RdX.rdp (.inr hb) (h2.keep (fun b hb => hb.1) fun _ _ _ => rfl) fun j u hu => ?_⟩
    rw [show 0 + 0 * 3 + j = j by omega, cell_of_row w g j cur 25 (0, 0) hg]
    have h3 := htk
    rw [← h3, List.getElem?_take] at hu
    split at hu
    · simpa using hu
    · cases hu
theorem PartR.shape (h : PartR lo B w v ts) : ∃ A c, v = .slice A ts.length c := by
  obtain ⟨A, c, hv, _⟩ := h.rd; exact ⟨A, c, hv⟩
end
section
variable {lo : Nat → Prop} {B : Nat} {w : World} {v : Value} {ts : List Tm} {k n : Int} {ks : List Tm} {A : Option Addr} {c : Nat} {q : Nat → Prop}
/-- append of one term that can be read -/
theorem run_append_rd (hp : PartR lo B w v ts) (hB : B ≤ w.heap.size) (hr : RdP q w A 0 ks) (hq : ∀ b, q b → PB lo B w v b) (hl : ks.length ≤ 9223372036854775807) (hlen : ts.length ≤ 1099511627776) (ty : TypeId) :
    ∃ v' w', (Builtin.append_ #[23, 23] ty #[v, .slice (some ⟨w.heap.size, 0, none⟩) 1 1]).run Try.prog (w.alloc (.cells #[.int .i64 k, .int .i64 n, .slice A ks.length c] 25)) = .ok v' w' ∧
      PartR lo B w' v' (ts ++ [.mk k n ks]) ∧ Below B w w' ∧ w.grownBy w' v.ownBlock := by
  obtain ⟨i, hi, hz, hz1, hz2⟩ := info_parts tm_info
  obtain ⟨xs, k1, h2⟩ := hp.alloc (.cells #[.int .i64 k, .int .i64 n, .slice A ks.length c] 25)
  have hge : ∀ g, v.ownBlock = some g → B ≤ g := fun g hg => (k1.lt g hg).1
  obtain ⟨v', w', hrun, hown, hg, _, hat⟩ := run_append_own_at (P := Try.prog) (w.alloc (.cells #[.int .i64 k, .int .i64 n, .slice A ks.length c] 25)) B 23 ty 25 i _ 3 40 Try.underlying23 hi hz hz1 hz2 rfl (by simp) v ts.length xs k1 ⟨w.heap.size, 0, none⟩ 1 1 [.int .i64 k, .int .i64 n, .slice A ks.length c] rfl (by
    intro j u hj
    match j, hj with
    | 0, hj => simp only [List.getElem?_cons_zero, Option.some.injEq] at hj; subst hj; simp [Addr.add]
    | 1, hj => simp only [List.getElem?_cons_succ, List.getElem?_cons_zero, Option.some.injEq] at hj; subst hj; simp [Addr.add]
    | 2, hj => simp only [List.getElem?_cons_succ, List.getElem?_cons_zero, Option.some.injEq] at hj; subst hj; simp [Addr.add]) (by
    intro u hu
    simp only [List.mem_cons, List.not_mem_nil, or_false] at hu
    rcases hu with rfl | rfl | rfl <;> rfl) (by simp only [maxLen]; omega) (by omega) (by simp; omega)
  have hsz : w.heap.size + 1 ≤ w'.heap.size := by have := hg.size; simpa using this
  have hne : ∀ b, b < (w.alloc (.cells #[.int .i64 k, .int .i64 n, .slice A ks.length c] 25)).heap.size → v.ownBlock ≠ some b → v'.ownBlock ≠ some b := by
    intro b hb hv e
    rcases hat with e' | e'
    · exact hv (e'.symm.trans e)
    · rw [e'] at e; injection e with e; omega
  have hst : ∀ b, PB lo B (w.alloc (.cells #[.int .i64 k, .int .i64 n, .slice A ks.length c] 25)) v b → PB lo B w' v' b := fun b hb => ⟨hb.1, by have := hb.2.1; have := hg.size; omega, hne b hb.2.1 hb.2.2⟩
  have hkp : ∀ b, PB lo B (w.alloc (.cells #[.int .i64 k, .int .i64 n, .slice A ks.length c] 25)) v b → b < (w.alloc (.cells #[.int .i64 k, .int .i64 n, .slice A ks.length c] 25)).heap.size → w'.heap[b]? = (w.alloc (.cells #[.int .i64 k, .int .i64 n, .slice A ks.length c] 25)).heap[b]? := fun b hb hl => hg.block b hl (fun e => hb.2.2 e.symm)
  have hr' : RdP (PB lo B w' v') w' A 0 ks := (((hr.alloc (.cells #[.int .i64 k, .int .i64 n, .slice A ks.length c] 25)).mono (q := PB lo B (w.alloc (.cells #[.int .i64 k, .int .i64 n, .slice A ks.length c] 25)) v) (fun b hb => ⟨(hq b hb).1, by have := (hq b hb).2.1; simp; omega, (hq b hb).2.2⟩)).blocks hkp).mono hst
  refine ⟨v', w', hrun, ⟨xs ++ [.int .i64 k, .int .i64 n, .slice A ks.length c], by simpa using hown, RdX.append (show RdX (PB lo B w' v') w' [.mk k n ks] _ from ⟨A, c, [], rfl, hl, hr', rfl⟩) (h2.keep hst hkp)⟩, ?_, grownBy_trans (grownBy_alloc_ (World.grownBy.refl _ _) _) hg⟩
  exact ((Below.refl _ _).alloc hB _).trans ⟨hg.os, hg.tape, hg.output, hg.size, fun k hk => hg.block k (by simp; omega) (fun e => by have := hge k e.symm; omega)⟩
/-- in a plain region -/
theorem wpList_append_rd (hp : PartR lo B w v ts) (hB : B ≤ w.heap.size) (hr : RdP q w A 0 ks) (hq : ∀ b, q b → PB lo B w v b) (hl : ks.length ≤ 9223372036854775807) {m : Nat} (hm : ts.length = m) (hlen : m ≤ 1099511627776)
    {ops : Array Oper} {rest : List Oper} {o : Oper} {a : Act} {Q : Exit → Act → World → Prop} (hgd : o.guard = none) (s x : Operand)
    (ho : o.op = .call { callee := .builtin .append, args := #[s, x], argTypes := #[23, 23] }) (hse : a.eval s = v) (hx : a.eval x = .slice (some ⟨w.heap.size, 0, none⟩) 1 1)
    (h : ∀ A' c' w', PartR lo B w' (.slice A' (m + 1) c') (ts ++ [.mk k n ks]) → Below B w w' → w.grownBy w' v.ownBlock → wpList Try.prog ops Q rest (a.put o.dst (.slice A' (m + 1) c')) w') :
    wpList Try.prog ops Q (o :: rest) a (w.alloc (.cells #[.int .i64 k, .int .i64 n, .slice A ks.length c] 25)) := by
  subst hm
  refine wpList_plain hgd fun K hK => ?_
  obtain ⟨v', w', hrun, h2, h3, h4⟩ := run_append_rd (k := k) (n := n) (c := c) hp hB hr hq hl hlen o.type
  unfold Oper.wp execOp
  simp only [ho, resolve, invoke, builtin, Sem.run_bind, Sem.run_pure, Result.andThen_ok, List.map_toArray, List.map_cons, List.map_nil, hse, hx, hrun]
  obtain ⟨A', c', rfl⟩ := h2.shape
  rw [List.length_append] at h2 ⊢
  exact hK _ _ (h A' c' w' h2 h3 h4)
end
open Go.RowKit
/-- the cells of terms that can be read -/
theorem rdx_row {p : Nat → Prop} {w : World} {b off : Nat} : ∀ {ts : List Tm} {i : Nat}, RdP p w (some ⟨b, off, none⟩) i ts → ∃ xs, RdX p w ts xs ∧ ∀ j u, xs[j]? = some u → w.cell? ⟨b, off + i * 3 + j, none⟩ = some u
  | [], i, _ => ⟨[], rfl, fun j u h => by simp at h⟩
  | .mk k n ks :: ts, i, h => by
    obtain ⟨⟨b', off', hA, hc⟩, hr⟩ := RdP.cons_iff.1 h
    injection hA with hA
    injection hA with h1 h2
    subst h1 h2
    obtain ⟨hp, c0, c1, A, c, c2, hl, hk⟩ := RdPC.iff.1 hc
    obtain ⟨xs, hx, hcx⟩ := rdx_row hr
    refine ⟨.int .i64 k :: .int .i64 n :: .slice A ks.length c :: xs, ⟨A, c, xs, rfl, hl, hk, hx⟩, fun j u hj => ?_⟩
    match j, hj with
    | 0, hj => simp only [List.getElem?_cons_zero, Option.some.injEq] at hj; subst hj; exact c0
    | 1, hj => simp only [List.getElem?_cons_succ, List.getElem?_cons_zero, Option.some.injEq] at hj; subst hj; exact c1
    | 2, hj => simp only [List.getElem?_cons_succ, List.getElem?_cons_zero, Option.some.injEq] at hj; subst hj; exact c2
    | j + 3, hj =>
      simp only [List.getElem?_cons_succ] at hj
      have := hcx j u hj
      rw [← this]
      congr 2
      omega
theorem RdX.oneC {p : Nat → Prop} {w : World} : ∀ {ts : List Tm} {xs : List Value}, RdX p w ts xs → ∀ u, u ∈ xs → u.oneCell' = true
  | [], xs, h, u, hu => by have h : xs = [] := h; subst h; cases hu
  | .mk k n ks :: ts, xs, h, u, hu => by
    obtain ⟨A, c, ys, rfl, hl, hr, hx⟩ := h
    simp only [List.mem_cons] at hu
    rcases hu with rfl | rfl | rfl | hu
    · rfl
    · rfl
    · rfl
    · exact hx.oneC u hu
section
variable {lo : Nat → Prop} {B : Nat} {w : World} {v : Value} {ts : List Tm} {k n : Int} {ks : List Tm} {A : Option Addr} {c : Nat} {q : Nat → Prop}
end
section
variable {p : Nat → Prop} {w : World} {l : List Tm} {L : Option Addr} {cl g : Nat}
/-- append of a slice of terms to an empty one -/
theorem run_append_listR (hg : w.heap[g]? = some (.cells #[] 25 (0, 0))) (hl : RdP p w L 0 l) (hp : ∀ b, p b → b < w.heap.size ∧ b ≠ g) (hlen : l.length ≤ 1099511627776) (ty : TypeId) :
    ∃ v' w', (Builtin.append_ #[23, 23] ty #[.slice (some ⟨g, 0, none⟩) 0 0, .slice L l.length cl]).run Try.prog w = .ok v' w' ∧ PartR p g w' v' l ∧ w.grownBy w' (some g) := by
  have hgw : g < w.heap.size := (Array.getElem?_eq_some_iff.1 hg).1
  obtain ⟨i, hi, hz, hz1, hz2⟩ := info_parts tm_info
  have k1 : w.ownsRow g 25 3 (.slice (some ⟨g, 0, none⟩) 0 0) 0 [] := ⟨by simp, .inr ⟨g, 0, #[], rfl, Nat.le_refl _, hg, Nat.le_refl _, by simp [maxLen], by simp, by simp⟩⟩
  cases l with
  | nil =>
    refine ⟨.slice (some ⟨g, 0, none⟩) 0 0, w, run_append_nothing w 23 23 ty 25 i Try.underlying23 hi _ 0 0 (Nat.le_refl _) _ ⟨.inl ⟨25, Try.underlying23⟩, fun w' => by simp [Builtin.lenOf], by cases L <;> simp [Builtin.firstCells, loadCells, loadCellsFrom], by cases L <;> simp [Builtin.firstCells, loadCells, loadCellsFrom], by simp, fun u hu => by cases hu⟩, ⟨[], k1, rfl⟩, World.grownBy.refl _ _⟩
  | cons t ts =>
    obtain ⟨⟨b, off, rfl, _⟩, _⟩ := RdP.cons_iff.1 hl
    obtain ⟨x1, hx, hc⟩ := rdx_row hl
    obtain ⟨v', w', hrun, hown, hgr, _, hat⟩ := run_append_own_at (P := Try.prog) w g 23 ty 25 i _ 3 40 Try.underlying23 hi hz hz1 hz2 rfl (by omega) _ 0 [] k1 ⟨b, off, none⟩ (t :: ts).length cl x1 hx.length (fun j u hj => by
        have := hc j u hj
        rw [show Addr.add ⟨b, off, none⟩ j = ⟨b, off + 0 * 3 + j, none⟩ from by simp only [Addr.add]; split <;> simp_all]
        exact this) hx.oneC (by simp only [maxLen]; omega) (by omega) (by omega)
    rw [Nat.zero_add, List.nil_append] at hown
    have hsz := hgr.size
    have hvo : ∀ b, b < w.heap.size → b ≠ g → v'.ownBlock ≠ some b := by
      intro b hb hbg e
      rcases hat with e' | e'
      · rw [e'] at e; injection e with e; exact hbg e.symm
      · rw [e'] at e; injection e with e; omega
    exact ⟨v', w', hrun, ⟨x1, hown, hx.keep (fun b hb => ⟨.inl hb, by have := (hp b hb).1; omega, hvo b (hp b hb).1 (hp b hb).2⟩) fun b hb hl => hgr.block b hl (fun e => (hp b hb).2 (by injection e))⟩, hgr⟩
end
open Go.RowKit
theorem int_info3 : (Try.prog.info? 3).map (fun i => (i.zero, i.size, i.bytes)) = some (some (.int .i64 0), 1, 8) := by kernel_rfl
/-- a slice of integers in a row of its own, which may grow -/
def RowI (B : Nat) (w : World) (v : Value) (xs : List Int) : Prop := w.ownsRow B 3 1 v xs.length (xs.map (Value.int .i64))
theorem RowI.keep {B : Nat} {w w' : World} {v : Value} {xs : List Int} (h : RowI B w v xs) (hk : ∀ b, B ≤ b → b < w.heap.size → w'.heap[b]? = w.heap[b]?) : RowI B w' v xs := by
  refine ⟨h.1, ?_⟩
  rcases h.2 with hn | ⟨g, cap, cur, rfl, hb, hg, r⟩
  · exact .inl hn
  · exact .inr ⟨g, cap, cur, rfl, hb, (hk g hb (Array.getElem?_eq_some_iff.1 hg).1).trans hg, r⟩
theorem RowI.below {B : Nat} {w w' : World} {v : Value} {xs : List Int} (h : RowI B w v xs) (hb : Below w.heap.size w w') : RowI B w' v xs := h.keep fun b _ hl => hb.block b hl
theorem RowI.form {B : Nat} {w : World} {v : Value} {xs : List Int} (h : RowI B w v xs) : ∃ A c, v = .slice A xs.length c ∧ RdI w A xs := by
  rcases h.2 with ⟨rfl, h0⟩ | ⟨g, cap, cur, rfl, hb, hg, hn, hm, hs, htk⟩
  · have : xs = [] := List.eq_nil_of_length_eq_zero h0
    subst this
    exact ⟨none, 0, rfl, fun j hj => absurd hj (Nat.not_lt_zero _)⟩
  · refine ⟨some ⟨g, 0, none⟩, cap, rfl, fun j hj => ⟨g, 0, rfl, ?_⟩⟩
    rw [Nat.zero_add, cell_of_row w g j cur 3 (0, 0) hg]
    have h1 : (cur.toList.take (xs.length * 1))[j]? = (xs.map (Value.int .i64))[j]? := by rw [htk]
    rw [Nat.mul_one, List.getElem?_take, if_pos hj, List.getElem?_map, List.getElem?_eq_getElem hj] at h1
    simpa using h1
set_option maxHeartbeats 2000000 in
set_option maxRecDepth 100000 in
theorem wpList_append_ints {B : Nat} {w : World} {v : Value} {xs ys : List Int} {ad : Addr} {c : Nat} (hp : RowI B w v xs) (hB : B ≤ w.heap.size) (hm : xs.length + ys.length ≤ 1099511627776)
    (hc : ∀ j (hj : j < ys.length), w.cell? (ad.add j) = some (.int .i64 ys[j]))
    {ops : Array Oper} {rest : List Oper} {o : Oper} {a : Act} {Q : Exit → Act → World → Prop} (hgd : o.guard = none) (s x : Operand)
    (ho : o.op = .call { callee := .builtin .append, args := #[s, x], argTypes := #[73, 73] }) (hs : a.eval s = v) (hx : a.eval x = .slice (some ad) ys.length c)
    (h : ∀ v' w', RowI B w' v' (xs ++ ys) → Below B w w' → w.grownBy w' v.ownBlock → wpList Try.prog ops Q rest (a.put o.dst v') w') :
    wpList Try.prog ops Q (o :: rest) a w := by
  refine wpList_plain hgd fun K hK => ?_
  obtain ⟨i, hi, hz, hz1, hz2⟩ := info_parts int_info3
  have hge : ∀ g, v.ownBlock = some g → B ≤ g := fun g hg => (hp.lt g hg).1
  obtain ⟨v', w', hrun, hown, hg, _, hat⟩ := run_append_own_at (P := Try.prog) w B 73 o.type 3 i _ 1 8 Try.underlying73 hi hz hz1 hz2 rfl (by omega) v xs.length _ hp ad ys.length c (ys.map (Value.int .i64)) (by simp) (by
    intro j u hj
    rw [List.getElem?_map] at hj
    cases hy : ys[j]? with
    | none => rw [hy] at hj; cases hj
    | some y =>
      rw [hy] at hj
      obtain ⟨hjl, rfl⟩ := List.getElem?_eq_some_iff.1 hy
      injection hj with hj
      rw [← hj]; exact hc j hjl) (by
    intro u hu
    obtain ⟨y, _, rfl⟩ := List.mem_map.1 hu
    rfl) (by simp only [maxLen]; omega) (by omega) (by omega)
  unfold Oper.wp execOp
  simp only [ho, resolve, invoke, builtin, Sem.run_bind, Sem.run_pure, Result.andThen_ok, List.map_toArray, List.map_cons, List.map_nil, hs, hx, hrun]
  refine hK _ _ (h v' w' ?_ ?_ hg)
  · unfold RowI; rw [List.length_append, List.map_append]; exact hown
  · exact ⟨hg.os, hg.tape, hg.output, hg.size, fun k hk => hg.block k (by omega) (fun e => by have := hge k e.symm; omega)⟩
theorem RowI.empty (w : World) {B : Nat} (hB : B ≤ w.heap.size) : RowI B (w.alloc (.cells #[] 3)) (.slice (some ⟨w.heap.size, 0, none⟩) 0 0) [] :=
  ⟨rfl, .inr ⟨w.heap.size, 0, #[], rfl, hB, heap_alloc_new w _, Nat.le_refl _, by simp [maxLen], rfl, rfl⟩⟩
/-- a slice of paths that can be read -/
def RdPs (w : World) (A : Option Addr) (ps : List (List Int)) : Prop := ∀ j (hj : j < ps.length), ∃ b off B c, A = some ⟨b, off, none⟩ ∧ w.cell? ⟨b, off + j, none⟩ = some (.slice B ps[j].length c) ∧ RdI w B ps[j] ∧ ps[j].length ≤ c
theorem RdPs.keeps {w w' : World} {A : Option Addr} {ps : List (List Int)} (h : RdPs w A ps) (hk : Keeps w w') : RdPs w' A ps := fun j hj => by
  obtain ⟨b, off, B, c, hA, hc, hi, hcl⟩ := h j hj; exact ⟨b, off, B, c, hA, hk _ _ hc, hi.keeps hk, hcl⟩
theorem RdPs.below {w w' : World} {A : Option Addr} {ps : List (List Int)} (h : RdPs w A ps) (hb : Below w.heap.size w w') : RdPs w' A ps := h.keeps (.of_below hb)
/-- a slice of paths in a row of its own, which may grow; the paths lie in other blocks -/
def RowP (B : Nat) (w : World) (v : Value) (ps : List (List Int)) : Prop :=
  ∃ vs : List Value, w.ownsRow B 73 1 v ps.length vs ∧ ∀ j (hj : j < ps.length), ∃ A c, vs[j]? = some (.slice A ps[j].length c) ∧ RdI w A ps[j] ∧ ps[j].length ≤ c ∧ ∀ a, A = some a → B ≤ a.block ∧ v.ownBlock ≠ some a.block ∧ a.block < w.heap.size
theorem RowP.nil {B : Nat} {w : World} : RowP B w (.slice none 0 0) [] := ⟨[], World.ownsRow_nil _ _ _ _, fun j hj => absurd hj (Nat.not_lt_zero _)⟩
theorem RowP.below {B : Nat} {w w' : World} {v : Value} {ps : List (List Int)} (h : RowP B w v ps) (hb : Below w.heap.size w w') : RowP B w' v ps := by
  obtain ⟨vs, h1, h2⟩ := h
  refine ⟨vs, ⟨h1.1, ?_⟩, fun j hj => ?_⟩
  · rcases h1.2 with hn | ⟨g, cap, cur, rfl, hB, hg, r⟩
    · exact .inl hn
    · exact .inr ⟨g, cap, cur, rfl, hB, (hb.block g (Array.getElem?_eq_some_iff.1 hg).1).trans hg, r⟩
  · obtain ⟨A, c, e, hi, hcl, hne⟩ := h2 j hj
    exact ⟨A, c, e, hi.below hb, hcl, fun a ha => ⟨(hne a ha).1, (hne a ha).2.1, Nat.lt_of_lt_of_le (hne a ha).2.2 hb.size⟩⟩
theorem RowP.form {B : Nat} {w : World} {v : Value} {ps : List (List Int)} (h : RowP B w v ps) : ∃ A c, v = .slice A ps.length c ∧ RdPs w A ps := by
  obtain ⟨vs, h1, h2⟩ := h
  rcases h1.2 with ⟨rfl, h0⟩ | ⟨g, cap, cur, rfl, hb, hg, hn, hm, hs, htk⟩
  · have : ps = [] := List.eq_nil_of_length_eq_zero h0
    subst this
    exact ⟨none, 0, rfl, fun j hj => absurd hj (Nat.not_lt_zero _)⟩
  · refine ⟨some ⟨g, 0, none⟩, cap, rfl, fun j hj => ?_⟩
    obtain ⟨A, c, e, hi, hcl, _⟩ := h2 j hj
    refine ⟨g, 0, A, c, rfl, ?_, hi, hcl⟩
    rw [Nat.zero_add, cell_of_row w g j cur 73 (0, 0) hg]
    rw [← htk, Nat.mul_one, List.getElem?_take, if_pos hj] at e
    simpa using e
theorem RdI.grown {w w' : World} {A : Option Addr} {xs : List Int} {row : Option Nat} (h : RdI w A xs) (hg : w.grownBy w' row) (hne : ∀ a, A = some a → row ≠ some a.block) : RdI w' A xs := fun j hj => by
  obtain ⟨b, off, hA, hc⟩ := h j hj
  refine ⟨b, off, hA, ?_⟩
  have hl := World.block_lt_of_cell? _ _ hc
  have hb := hg.block b hl (fun e => hne _ hA e.symm)
  have : w'.cell? ⟨b, off + j, none⟩ = w.cell? ⟨b, off + j, none⟩ := by simp only [World.cell?, hb]
  rw [this]; exact hc
theorem path_info : (Try.prog.info? 73).map (fun i => (i.zero, i.size, i.bytes)) = some (some (.slice none 0 0), 1, 24) := by kernel_rfl
set_option maxHeartbeats 1000000 in
set_option maxRecDepth 100000 in
/-- append of paths that can be read at an address -/
theorem run_append_paths {B : Nat} {w : World} {v : Value} {ps qs : List (List Int)} {ad : Addr} {c : Nat} (ty : TypeId) (hp : RowP B w v ps) (hB : B ≤ w.heap.size) (hm : ps.length + qs.length ≤ 1099511627776)
    (hc : ∀ j (hj : j < qs.length), ∃ A c, w.cell? (ad.add j) = some (.slice A qs[j].length c) ∧ RdI w A qs[j] ∧ qs[j].length ≤ c ∧ ∀ a, A = some a → B ≤ a.block ∧ v.ownBlock ≠ some a.block ∧ a.block < w.heap.size) :
    ∃ v' w', (Builtin.append_ #[82, 82] ty #[v, .slice (some ad) qs.length c]).run Try.prog w = .ok v' w' ∧ RowP B w' v' (ps ++ qs) ∧ Below B w w' ∧ w.grownBy w' v.ownBlock ∧ (v'.ownBlock = v.ownBlock ∨ v'.ownBlock = some w.heap.size) := by
  obtain ⟨i, hi, hz, hz1, hz2⟩ := info_parts path_info
  obtain ⟨vs, h1, h2⟩ := hp
  have hge : ∀ g, v.ownBlock = some g → B ≤ g := fun g hg => (h1.lt g hg).1
  let news : List Value := (List.range qs.length).map fun j => (w.cell? (ad.add j)).getD (.slice none 0 0)
  have hnl : news.length = qs.length := by simp [news]
  have hnj : ∀ j (hj : j < qs.length), ∃ A c, news[j]? = some (.slice A qs[j].length c) ∧ RdI w A qs[j] ∧ qs[j].length ≤ c ∧ ∀ a, A = some a → B ≤ a.block ∧ v.ownBlock ≠ some a.block ∧ a.block < w.heap.size := fun j hj => by
    obtain ⟨A, c, e, r⟩ := hc j hj
    exact ⟨A, c, by simp [news, List.getElem?_map, hj, e], r⟩
  obtain ⟨v', w', hrun, hown, hg, _, hat⟩ := run_append_own_at (P := Try.prog) w B 82 ty 73 i _ 1 24 Try.underlying82 hi hz hz1 hz2 rfl (by omega) v ps.length vs h1 ad qs.length c news (by rw [hnl, Nat.mul_one]) (by
    intro j u hj
    have hjl : j < qs.length := by have := (List.getElem?_eq_some_iff.1 hj).1; omega
    obtain ⟨A, c, e, _⟩ := hc j hjl
    have : news[j]? = some (.slice A qs[j].length c) := by simp [news, List.getElem?_map, hjl, e]
    rw [this] at hj
    injection hj with hj
    rw [← hj]; exact e) (by
    intro u hu
    obtain ⟨j, hj, rfl⟩ := List.getElem_of_mem hu
    obtain ⟨A, c, e, _⟩ := hnj j (by omega)
    rw [List.getElem?_eq_getElem hj] at e
    injection e with e
    rw [e]; rfl) (by simp only [maxLen]; omega) (by omega) hB
  have hsz := hg.size
  refine ⟨v', w', hrun, ⟨vs ++ news, by rw [List.length_append]; exact hown, fun j hj => ?_⟩, ⟨hg.os, hg.tape, hg.output, hg.size, fun k hk => hg.block k (by omega) (fun e => by have := hge k e.symm; omega)⟩, hg, hat⟩
  have hvl : vs.length = ps.length := by have := h1.1; omega
  have new : ∀ a : Addr, B ≤ a.block ∧ v.ownBlock ≠ some a.block ∧ a.block < w.heap.size → B ≤ a.block ∧ v'.ownBlock ≠ some a.block ∧ a.block < w'.heap.size := fun a ha => ⟨ha.1, by
    rcases hat with e | e
    · rw [e]; exact ha.2.1
    · rw [e]; intro h; injection h with h; omega, by omega⟩
  by_cases hjp : j < ps.length
  · obtain ⟨A, c, e, r, hcl, hne⟩ := h2 j hjp
    rw [List.getElem?_append_left (by omega), List.getElem_append_left hjp]
    exact ⟨A, c, e, r.grown hg fun a ha => (hne a ha).2.1, hcl, fun a ha => new a (hne a ha)⟩
  · rw [List.length_append] at hj
    obtain ⟨A, c, e, r, hcl, hne⟩ := hnj (j - ps.length) (by omega)
    rw [List.getElem?_append_right (by omega), List.getElem_append_right (by omega), hvl]
    exact ⟨A, c, e, r.grown hg fun a ha => (hne a ha).2.1, hcl, fun a ha => new a (hne a ha)⟩
theorem RowP.mono {B B' : Nat} {w : World} {v : Value} {ps : List (List Int)} (h : RowP B w v ps) (hB : B' ≤ B) : RowP B' w v ps := by
  obtain ⟨vs, h1, h2⟩ := h
  refine ⟨vs, ⟨h1.1, ?_⟩, fun j hj => ?_⟩
  · rcases h1.2 with hn | ⟨g, cap, cur, rfl, hb, hg, r⟩
    · exact .inl hn
    · exact .inr ⟨g, cap, cur, rfl, by omega, hg, r⟩
  · obtain ⟨A, c, e, r, hcl, hne⟩ := h2 j hj
    exact ⟨A, c, e, r, hcl, fun a ha => ⟨by have := (hne a ha).1; omega, (hne a ha).2⟩⟩
theorem RowI.mono {B B' : Nat} {w : World} {v : Value} {xs : List Int} (h : RowI B w v xs) (hB : B' ≤ B) : RowI B' w v xs := by
  refine ⟨h.1, ?_⟩
  rcases h.2 with hn | ⟨g, cap, cur, rfl, hb, hg, r⟩
  · exact .inl hn
  · exact .inr ⟨g, cap, cur, rfl, by omega, hg, r⟩
theorem RowI.alloc {B : Nat} {w : World} {v : Value} {xs : List Int} (h : RowI B w v xs) (o : Obj) : RowI B (w.alloc o) v xs := h.keep fun b _ hl => Below.heap_alloc w o b hl
theorem RowP.alloc {B : Nat} {w : World} {v : Value} {ps : List (List Int)} (h : RowP B w v ps) (o : Obj) : RowP B (w.alloc o) v ps := h.below ((Below.refl _ _).alloc (Nat.le_refl _) _)
theorem RdI.alloc' {w : World} {A : Option Addr} {xs : List Int} (h : RdI w A xs) (o : Obj) : RdI (w.alloc o) A xs := h.keeps (.alloc w o)
/-- the shape, and where it lies -/
theorem RowI.form2 {B : Nat} {w : World} {v : Value} {xs : List Int} (h : RowI B w v xs) : ∃ A c, v = .slice A xs.length c ∧ RdI w A xs ∧ ∀ a, A = some a → B ≤ a.block ∧ a.block < w.heap.size := by
  obtain ⟨A, c, rfl, hi⟩ := h.form
  refine ⟨A, c, rfl, hi, fun a ha => ?_⟩
  subst ha
  have h3 := h.lt a.block rfl
  exact h3
mutual
/-- the paths to the nodes that meet a test, the root first -/
def plT (f : Tm → Bool) : List Int → Tm → List (List Int) | p, .mk k n ks => (if f (.mk k n ks) = true then [p] else []) ++ plL f p 0 ks
def plL (f : Tm → Bool) : List Int → Nat → List Tm → List (List Int) | _, _, [] => [] | p, i, t :: ts => plT f (p ++ [(i : Int)]) t ++ plL f p (i + 1) ts
end
def allT : Tm → Bool := fun _ => true
theorem plL_append (f : Tm → Bool) (p : List Int) (us : List Tm) : ∀ (ts : List Tm) (i : Nat), plL f p i (ts ++ us) = plL f p i ts ++ plL f p (i + ts.length) us
  | [], i => by simp [plL]
  | t :: ts, i => by rw [List.cons_append, plL, plL, plL_append f p us ts (i + 1), List.append_assoc, List.length_cons, show i + 1 + ts.length = i + (ts.length + 1) from by omega]
theorem plL_take (f : Tm → Bool) (p : List Int) {ks : List Tm} {j : Nat} (hj : j < ks.length) : plL f p 0 (ks.take (j + 1)) = plL f p 0 (ks.take j) ++ plT f (p ++ [(j : Int)]) ks[j] := by
  rw [List.take_succ_eq_append_getElem hj, plL_append, List.length_take, Nat.min_eq_left (Nat.le_of_lt hj), Nat.zero_add, plL, plL, List.append_nil]
theorem plT_le (f : Tm → Bool) (t : Tm) : ∀ p, (plT f p t).length ≤ t.size := by
  refine Tm.rec (motive_1 := fun t => ∀ p, (plT f p t).length ≤ t.size) (motive_2 := fun ts => ∀ p i, (plL f p i ts).length ≤ sizes ts) ?_ ?_ ?_ t
  · intro k n ks ih p; rw [plT, List.length_append, Tm.size]; have := ih p 0; split <;> simp <;> omega
  · intro p i; simp [plL]
  · intro t ts h1 h2 p i; rw [plL, List.length_append, sizes]; have := h1 (p ++ [(i : Int)]); have := h2 p (i + 1); omega
theorem plL_le (f : Tm → Bool) : ∀ (ts : List Tm) p i, (plL f p i ts).length ≤ sizes ts
  | [], p, i => by simp [plL]
  | t :: ts, p, i => by rw [plL, List.length_append, sizes]; have := plT_le f t (p ++ [(i : Int)]); have := plL_le f ts p (i + 1); omega
end Go.Proofs.Ytodkenpmhhbppaa
