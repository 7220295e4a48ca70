/-
  Texts that are common to the laws: Cmn, App4, SCmn. No condition.
-/
import Derived.Test.YtgmljpmnfncceaaK1
import Derived.Test.YtgmljpmnfncceaaK4
import Derived.Test.YtgmljpmnfncceaaK5
import Derived.Test.YtgmljpmnfncceaaK6
import Derived.Test.YtgmljpmnfncceaaK7
import Derived.Test.YtgmljpmnfncceaaK17
import Derived.Deep.Upon
import Derived.Deep.RegionHeld3
import Derived.Deep.DeepCutAuto
import Derived.WalkSpells
import Derived.WalkLawsBesides

namespace Go.Proofs.Ytgmljpmnfncceaa
open Go.RowKit
set_option linter.unusedSimpArgs false
set_option linter.unusedVariables false

abbrev Prs := List Tm × List Tm
/-- the first place of both lists where both parts stand -/
def idx2 (x y : Tm) : List Tm → List Tm → Option Nat
  | l :: ls, r :: rs => if (tmEq l x && tmEq r y) = true then some 0 else (idx2 x y ls rs).map (· + 1)
  | _, _ => none
/-- a hole for two parts -/
def holeOf (H : Nat → Tm) (d : Int) (t u : Tm) (st : Prs) : Option (Tm × Prs) :=
  match shiftI (-d) 0 t, shiftI (-d) 0 u with
  | some x, some y => (match idx2 x y st.1 st.2 with | some i => some (H i, st) | none => some (H st.1.length, (st.1 ++ [x], st.2 ++ [y])))
  | _, _ => none
mutual
/-- the pattern of two parts -/
def cm (H : Nat → Tm) : Int → Tm → Tm → Prs → Option (Tm × Prs)
  | d, .mk k n ks, u, st =>
    if u.k = k ∧ u.n = n ∧ u.kids.length = ks.length then
      (match cmL H k d 0 ks u.kids st with
        | some (os, st') => some (.mk k n os, st')
        | none => holeOf H d (.mk k n ks) u st)
    else holeOf H d (.mk k n ks) u st
def cmL (H : Nat → Tm) : Int → Int → Nat → List Tm → List Tm → Prs → Option (List Tm × Prs)
  | k, d, i, t :: ts, u :: us, st =>
    (match cm H (d + under k i) t u st with
      | none => none
      | some (o, st') => (match cmL H k d (i + 1) ts us st' with | none => none | some (os, st2) => some (o :: os, st2)))
  | _, _, _, _, _, st => some ([], st)
end
def holeS (i : Nat) : Tm := .mk 1 (100 + i) []
def holeI (i : Nat) : Tm := .mk (-1) i []

theorem cmL_snoc (H : Nat → Tm) (k d : Int) (t u : Tm) : ∀ (ts us : List Tm) (i : Nat) (st : Prs) (os : List Tm) (st1 : Prs), us.length = ts.length → cmL H k d i ts us st = some (os, st1) →
    cmL H k d i (ts ++ [t]) (us ++ [u]) st = (match cm H (d + under k (i + ts.length : Nat)) t u st1 with | none => none | some (o, st2) => some (os ++ [o], st2))
  | [], [], i, st, os, st1, hl, h => by
    rw [cmL] at h
    injection h with h
    injection h with h1 h2
    subst h1 h2
    · simp only [List.nil_append, List.length_nil, Nat.add_zero]
      rw [cmL]
      cases cm H (d + under k (i : Nat)) t u st with
      | none => rfl
      | some r => obtain ⟨o, s⟩ := r; simp [cmL]
    · simp
  | [], _ :: _, _, _, _, _, hl, _ => by simp at hl
  | _ :: _, [], _, _, _, _, hl, _ => by simp at hl
  | a :: ts, b :: us, i, st, os, st1, hl, h => by
    rw [cmL] at h
    rw [List.cons_append, List.cons_append, cmL]
    cases hc : cm H (d + under k (i : Nat)) a b st with
    | none => rw [hc] at h; cases h
    | some r =>
      obtain ⟨o, s⟩ := r
      rw [hc] at h
      simp only at h ⊢
      cases hc2 : cmL H k d (i + 1) ts us s with
      | none => rw [hc2] at h; cases h
      | some r2 =>
        obtain ⟨os2, s2⟩ := r2
        rw [hc2] at h
        injection h with h
        injection h with h1 h2
        subst h1 h2
        rw [cmL_snoc H k d t u ts us (i + 1) s os2 s2 (by simpa using hl) hc2, List.length_cons, show i + 1 + ts.length = i + (ts.length + 1) from by omega]
        cases cm H (d + under k (i + (ts.length + 1) : Nat)) t u s2 with
        | none => rfl
        | some r3 => obtain ⟨o3, s3⟩ := r3; rfl
theorem cmL_take (H : Nat → Tm) (k d : Int) {ks us : List Tm} {j : Nat} (hj : j < ks.length) (hl : us.length = ks.length) {st st1 : Prs} {os : List Tm} (h : cmL H k d 0 (ks.take j) (us.take j) st = some (os, st1)) :
    cmL H k d 0 (ks.take (j + 1)) (us.take (j + 1)) st = (match cm H (d + under k j) ks[j] (us[j]'(by omega)) st1 with | none => none | some (o, st2) => some (os ++ [o], st2)) := by
  rw [List.take_succ_eq_append_getElem hj, List.take_succ_eq_append_getElem (by omega : j < us.length), cmL_snoc H k d _ _ _ _ 0 st os st1 (by simp; omega) h]
  simp only [List.length_take, Nat.zero_add]
  rw [Nat.min_eq_left (by omega)]
theorem cmL_none (H : Nat → Tm) (k d : Int) : ∀ (ts us ts' us' : List Tm) (i : Nat) (st : Prs), us.length = ts.length → cmL H k d i ts us st = none → cmL H k d i (ts ++ ts') (us ++ us') st = none
  | [], [], _, _, i, st, _, h => by rw [cmL] at h; cases h; simp
  | [], _ :: _, _, _, _, _, hl, _ => by simp at hl
  | _ :: _, [], _, _, _, _, hl, _ => by simp at hl
  | a :: ts, b :: us, ts', us', i, st, hl, h => by
    rw [cmL] at h
    rw [List.cons_append, List.cons_append, cmL]
    cases hc : cm H (d + under k (i : Nat)) a b st with
    | none => rfl
    | some r =>
      obtain ⟨o, s⟩ := r
      rw [hc] at h
      simp only at h ⊢
      cases hc2 : cmL H k d (i + 1) ts us s with
      | none => rw [cmL_none H k d ts us ts' us' (i + 1) s (by simpa using hl) hc2]
      | some r2 => obtain ⟨os2, s2⟩ := r2; rw [hc2] at h; cases h
theorem cmL_no (H : Nat → Tm) (k d : Int) {ks us : List Tm} {j : Nat} (hj : j < ks.length) (hl : us.length = ks.length) {st : Prs} (h : cmL H k d 0 (ks.take (j + 1)) (us.take (j + 1)) st = none) : cmL H k d 0 ks us st = none := by
  have := cmL_none H k d (ks.take (j + 1)) (us.take (j + 1)) (ks.drop (j + 1)) (us.drop (j + 1)) 0 st (by simp; omega) h
  rwa [List.take_append_drop, List.take_append_drop] at this
theorem cmL_length (H : Nat → Tm) (k d : Int) : ∀ (ts us : List Tm) (i : Nat) (st : Prs) (os : List Tm) (st1 : Prs), us.length = ts.length → cmL H k d i ts us st = some (os, st1) → os.length = ts.length
  | [], [], i, st, os, st1, _, h => by rw [cmL] at h; cases h; rfl; simp
  | [], _ :: _, _, _, _, _, hl, _ => by simp at hl
  | _ :: _, [], _, _, _, _, hl, _ => by simp at hl
  | a :: ts, b :: us, i, st, os, st1, hl, h => by
    rw [cmL] at h
    cases hc : cm H (d + under k (i : Nat)) a b st with
    | none => rw [hc] at h; cases h
    | some r =>
      obtain ⟨o, s⟩ := r
      rw [hc] at h
      simp only at h
      cases hc2 : cmL H k d (i + 1) ts us s with
      | none => rw [hc2] at h; cases h
      | some r2 =>
        obtain ⟨os2, s2⟩ := r2
        rw [hc2] at h
        cases h
        have := cmL_length H k d ts us (i + 1) s os2 _ (by simpa using hl) hc2
        simp [this]

/-- as many in both lists, not too many, none too large -/
def PrsOk (m : Nat) (st : Prs) : Prop := st.1.length = st.2.length ∧ st.1.length ≤ m ∧ (∀ x, x ∈ st.1 → x.size ≤ 400) ∧ (∀ x, x ∈ st.2 → x.size ≤ 400)
theorem PrsOk.mono {m m' : Nat} {st : Prs} (h : PrsOk m st) (hm : m ≤ m') : PrsOk m' st := ⟨h.1, Nat.le_trans h.2.1 hm, h.2.2⟩
theorem shiftI_small {by_ cut : Int} {u low : Tm} (h : shiftI by_ cut u = some low) : low.size ≤ 400 := by
  unfold shiftI at h
  split at h
  · split at h
    · rename_i hv; injection h with h; subst h; exact validT_size hv
    · cases h
  · cases h
theorem holeOf_ok (H : Nat → Tm) (d : Int) (t u : Tm) (m : Nat) (st : Prs) (o : Tm) (st' : Prs) (h : PrsOk m st) (hc : holeOf H d t u st = some (o, st')) : PrsOk (m + 1) st' := by
  unfold holeOf at hc
  cases h1 : shiftI (-d) 0 t with
  | none => rw [h1] at hc; cases hc
  | some x =>
    cases h2 : shiftI (-d) 0 u with
    | none => rw [h1, h2] at hc; cases hc
    | some y =>
      rw [h1, h2] at hc
      simp only at hc
      cases hi : idx2 x y st.1 st.2 with
      | some i => rw [hi] at hc; cases hc; exact h.mono (by omega)
      | none =>
        rw [hi] at hc
        cases hc
        refine ⟨by simp [h.1], by simp; exact h.2.1, fun z hz => ?_, fun z hz => ?_⟩
        · rcases List.mem_append.1 hz with hz | hz
          · exact h.2.2.1 z hz
          · rw [List.mem_singleton] at hz; subst hz; exact shiftI_small h1
        · rcases List.mem_append.1 hz with hz | hz
          · exact h.2.2.2 z hz
          · rw [List.mem_singleton] at hz; subst hz; exact shiftI_small h2
theorem cm_ok (H : Nat → Tm) (t : Tm) : ∀ (d : Int) (u : Tm) (m : Nat) (st : Prs) (o : Tm) (st' : Prs), PrsOk m st → cm H d t u st = some (o, st') → PrsOk (m + t.size) st' := by
  refine (Tm.ind2 (p := fun t => ∀ (d : Int) (u : Tm) (m : Nat) (st : Prs) (o : Tm) (st' : Prs), PrsOk m st → cm H d t u st = some (o, st') → PrsOk (m + t.size) st')
    (q := fun ts => ∀ (k d : Int) (i : Nat) (us : List Tm) (m : Nat) (st : Prs) (os : List Tm) (st' : Prs), PrsOk m st → cmL H k d i ts us st = some (os, st') → PrsOk (m + sizes ts) st') ?_ ?_ ?_).1 t
  · intro k n ks ih d u m st o st' h hc
    rw [Tm.size]
    rw [cm] at hc
    have hole : holeOf H d (.mk k n ks) u st = some (o, st') → PrsOk (m + (sizes ks + 1)) st' := fun hh => (holeOf_ok _ _ _ _ _ _ _ _ h hh).mono (by omega)
    split at hc
    · cases hc2 : cmL H k d 0 ks u.kids st with
      | none => rw [hc2] at hc; exact hole hc
      | some r => obtain ⟨os, s⟩ := r; rw [hc2] at hc; cases hc; exact (ih _ _ _ _ _ _ _ _ h hc2).mono (by omega)
    · exact hole hc
  · intro k d i us m st os st' h hc
    rw [cmL] at hc
    · cases hc; exact h
    · simp
  · intro t ts h1 h2 k d i us m st os st' h hc
    rw [sizes]
    cases us with
    | nil => rw [cmL] at hc; cases hc; exact h.mono (by omega); simp
    | cons u us =>
      rw [cmL] at hc
      cases hc1 : cm H (d + under k (i : Nat)) t u st with
      | none => rw [hc1] at hc; cases hc
      | some r =>
        obtain ⟨o, s⟩ := r
        rw [hc1] at hc
        simp only at hc
        cases hc2 : cmL H k d (i + 1) ts us s with
        | none => rw [hc2] at hc; cases hc
        | some r2 =>
          obtain ⟨os2, s2⟩ := r2
          rw [hc2] at hc
          cases hc
          exact (h2 _ _ _ _ _ _ _ _ (h1 _ _ _ _ _ _ h hc1) hc2).mono (by omega)

mutual
/-- holes as variables: the reference's way, the program's way -/
def numS (h : Int) : Int → Tm → Tm | d, .mk k n ks => .mk k (if k = 1 ∧ 100 ≤ n then n - 100 + d else if k = 1 ∧ d ≤ n then n + h else n) (numSL h k d 0 ks)
def numSL (h : Int) : Int → Int → Nat → List Tm → List Tm | _, _, _, [] => [] | k, d, i, t :: ts => numS h (d + under k i) t :: numSL h k d (i + 1) ts
end
mutual
def numI (h : Int) : Int → Tm → Tm | d, .mk k n ks => if k = -1 then .mk 1 (n + d) [] else if k = 1 ∧ d ≤ n then .mk 1 (n + h) [] else .mk k n (numIL h k d 0 ks)
def numIL (h : Int) : Int → Int → Nat → List Tm → List Tm | _, _, _, [] => [] | k, d, i, t :: ts => numI h (d + under k i) t :: numIL h k d (i + 1) ts
end
theorem numSL_append (h k d : Int) (us : List Tm) : ∀ (ts : List Tm) (i : Nat), numSL h k d i (ts ++ us) = numSL h k d i ts ++ numSL h k d (i + ts.length) us
  | [], i => by simp [numSL]
  | t :: ts, i => by rw [List.cons_append, numSL, numSL, numSL_append h k d us ts (i + 1), List.cons_append, List.length_cons, show i + 1 + ts.length = i + (ts.length + 1) from by omega]
theorem numIL_append (h k d : Int) (us : List Tm) : ∀ (ts : List Tm) (i : Nat), numIL h k d i (ts ++ us) = numIL h k d i ts ++ numIL h k d (i + ts.length) us
  | [], i => by simp [numIL]
  | t :: ts, i => by rw [List.cons_append, numIL, numIL, numIL_append h k d us ts (i + 1), List.cons_append, List.length_cons, show i + 1 + ts.length = i + (ts.length + 1) from by omega]
theorem numSL_take (h k d : Int) {ks : List Tm} {j : Nat} (hj : j < ks.length) : numSL h k d 0 (ks.take (j + 1)) = numSL h k d 0 (ks.take j) ++ [numS h (d + under k j) ks[j]] := by
  rw [List.take_succ_eq_append_getElem hj, numSL_append, List.length_take, Nat.min_eq_left (by omega), Nat.zero_add]; simp [numSL]
theorem numIL_take (h k d : Int) {ks : List Tm} {j : Nat} (hj : j < ks.length) : numIL h k d 0 (ks.take (j + 1)) = numIL h k d 0 (ks.take j) ++ [numI h (d + under k j) ks[j]] := by
  rw [List.take_succ_eq_append_getElem hj, numIL_append, List.length_take, Nat.min_eq_left (by omega), Nat.zero_add]; simp [numIL]
/-- numbers that are not negative and not too great -/
def nbd : Tm → Bool
  | .mk _ n ks => decide (0 ≤ n) && decide (n ≤ 1000000) && nbds ks
where nbds : List Tm → Bool | [] => true | t :: ts => nbd t && nbds ts
theorem nbds_mem {ks : List Tm} (h : nbd.nbds ks = true) : ∀ t, t ∈ ks → nbd t = true := by
  induction ks with
  | nil => intro t ht; cases ht
  | cons a ts ih =>
    rw [nbd.nbds, Bool.and_eq_true] at h
    intro t ht
    rcases List.mem_cons.1 ht with rfl | ht
    · exact h.1
    · exact ih h.2 t ht
theorem nbd_split {k n : Int} {ks : List Tm} (h : nbd (.mk k n ks) = true) : (0 ≤ n ∧ n ≤ 1000000) ∧ ∀ t, t ∈ ks → nbd t = true := by
  rw [nbd, Bool.and_eq_true, Bool.and_eq_true, decide_eq_true_eq, decide_eq_true_eq] at h
  exact ⟨h.1, nbds_mem h.2⟩
end Go.Proofs.Ytgmljpmnfncceaa

namespace Go.Proofs.Ytgmljpmnfncceaa
open Go.RowKit
set_option linter.unusedSimpArgs false
set_option linter.unusedVariables false

/-- the cells of terms that can be read -/
theorem rdx_row {p : Nat → Prop} {w : World} {b off : Nat} : ∀ {ts : List Tm} {i : Nat}, RdP p w (some ⟨b, off, none⟩) i ts → ∃ xs, RdX p w ts xs ∧ ∀ j u, xs[j]? = some u → w.cell? ⟨b, off + i * 3 + j, none⟩ = some u
  | [], i, _ => ⟨[], rfl, fun j u h => by simp at h⟩
  | .mk k n ks :: ts, i, h => by
    obtain ⟨⟨b', off', hA, hc⟩, hr⟩ := RdP.cons_iff.1 h
    injection hA with hA
    injection hA with h1 h2
    subst h1 h2
    obtain ⟨hp, c0, c1, A, c, c2, hl, hk⟩ := RdPC.iff.1 hc
    obtain ⟨xs, hx, hcx⟩ := rdx_row hr
    refine ⟨.int .i64 k :: .int .i64 n :: .slice A ks.length c :: xs, ⟨A, c, xs, rfl, hl, hk, hx⟩, fun j u hj => ?_⟩
    match j, hj with
    | 0, hj => simp only [List.getElem?_cons_zero, Option.some.injEq] at hj; subst hj; exact c0
    | 1, hj => simp only [List.getElem?_cons_succ, List.getElem?_cons_zero, Option.some.injEq] at hj; subst hj; exact c1
    | 2, hj => simp only [List.getElem?_cons_succ, List.getElem?_cons_zero, Option.some.injEq] at hj; subst hj; exact c2
    | j + 3, hj =>
      simp only [List.getElem?_cons_succ] at hj
      have := hcx j u hj
      rw [← this]
      congr 2
      omega
theorem RdX.oneC {p : Nat → Prop} {w : World} : ∀ {ts : List Tm} {xs : List Value}, RdX p w ts xs → ∀ u, u ∈ xs → u.oneCell' = true
  | [], xs, h, u, hu => by have h : xs = [] := h; subst h; cases hu
  | .mk k n ks :: ts, xs, h, u, hu => by
    obtain ⟨A, c, ys, rfl, hl, hr, hx⟩ := h
    simp only [List.mem_cons] at hu
    rcases hu with rfl | rfl | rfl | hu
    · rfl
    · rfl
    · rfl
    · exact hx.oneC u hu
section
variable {lo : Nat → Prop} {B : Nat} {w : World} {v : Value} {ts : List Tm} {k n : Int} {ks : List Tm} {A : Option Addr} {c : Nat} {q : Nat → Prop}
/-- append of one term that can be read, whose cells lie somewhere -/
theorem run_append_rdW (hp : PartR lo B w v ts) (hB : B ≤ w.heap.size) (hr : RdP q w A 0 ks) (hq : ∀ b, q b → PB lo B w v b) (hl : ks.length ≤ 9223372036854775807) (hlen : ts.length ≤ 1099511627776) (g cc : Nat)
    (hb : Blk w g #[.int .i64 k, .int .i64 n, .slice A ks.length c]) (ty : TypeId) :
    ∃ v' w', (Builtin.append_ #[26, 26] ty #[v, .slice (some ⟨g, 0, none⟩) 1 cc]).run Try.prog w = .ok v' w' ∧
      PartR lo B w' v' (ts ++ [.mk k n ks]) ∧ Below B w w' ∧ w.grownBy w' v.ownBlock ∧ ∀ b, b < w.heap.size → v.ownBlock ≠ some b → v'.ownBlock ≠ some b := by
  obtain ⟨i, hi, hz, hz1, hz2⟩ := info_parts tm_info
  obtain ⟨xs, k1, h2⟩ := hp
  have hge : ∀ g, v.ownBlock = some g → B ≤ g := fun g hg => (k1.lt g hg).1
  obtain ⟨c0, c1, c2⟩ : w.cell? ⟨g, 0, none⟩ = some (.int .i64 k) ∧ w.cell? ⟨g, 1, none⟩ = some (.int .i64 n) ∧ w.cell? ⟨g, 2, none⟩ = some (.slice A ks.length c) := ⟨hb.at_ (i := 0) rfl, hb.at_ (i := 1) rfl, hb.at_ (i := 2) rfl⟩
  obtain ⟨v', w', hrun, hown, hg, _, hat⟩ := run_append_own_at (P := Try.prog) w B 26 ty 28 i _ 3 40 Try.underlying26 hi hz hz1 hz2 rfl (by omega) v ts.length xs k1 ⟨g, 0, none⟩ 1 cc [.int .i64 k, .int .i64 n, .slice A ks.length c] rfl (by
    intro j u hj
    match j, hj with
    | 0, hj => simp only [List.getElem?_cons_zero, Option.some.injEq] at hj; subst hj; simpa [Addr.add] using c0
    | 1, hj => simp only [List.getElem?_cons_succ, List.getElem?_cons_zero, Option.some.injEq] at hj; subst hj; simpa [Addr.add] using c1
    | 2, hj => simp only [List.getElem?_cons_succ, List.getElem?_cons_zero, Option.some.injEq] at hj; subst hj; simpa [Addr.add] using c2) (by
    intro u hu
    simp only [List.mem_cons, List.not_mem_nil, or_false] at hu
    rcases hu with rfl | rfl | rfl <;> rfl) (by simp only [maxLen]; omega) (by omega) (by omega)
  have hsz := hg.size
  have hne : ∀ b, b < w.heap.size → v.ownBlock ≠ some b → v'.ownBlock ≠ some b := by
    intro b hb hv e
    rcases hat with e' | e'
    · exact hv (e'.symm.trans e)
    · rw [e'] at e; injection e with e; omega
  have hst : ∀ b, PB lo B w v b → PB lo B w' v' b := fun b hb => ⟨hb.1, by have := hb.2.1; omega, hne b hb.2.1 hb.2.2⟩
  have hkp : ∀ b, PB lo B w v b → b < w.heap.size → w'.heap[b]? = w.heap[b]? := fun b hb hl => hg.block b hl (fun e => hb.2.2 e.symm)
  have hr' : RdP (PB lo B w' v') w' A 0 ks := ((hr.mono (q := PB lo B w v) hq).blocks hkp).mono hst
  refine ⟨v', w', hrun, ⟨xs ++ [.int .i64 k, .int .i64 n, .slice A ks.length c], by simpa using hown, RdX.append (show RdX (PB lo B w' v') w' [.mk k n ks] _ from ⟨A, c, [], rfl, hl, hr', rfl⟩) (h2.keep hst hkp)⟩, ?_, hg, hne⟩
  exact ⟨hg.os, hg.tape, hg.output, hg.size, fun k hk => hg.block k (by omega) (fun e => by have := hge k e.symm; omega)⟩
theorem step_append_rdW (hp : PartR lo B w v ts) (hB : B ≤ w.heap.size) (hr : RdP q w A 0 ks) (hq : ∀ b, q b → PB lo B w v b) (hl : ks.length ≤ 9223372036854775807) {m : Nat} (hm : ts.length = m) (hlen : m ≤ 1099511627776) (g cc : Nat)
    (hb : Blk w g #[.int .i64 k, .int .i64 n, .slice A ks.length c])
    {ops : Array Oper} {o : Oper} {a : Act} {K : Act → World → Prop} {Q : Exit → Act → World → Prop} {E : Prop} (hgd : o.guard = none) (s x : Operand)
    (ho : o.op = .call { callee := .builtin .append, args := #[s, x], argTypes := #[26, 26] }) (hs : a.eval s = v) (hx : a.eval x = .slice (some ⟨g, 0, none⟩) 1 cc)
    (h : ∀ A' c' w', PartR lo B w' (.slice A' (m + 1) c') (ts ++ [.mk k n ks]) → Below B w w' → w.grownBy w' v.ownBlock → (∀ b, b < w.heap.size → v.ownBlock ≠ some b → (Value.slice A' (m + 1) c').ownBlock ≠ some b) → K (a.put o.dst (.slice A' (m + 1) c')) w') :
    if Region.wanted o (yielded ops a.tmps) = true then Oper.wp Try.prog o a w K Q else E := by
  subst hm
  have hw : Region.wanted o (yielded ops a.tmps) = true := by simp [Region.wanted, hgd]
  rw [if_pos hw]
  obtain ⟨v', w', hrun, h2, h3, h4, h5⟩ := run_append_rdW (k := k) (n := n) (c := c) hp hB hr hq hl hlen g cc hb o.type
  unfold Oper.wp execOp
  simp only [ho, resolve, invoke, builtin, Sem.run_bind, Sem.run_pure, Result.andThen_ok, List.map_toArray, List.map_cons, List.map_nil, hs, hx, hrun]
  obtain ⟨A', c', rfl⟩ := h2.shape
  rw [List.length_append] at h2 ⊢
  exact h A' c' w' h2 h3 h4 (by rw [List.length_append] at h5; exact h5)
theorem wpList_append_rdW (hp : PartR lo B w v ts) (hB : B ≤ w.heap.size) (hr : RdP q w A 0 ks) (hq : ∀ b, q b → PB lo B w v b) (hl : ks.length ≤ 9223372036854775807) {m : Nat} (hm : ts.length = m) (hlen : m ≤ 1099511627776) (g cc : Nat)
    (hb : Blk w g #[.int .i64 k, .int .i64 n, .slice A ks.length c])
    {ops : Array Oper} {rest : List Oper} {o : Oper} {a : Act} {Q : Exit → Act → World → Prop} (hgd : o.guard = none) (s x : Operand)
    (ho : o.op = .call { callee := .builtin .append, args := #[s, x], argTypes := #[26, 26] }) (hse : a.eval s = v) (hx : a.eval x = .slice (some ⟨g, 0, none⟩) 1 cc)
    (h : ∀ A' c' w', PartR lo B w' (.slice A' (m + 1) c') (ts ++ [.mk k n ks]) → Below B w w' → w.grownBy w' v.ownBlock → (∀ b, b < w.heap.size → v.ownBlock ≠ some b → (Value.slice A' (m + 1) c').ownBlock ≠ some b) → wpList Try.prog ops Q rest (a.put o.dst (.slice A' (m + 1) c')) w') :
    wpList Try.prog ops Q (o :: rest) a w := by
  subst hm
  refine wpList_plain hgd fun K hK => ?_
  obtain ⟨v', w', hrun, h2, h3, h4, h5⟩ := run_append_rdW (k := k) (n := n) (c := c) hp hB hr hq hl hlen g cc hb o.type
  unfold Oper.wp execOp
  simp only [ho, resolve, invoke, builtin, Sem.run_bind, Sem.run_pure, Result.andThen_ok, List.map_toArray, List.map_cons, List.map_nil, hse, hx, hrun]
  obtain ⟨A', c', rfl⟩ := h2.shape
  rw [List.length_append] at h2 ⊢
  exact hK _ _ (h A' c' w' h2 h3 h4 (by rw [List.length_append] at h5; exact h5))
end
section
variable {p : Nat → Prop} {w : World} {l : List Tm} {L : Option Addr} {cl g : Nat}
/-- append of a slice of terms to an empty one -/
theorem run_append_listR (hg : w.heap[g]? = some (.cells #[] 28 (0, 0))) (hl : RdP p w L 0 l) (hp : ∀ b, p b → b < w.heap.size ∧ b ≠ g) (hlen : l.length ≤ 1099511627776) (ty : TypeId) :
    ∃ v' w', (Builtin.append_ #[26, 26] ty #[.slice (some ⟨g, 0, none⟩) 0 0, .slice L l.length cl]).run Try.prog w = .ok v' w' ∧ PartR p g w' v' l ∧ w.grownBy w' (some g) := by
  have hgw : g < w.heap.size := (Array.getElem?_eq_some_iff.1 hg).1
  obtain ⟨i, hi, hz, hz1, hz2⟩ := info_parts tm_info
  have k1 : w.ownsRow g 28 3 (.slice (some ⟨g, 0, none⟩) 0 0) 0 [] := ⟨by simp, .inr ⟨g, 0, #[], rfl, Nat.le_refl _, hg, Nat.le_refl _, by simp [maxLen], by simp, by simp⟩⟩
  cases l with
  | nil =>
    refine ⟨.slice (some ⟨g, 0, none⟩) 0 0, w, run_append_nothing w 26 26 ty 28 i Try.underlying26 hi _ 0 0 (Nat.le_refl _) _ ⟨.inl ⟨28, Try.underlying26⟩, fun w' => by simp [Builtin.lenOf], by cases L <;> simp [Builtin.firstCells, loadCells, loadCellsFrom], by cases L <;> simp [Builtin.firstCells, loadCells, loadCellsFrom], by simp, fun u hu => by cases hu⟩, ⟨[], k1, rfl⟩, World.grownBy.refl _ _⟩
  | cons t ts =>
    obtain ⟨⟨b, off, rfl, _⟩, _⟩ := RdP.cons_iff.1 hl
    obtain ⟨x1, hx, hc⟩ := rdx_row hl
    obtain ⟨v', w', hrun, hown, hgr, _, hat⟩ := run_append_own_at (P := Try.prog) w g 26 ty 28 i _ 3 40 Try.underlying26 hi hz hz1 hz2 rfl (by omega) _ 0 [] k1 ⟨b, off, none⟩ (t :: ts).length cl x1 hx.length (fun j u hj => by
        have := hc j u hj
        rw [show Addr.add ⟨b, off, none⟩ j = ⟨b, off + 0 * 3 + j, none⟩ from by simp only [Addr.add]; split <;> simp_all]
        exact this) hx.oneC (by simp only [maxLen]; omega) (by omega) (by omega)
    rw [Nat.zero_add, List.nil_append] at hown
    have hsz := hgr.size
    have hvo : ∀ b, b < w.heap.size → b ≠ g → v'.ownBlock ≠ some b := by
      intro b hb hbg e
      rcases hat with e' | e'
      · rw [e'] at e; injection e with e; exact hbg e.symm
      · rw [e'] at e; injection e with e; omega
    exact ⟨v', w', hrun, ⟨x1, hown, hx.keep (fun b hb => ⟨.inl hb, by have := (hp b hb).1; omega, hvo b (hp b hb).1 (hp b hb).2⟩) fun b hb hl => hgr.block b hl (fun e => (hp b hb).2 (by injection e))⟩, hgr⟩
theorem step_append_listR (hg : w.heap[g]? = some (.cells #[] 28 (0, 0))) (hl : RdP p w L 0 l) (hp : ∀ b, p b → b < w.heap.size ∧ b ≠ g) {m : Nat} (hm : l.length = m) (hlen : m ≤ 1099511627776)
    {ops : Array Oper} {o : Oper} {a : Act} {K : Act → World → Prop} {Q : Exit → Act → World → Prop} {E : Prop} (hgd : o.guard = none) (s x : Operand)
    (ho : o.op = .call { callee := .builtin .append, args := #[s, x], argTypes := #[26, 26] }) (hs : a.eval s = .slice (some ⟨g, 0, none⟩) 0 0) (hx : a.eval x = .slice L m cl)
    (h : ∀ A' c' w', PartR p g w' (.slice A' m c') l → w.grownBy w' (some g) → K (a.put o.dst (.slice A' m c')) w') :
    if Region.wanted o (yielded ops a.tmps) = true then Oper.wp Try.prog o a w K Q else E := by
  subst hm
  have hw : Region.wanted o (yielded ops a.tmps) = true := by simp [Region.wanted, hgd]
  rw [if_pos hw]
  obtain ⟨v', w', hrun, h2, h3⟩ := run_append_listR (cl := cl) hg hl hp hlen o.type
  unfold Oper.wp execOp
  simp only [ho, resolve, invoke, builtin, Sem.run_bind, Sem.run_pure, Result.andThen_ok, List.map_toArray, List.map_cons, List.map_nil, hs, hx, hrun]
  obtain ⟨A', c', rfl⟩ := h2.shape
  exact h A' c' w' h2 h3
end
end Go.Proofs.Ytgmljpmnfncceaa

namespace Go.Proofs.Ytgmljpmnfncceaa
open Go.RowKit
set_option linter.unusedSimpArgs false
set_option linter.unusedVariables false

theorem sBare_any (k n : Int) (ks : List Tm) (A : Option Addr) (c : Nat) (d : Int) (w : World) (hM : sizes ks ≤ 1000000000) (hs : shape 30 (.mk k n ks) = true) (hd : 0 ≤ d ∧ d ≤ 1000) (hr : Rd w A 0 ks) :
    Calls Try.prog 51 #[.agg #[.int .i64 k, .int .i64 n, .slice A ks.length c], .int .i64 d] w fun e w' => e = .returned (.bool (kpS d 0 (.mk k n ks))) ∧ Below w.heap.size w w' := by
  have hs' := hide hs
  clear hs
  go_enter Try.func51, Try.ntmps51
  go_wp2_with (go_at_call 76; refine (sKeeps_any _ k n ks A c 0 d 30 _ (Nat.lt_succ_self _) hM hs'.out hd (by omega) (by omega) (hr.alloc _)).mono ?_; rintro e w1 ⟨rfl, hb1⟩)
  go_ret
  exact ⟨rfl, ((Below.refl _ _).alloc (Nat.le_refl _) _).trans (hb1.mono (by simp))⟩
def bothAt (x y : Tm) (l r : List Tm) (j : Nat) : Bool := tmEq (l.getD j zeroT) x && tmEq (r.getD j zeroT) y
theorem idx2_some {x y : Tm} : ∀ {l r : List Tm} {j : Nat}, r.length = l.length → (∀ i, i < j → bothAt x y l r i = false) → j < l.length → bothAt x y l r j = true → idx2 x y l r = some j
  | [], _, j, _, _, h, _ => by simp at h
  | l :: ls, [], j, hl, _, _, _ => by simp at hl
  | l :: ls, r :: rs, 0, hl, h, hj, hb => by
    rw [idx2, if_pos]; exact hb
  | l :: ls, r :: rs, j + 1, hl, h, hj, hb => by
    have h0 := h 0 (by omega)
    rw [idx2, if_neg (by intro e; have : bothAt x y (l :: ls) (r :: rs) 0 = true := e; rw [this] at h0; cases h0)]
    rw [idx2_some (l := ls) (r := rs) (j := j) (by simpa using hl) (fun i hi => by have := h (i + 1) (by omega); simpa [bothAt] using this) (by simpa using hj) (by simpa [bothAt] using hb)]
    rfl
theorem idx2_none {x y : Tm} : ∀ {l r : List Tm}, r.length = l.length → (∀ i, i < l.length → bothAt x y l r i = false) → idx2 x y l r = none
  | [], _, _, _ => by simp [idx2]
  | l :: ls, [], hl, _ => by simp at hl
  | l :: ls, r :: rs, hl, h => by
    have h0 := h 0 (by simp)
    rw [idx2, if_neg (by intro e; have : bothAt x y (l :: ls) (r :: rs) 0 = true := e; rw [this] at h0; cases h0)]
    rw [idx2_none (l := ls) (r := rs) (by simpa using hl) (fun i hi => by have := h (i + 1) (by simpa using hi); simpa [bothAt] using this)]
    rfl
theorem all_succ {p : Nat → Bool} {j : Nat} (h : ∀ i, i < j → p i = false) (hj : p j = false) : ∀ i, i < j + 1 → p i = false := fun i hi => by
  by_cases e : i = j
  · rw [e]; exact hj
  · exact h i (by omega)
theorem name_callsC {P : Program} {f : FuncId} {args : Array Value} {w : World} {Q : Ending → World → Prop} (h : ∀ wx, wx = w → Calls P f args wx Q) : Calls P f args w Q := h w rfl
theorem getD_at {l : List Tm} {j : Nat} {t : Tm} (hj : j < l.length) (h : l[j] = t) : l.getD j zeroT = t := by rw [← h]; simp [List.getD, List.getElem?_eq_getElem hj]
theorem cm_some {H : Nat → Tm} {d k n : Int} {ks us os : List Tm} {st st' : Prs} (hl : us.length = ks.length) (h : cmL H k d 0 ks us st = some (os, st')) : cm H d (.mk k n ks) (.mk k n us) st = some (.mk k n os, st') := by
  rw [cm, if_pos (show (Tm.mk k n us).k = k ∧ (Tm.mk k n us).n = n ∧ (Tm.mk k n us).kids.length = ks.length from ⟨rfl, rfl, hl⟩), show (Tm.mk k n us).kids = us from rfl, h]
theorem cm_none {H : Nat → Tm} {d k n : Int} {ks us : List Tm} {st : Prs} (hl : us.length = ks.length) (h : cmL H k d 0 ks us st = none) : cm H d (.mk k n ks) (.mk k n us) st = holeOf H d (.mk k n ks) (.mk k n us) st := by
  rw [cm, if_pos (show (Tm.mk k n us).k = k ∧ (Tm.mk k n us).n = n ∧ (Tm.mk k n us).kids.length = ks.length from ⟨rfl, rfl, hl⟩), show (Tm.mk k n us).kids = us from rfl, h]
theorem cm_neg {H : Nat → Tm} {d k n ku nu : Int} {ks us : List Tm} {st : Prs} (h : ¬ (ku = k ∧ nu = n ∧ us.length = ks.length)) : cm H d (.mk k n ks) (.mk ku nu us) st = holeOf H d (.mk k n ks) (.mk ku nu us) st := by
  rw [cm, if_neg (show ¬ ((Tm.mk ku nu us).k = k ∧ (Tm.mk ku nu us).n = n ∧ (Tm.mk ku nu us).kids.length = ks.length) from h)]
/-- what l13Common answers: a term and two lists that can be read, and whether it is so -/
def CmS (p : Nat → Prop) (w : World) (r : Option (Tm × Prs)) (e : Ending) (w' : World) : Prop :=
  match r with
  | none => (∃ x y, e = .returned (.tuple #[.agg #[.int .i64 0, .int .i64 0, .slice none 0 0], x, y, .bool false])) ∧ Below w.heap.size w w'
  | some (t, st) => ∃ A c L cl R cr, e = .returned (.tuple #[.agg #[.int .i64 t.k, .int .i64 t.n, .slice A t.ks.length c], .slice L st.1.length cl, .slice R st.1.length cr, .bool true]) ∧ t.ks.length ≤ 9223372036854775807 ∧ RdP (fun b => w.heap.size ≤ b) w' A 0 t.ks ∧ RdP (fun b => p b ∨ w.heap.size ≤ b) w' L 0 st.1 ∧ RdP (fun b => p b ∨ w.heap.size ≤ b) w' R 0 st.2 ∧ Below w.heap.size w w'
theorem cmS_none {p : Nat → Prop} {w : World} {e : Ending} {w' : World} (h : CmS p w none e w') : (∃ x y, e = .returned (.tuple #[.agg #[.int .i64 0, .int .i64 0, .slice none 0 0], x, y, .bool false])) ∧ Below w.heap.size w w' := h
theorem cmS_some {p : Nat → Prop} {w : World} {t : Tm} {st : Prs} {e : Ending} {w' : World} (h : CmS p w (some (t, st)) e w') :
    ∃ A c L cl R cr, e = .returned (.tuple #[.agg #[.int .i64 t.k, .int .i64 t.n, .slice A t.ks.length c], .slice L st.1.length cl, .slice R st.1.length cr, .bool true]) ∧ t.ks.length ≤ 9223372036854775807 ∧ RdP (fun b => w.heap.size ≤ b) w' A 0 t.ks ∧ RdP (fun b => p b ∨ w.heap.size ≤ b) w' L 0 st.1 ∧ RdP (fun b => p b ∨ w.heap.size ≤ b) w' R 0 st.2 ∧ Below w.heap.size w w' := h
theorem cmS_mk {p : Nat → Prop} {w : World} {k n : Int} {ks l r : List Tm} {e : Ending} {w' : World} (h :
    ∃ A c L cl R cr, e = .returned (.tuple #[.agg #[.int .i64 k, .int .i64 n, .slice A ks.length c], .slice L l.length cl, .slice R l.length cr, .bool true]) ∧ ks.length ≤ 9223372036854775807 ∧ RdP (fun b => w.heap.size ≤ b) w' A 0 ks ∧ RdP (fun b => p b ∨ w.heap.size ≤ b) w' L 0 l ∧ RdP (fun b => p b ∨ w.heap.size ≤ b) w' R 0 r ∧ Below w.heap.size w w') :
    CmS p w (some (.mk k n ks, (l, r))) e w' := h
/-- the blocks of the two terms and of the answer -/
structure Fr (w : World) (k n : Int) (ks : List Tm) (A : Option Addr) (c : Nat) (ku nu : Int) (us : List Tm) (U : Option Addr) (cu : Nat) (wx : World) : Prop where
  h0 : Blk wx w.heap.size #[.int .i64 k, .int .i64 n, .slice A ks.length c]
  h1 : Blk wx (w.heap.size + 1) #[.int .i64 ku, .int .i64 nu, .slice U us.length cu]
  h2 : Blk wx (w.heap.size + 1 + 1) #[.int .i64 0, .int .i64 0, .slice none 0 0]
  hb : Below w.heap.size w wx
section
variable {w : World} {k n : Int} {ks : List Tm} {A : Option Addr} {c : Nat} {ku nu : Int} {us : List Tm} {U : Option Addr} {cu : Nat} {wx wy : World}
theorem Fr.below (h : Fr w k n ks A c ku nu us U cu wx) (hb : Below wx.heap.size wx wy) : Fr w k n ks A c ku nu us U cu wy := ⟨h.h0.keep hb, h.h1.keep hb, h.h2.keep hb, h.hb.trans (hb.mono h.hb.size)⟩
theorem Fr.alloc (h : Fr w k n ks A c ku nu us U cu wx) (o : Obj) : Fr w k n ks A c ku nu us U cu (wx.alloc o) := h.below ((Below.refl _ _).alloc (Nat.le_refl _) _)
theorem Fr.drew (h : Fr w k n ks A c ku nu us U cu wx) : Fr w k n ks A c ku nu us U cu wx.drew := h.below (Below.refl _ _).drew
theorem Fr.size (h : Fr w k n ks A c ku nu us U cu wx) : w.heap.size + 1 + 1 < wx.heap.size := h.h2.lt
theorem Fr.far (h : Fr w k n ks A c ku nu us U cu wx) (hb : Below (w.heap.size + 3) wx wy) : Fr w k n ks A c ku nu us U cu wy := ⟨h.h0.below hb (by omega), h.h1.below hb (by omega), h.h2.below hb (by omega), h.hb.trans (hb.mono (by omega))⟩
end
/-- an empty row of terms -/
def EmpR (w : World) (g : Nat) : Prop := w.heap[g]? = some (.cells #[] 28 (0, 0))
theorem EmpR.new {n : Nat} (w : World) (h : n = w.heap.size) : EmpR (w.alloc (.cells #[] 28)) n := by subst h; exact heap_alloc_new w _
theorem EmpR.lt {w : World} {g : Nat} (h : EmpR w g) : g < w.heap.size := (Array.getElem?_eq_some_iff.1 h).1
theorem EmpR.alloc {w : World} {g : Nat} (h : EmpR w g) (o : Obj) : EmpR (w.alloc o) g := (Below.heap_alloc w o g h.lt).trans h
theorem EmpR.drew {w : World} {g : Nat} (h : EmpR w g) : EmpR w.drew g := h
theorem name_step {ops : Array Oper} {o : Oper} {a : Act} {K : Act → World → Prop} {Q : Exit → Act → World → Prop} {E : Prop} {w : World} (h : ∀ wx, wx = w → if Region.wanted o (yielded ops a.tmps) = true then Oper.wp Try.prog o a wx K Q else E) :
    if Region.wanted o (yielded ops a.tmps) = true then Oper.wp Try.prog o a w K Q else E := h w rfl
theorem by_alloc {W w : World} (h : Below W.heap.size W w) (o : Obj) : Below W.heap.size W (w.alloc o) := h.alloc h.size o
theorem by_drew {W w : World} (h : Below W.heap.size W w) : Below W.heap.size W w.drew := h.drew
theorem by_refl (W : World) : Below W.heap.size W W := Below.refl _ _
theorem by_grown {W w w' : World} {g : Nat} (h : Below W.heap.size W w) (hg : w.grownBy w' (some g)) (hge : W.heap.size ≤ g) : Below W.heap.size W w' :=
  ⟨hg.os.trans h.os, hg.tape.trans h.tape, hg.output.trans h.output, Nat.le_trans h.size hg.size, fun i hi => (hg.block i (Nat.lt_of_lt_of_le hi h.size) (fun e => by injection e with e; omega)).trans (h.block i hi)⟩
theorem PartR.own_ge {lo : Nat → Prop} {B : Nat} {w : World} {v : Value} {ts : List Tm} (h : PartR lo B w v ts) : ∀ g, v.ownBlock = some g → B ≤ g ∧ g < w.heap.size := by
  obtain ⟨xs, h1, _⟩ := h
  exact fun g hg => h1.lt g hg
theorem rdp_ltC {p : Nat → Prop} {w : World} : (∀ t b off i, RdPC p w b off i t → RdPC (fun b => p b ∧ b < w.heap.size) w b off i t) ∧ (∀ ks A i, RdP p w A i ks → RdP (fun b => p b ∧ b < w.heap.size) w A i ks) := by
  refine Tm.ind2 (fun k n ks ih b off i hh => ?_) (fun _ _ _ => RdP.nil) (fun t ts h1 h2 A i hh => ?_)
  · rw [RdPC.iff] at hh ⊢
    obtain ⟨h0, h1, h2, A, c, h3, h4, h5⟩ := hh
    exact ⟨⟨h0, World.block_lt_of_cell? _ _ h1⟩, h1, h2, A, c, h3, h4, ih _ _ h5⟩
  · rw [RdP.cons_iff] at hh ⊢
    obtain ⟨⟨b, off, hA, hc⟩, hr⟩ := hh
    exact ⟨⟨b, off, hA, h1 _ _ _ hc⟩, h2 _ _ hr⟩
set_option maxHeartbeats 8000000 in
set_option maxRecDepth 100000 in
theorem sCommon_neg (p : Nat → Prop) (k n : Int) (ks : List Tm) (A : Option Addr) (c : Nat) (ku nu : Int) (us : List Tm) (U : Option Addr) (cu : Nat) (d : Int) (l r : List Tm) (L R : Option Addr) (cl cr m : Nat) (w : World)
    (hv : validT (.mk k n ks) = true) (hvu : validT (.mk ku nu us) = true) (hd : 0 ≤ d) (hdq : d + sizes ks ≤ 900) (hst : PrsOk m (l, r)) (hm : m + sizes ks + 1 ≤ 100000) (hr : Rd w A 0 ks) (hru : Rd w U 0 us) (hps : ∀ b, p b → b < w.heap.size) (hrL : RdP p w L 0 l) (hrR : RdP p w R 0 r)
    (hne : ¬ (ku = k ∧ nu = n ∧ us.length = ks.length)) :
    Calls Try.prog 22 #[.agg #[.int .i64 k, .int .i64 n, .slice A ks.length c], .agg #[.int .i64 ku, .int .i64 nu, .slice U us.length cu], .int .i64 d, .slice L l.length cl, .slice R l.length cr] w
      (CmS p w (cm holeS d (.mk k n ks) (.mk ku nu us) (l, r))) := by
  have hcmz := hide (cm_neg (H := holeS) (d := d) (st := (l, r)) hne)
  have facts : (k == ku) = false ∨ ((k == ku) = true ∧ (n == nu) = false) ∨ ((k == ku) = true ∧ (n == nu) = true ∧ ((ks.length : Int) == (us.length : Int)) = false) := by
    by_cases h1 : k = ku
    · by_cases h2 : n = nu
      · exact .inr (.inr ⟨by simpa using h1, by simpa using h2, by simp; intro h3; exact hne ⟨h1.symm, h2.symm, by omega⟩⟩)
      · exact .inr (.inl ⟨by simpa using h1, by simpa using h2⟩)
    · exact .inl (by simpa using h1)
  clear hne
  have hrl : r.length = l.length := hst.1.symm
  have hll : l.length ≤ m := hst.2.1
  have hlen := length_le_sizes ks
  have hlenu := length_le_sizes us
  have hzk := validT_size hv
  have hzu := validT_size hvu
  rw [Tm.size] at hzk hzu
  have hsa : shape 30 (.mk k n ks) = true := by simp only [validT, Bool.and_eq_true] at hv; exact hv.1
  have hsu : shape 30 (.mk ku nu us) = true := by simp only [validT, Bool.and_eq_true] at hvu; exact hvu.1
  have hsa' := hide hsa
  have hsu' := hide hsu
  have hv' := hide hv
  have hvu' := hide hvu
  have hst' := hide hst
  clear hsa hsu hv hvu hst
  go_enter Try.func22, Try.ntmps22
  go_upto_region 1 with fail
  go_cut [45] (fun s45 wx => s45 = .bool false ∧ Fr w k n ks A c ku nu us U cu wx)
  case first =>
    have hF0 : Fr w k n ks A c ku nu us U cu (((w.alloc (.cells #[.int .i64 k, .int .i64 n, .slice A ks.length c] 28)).alloc (.cells #[.int .i64 ku, .int .i64 nu, .slice U us.length cu] 28)).alloc (.cells #[.int .i64 0, .int .i64 0, .slice none 0 0] 28)) :=
      ⟨((Blk.new_ _ 28 _ rfl).alloc _).alloc _, (Blk.new_ _ 28 _ (by simp)).alloc _, Blk.new_ _ 28 _ (by simp), (((Below.refl _ _).alloc (Nat.le_refl _) _).alloc (by simp) _).alloc (by simp; omega) _⟩
    rcases facts with f1 | ⟨f1, f2⟩ | ⟨f1, f2, f3⟩
    all_goals
      go_wp2_with fail
      go_meet
      exact ⟨rfl, hF0⟩
  case rest =>
    obtain ⟨rfl, hF⟩ := hcut
    clear facts
    go_upto_region 14 with fail
    obtain ⟨x0, x1, x2⟩ := hF.h0.three
    obtain ⟨y0, y1, y2⟩ := hF.h1.three
    cases hkp : kpS d 0 (.mk k n ks) with
    | false =>
      have hz : holeOf holeS d (.mk k n ks) (.mk ku nu us) (l, r) = none := by rw [holeOf, shiftI_down hd hv'.out, hkp]; rfl
      have hz' := hide hz
      have hkp' := hide hkp
      clear hz hkp
      go_wp2_with (go_at_call 51; refine (sBare_any k n ks A c d _ (by omega) hsa'.out (by omega) (hr.below hF.hb)).mono ?_; rw [hkp'.out]; rintro e w1 ⟨rfl, hb1⟩; have hF1 := hF.below hb1; clear x0 x1 x2 y0 y1 y2; obtain ⟨x0, x1, x2⟩ := hF1.h0.three; obtain ⟨y0, y1, y2⟩ := hF1.h1.three; obtain ⟨d0, d1, d2⟩ := hF1.h2.three; have e0 := hF1.h2.frozen 0; have e1 := hF1.h2.frozen 1; have e2 := hF1.h2.frozen 2)
      refine bodyPost_ret (v := (.tuple #[.agg #[.int .i64 0, .int .i64 0, .slice none 0 0], .slice L l.length cl, .slice R l.length cr, .bool false])) ?_ rfl ?_
      · simp [results, Try.results22, go_sem, d0, d1, d2]
      · rw [hcmz.out, hz'.out]
        exact ⟨⟨_, _, rfl⟩, ((hF1.hb.setCell (by simp; omega) _).setCell (by simp; omega) _).setCell (by simp; omega) _⟩
    | true =>
      cases hkq : kpS d 0 (.mk ku nu us) with
      | false =>
        have hz : holeOf holeS d (.mk k n ks) (.mk ku nu us) (l, r) = none := by rw [holeOf, shiftI_down hd hvu'.out, hkq, shiftI_down hd hv'.out, hkp]; rfl
        have hz' := hide hz
        have hkp' := hide hkp
        have hkq' := hide hkq
        clear hz hkp hkq
        go_wp2_with (first
          | (go_at_call 51; have _t := tok1; refine (sBare_any ku nu us U cu d _ (by omega) hsu'.out (by omega) (hru.below hF1.hb)).mono ?_; rw [hkq'.out]; rintro e w2 ⟨rfl, hb2⟩; have hF2 := hF1.below hb2; clear x0 x1 x2 y0 y1 y2; obtain ⟨x0, x1, x2⟩ := hF2.h0.three; obtain ⟨y0, y1, y2⟩ := hF2.h1.three; obtain ⟨d0, d1, d2⟩ := hF2.h2.three; have e0 := hF2.h2.frozen 0; have e1 := hF2.h2.frozen 1; have e2 := hF2.h2.frozen 2)
          | (go_at_call 51; refine (sBare_any k n ks A c d _ (by omega) hsa'.out (by omega) (hr.below hF.hb)).mono ?_; rw [hkp'.out]; rintro e w1 ⟨rfl, hb1⟩; have hF1 := hF.below hb1; clear x0 x1 x2 y0 y1 y2; obtain ⟨x0, x1, x2⟩ := hF1.h0.three; obtain ⟨y0, y1, y2⟩ := hF1.h1.three; have tok1 := trivial))
        refine bodyPost_ret (v := (.tuple #[.agg #[.int .i64 0, .int .i64 0, .slice none 0 0], .slice L l.length cl, .slice R l.length cr, .bool false])) ?_ rfl ?_
        · simp [results, Try.results22, go_sem, d0, d1, d2]
        · rw [hcmz.out, hz'.out]
          exact ⟨⟨_, _, rfl⟩, ((hF2.hb.setCell (by simp; omega) _).setCell (by simp; omega) _).setCell (by simp; omega) _⟩
      | true =>
        have hz : holeOf holeS d (.mk k n ks) (.mk ku nu us) (l, r) = (match idx2 (shS (-d) 0 (.mk k n ks)) (shS (-d) 0 (.mk ku nu us)) l r with | some i => some (holeS i, (l, r)) | none => some (holeS l.length, (l ++ [shS (-d) 0 (.mk k n ks)], r ++ [shS (-d) 0 (.mk ku nu us)]))) := by
          rw [holeOf, shiftI_down hd hvu'.out, hkq, shiftI_down hd hv'.out, hkp]; rfl
        rw [shS, shS] at hz
        obtain ⟨nx, hnx⟩ : ∃ nx, (if k = 1 ∧ 0 ≤ n then n + -d else n) = nx := ⟨_, rfl⟩
        obtain ⟨ny, hny⟩ : ∃ ny, (if ku = 1 ∧ 0 ≤ nu then nu + -d else nu) = ny := ⟨_, rfl⟩
        obtain ⟨X, hX⟩ : ∃ X, shSL (-d) k 0 0 ks = X := ⟨_, rfl⟩
        obtain ⟨Y, hY⟩ : ∃ Y, shSL (-d) ku 0 0 us = Y := ⟨_, rfl⟩
        rw [hnx, hny, hX, hY] at hz
        have hz' := hide hz
        have hnx' := hide hnx
        have hny' := hide hny
        have hX' := hide hX
        have hY' := hide hY
        have hkp' := hide hkp
        have hkq' := hide hkq
        clear hz hnx hny hkp hkq hX hY
        go_wp2_with (first
          | (go_at_call 52; have _t := tok3; refine (sShift_any _ ku nu us U cu (-d) 0 30 _ (Nat.lt_succ_self _) (by omega) hsu'.out (by omega) (by omega) (by omega) ((hru.below hF3.hb).alloc _)).mono ?_; rw [hny'.out, hY'.out]; rintro e w4 ⟨A4, c4, rfl, hl4, hf4, hb4⟩; have hF4 := (hF3.alloc (.cells #[.int .i64 k, .int .i64 nx, .slice A3 X.length c3] 28)).below hb4; have hX4 := (Blk.new_ w3 28 #[.int .i64 k, .int .i64 nx, .slice A3 X.length c3] rfl).keep hb4; have rX4 := (rX3.alloc (.cells #[.int .i64 k, .int .i64 nx, .slice A3 X.length c3] 28)).below hb4; have rY4 : RdP (fun b => w.heap.size + 3 ≤ b) w4 A4 0 Y := (Fresh.rdp hf4).mono (fun b hb => by have := hF3.size; simp at hb; omega))
          | (go_at_call 52; have _t := tok2; refine (sShift_any _ k n ks A c (-d) 0 30 _ (Nat.lt_succ_self _) (by omega) hsa'.out (by omega) (by omega) (by omega) (hr.below hF2.hb)).mono ?_; rw [hnx'.out, hX'.out]; rintro e w3 ⟨A3, c3, rfl, hl3, hf3, hb3⟩; have hF3 := hF2.below hb3; have rX3 : RdP (fun b => w.heap.size + 3 ≤ b) w3 A3 0 X := (Fresh.rdp hf3).mono (fun b hb => by have := hF2.size; omega); clear x0 x1 x2 y0 y1 y2; obtain ⟨y0, y1, y2⟩ := hF3.h1.three; have l3 := hF3.size; have l3' : w.heap.size + 1 < w3.heap.size := (by omega); have tok3 := trivial)
          | (go_at_call 51; have _t := tok1; refine (sBare_any ku nu us U cu d _ (by omega) hsu'.out (by omega) (hru.below hF1.hb)).mono ?_; rw [hkq'.out]; rintro e w2 ⟨rfl, hb2⟩; have hF2 := hF1.below hb2; clear x0 x1 x2 y0 y1 y2; obtain ⟨x0, x1, x2⟩ := hF2.h0.three; obtain ⟨y0, y1, y2⟩ := hF2.h1.three; have tok2 := trivial)
          | (go_at_call 51; refine (sBare_any k n ks A c d _ (by omega) hsa'.out (by omega) (hr.below hF.hb)).mono ?_; rw [hkp'.out]; rintro e w1 ⟨rfl, hb1⟩; have hF1 := hF.below hb1; clear x0 x1 x2 y0 y1 y2; obtain ⟨x0, x1, x2⟩ := hF1.h0.three; obtain ⟨y0, y1, y2⟩ := hF1.h1.three; have tok1 := trivial))
        refine name_world ?_
        intro wx hwx
        have hFx : Fr w k n ks A c ku nu us U cu wx := by rw [hwx]; exact hF4.alloc _
        have hXx : Blk wx w3.heap.size #[.int .i64 k, .int .i64 nx, .slice A3 X.length c3] := by rw [hwx]; exact hX4.alloc _
        have hYx : Blk wx w4.heap.size #[.int .i64 ku, .int .i64 ny, .slice A4 Y.length c4] := by rw [hwx]; exact Blk.new_ _ _ _ rfl
        have rXx : RdP (fun b => w.heap.size + 3 ≤ b) wx A3 0 X := by rw [hwx]; exact rX4.alloc _
        have rYx : RdP (fun b => w.heap.size + 3 ≤ b) wx A4 0 Y := by rw [hwx]; exact rY4.alloc _
        have l3 := hF3.size
        have l4 := hF4.size
        clear hwx y0 y1 y2 hX4 rX4 rY4 hF4 hF3 rX3 hF2 hF1 hF
        go_loopw [22] (fun i wr => ∃ (j : Nat), j ≤ l.length ∧ i = .int .i64 j ∧ (∀ i, i < j → bothAt (.mk k nx X) (.mk ku ny Y) l r i = false) ∧ Below wx.heap.size wx wr) (fun i _ => l.length - (intOf i).toNat)
        case atStart => exact ⟨0, Nat.zero_le _, rfl, fun i hi => absurd hi (Nat.not_lt_zero _), Below.refl _ _⟩
        case round =>
          obtain ⟨j, hj, rfl, hall, hbq⟩ := hrel
          have hall' := hide hall
          clear hall
          replace hXx := hXx.keep hbq
          replace hYx := hYx.keep hbq
          replace hFx := hFx.below hbq
          replace rXx := rXx.below hbq
          replace rYx := rYx.below hbq
          have rX := rXx.rd
          have rY := rYx.rd
          have t5 := hbq.size
          have hsz := hFx.size
          have qL := hrL.below hFx.hb
          have qR := hrR.below hFx.hb
          have rdL := qL.rd
          have rdR := qR.rd
          obtain ⟨x0, x1, x2⟩ := hXx.three
          obtain ⟨y0, y1, y2⟩ := hYx.three
          by_cases hlt : j < l.length
          · obtain ⟨b1, o1, k1, n1, ks1, A1, c1, rfl, hk1, v0, v1, v2, hl1, hr1⟩ := rdL.at_ hlt
            obtain ⟨b2, o2, k2, n2, ks2, A2, c2, rfl, hk2, z0, z1, z2, hl2, hr2⟩ := rdR.at_ (j := j) (by omega)
            have hba : bothAt (.mk k nx X) (.mk ku ny Y) l r j = (tmEq (.mk k1 n1 ks1) (.mk k nx X) && tmEq (.mk k2 n2 ks2) (.mk ku ny Y)) := by rw [bothAt, getD_at hlt hk1, getD_at (by omega) hk2]
            obtain ⟨tq1, ht1⟩ : ∃ tq1, tmEq (.mk k1 n1 ks1) (.mk k nx X) = tq1 := ⟨_, rfl⟩
            obtain ⟨tq2, ht2⟩ : ∃ tq2, tmEq (.mk k2 n2 ks2) (.mk ku ny Y) = tq2 := ⟨_, rfl⟩
            rw [ht1, ht2] at hba
            have hba' := hide hba
            have hlj : (j : Int) < (l.length : Int) := by omega
            have lX := hXx.lt
            have lY := hYx.lt
            have sm1 : ∀ w', Below wr.heap.size wr w' → Calls Try.prog 53 #[.agg #[.int .i64 k1, .int .i64 n1, .slice A1 ks1.length c1], .agg #[.int .i64 k, .int .i64 nx, .slice A3 X.length c3]] w' fun e w'' => e = .returned (.bool tq1) ∧ Below w'.heap.size w' w'' := fun w' hw' => by rw [← ht1]; exact sSame_any _ k1 n1 ks1 A1 c1 k nx X A3 c3 w' (Nat.lt_succ_self _) hl1 hl3 (hr1.below hw') (rX.below hw')
            have sm2 : ∀ w', Below wr.heap.size wr w' → Calls Try.prog 53 #[.agg #[.int .i64 k2, .int .i64 n2, .slice A2 ks2.length c2], .agg #[.int .i64 ku, .int .i64 ny, .slice A4 Y.length c4]] w' fun e w'' => e = .returned (.bool tq2) ∧ Below w'.heap.size w' w'' := fun w' hw' => by rw [← ht2]; exact sSame_any _ k2 n2 ks2 A2 c2 ku ny Y A4 c4 w' (Nat.lt_succ_self _) hl2 hl4 (hr2.below hw') (rY.below hw')
            clear hk1 hk2 hba ht1 ht2
            cases tq1 with
            | false =>
              go_wp2_with fail
              have y0 := hYx.rule (i := 0) rfl
              have y1 := hYx.rule (i := 1) rfl
              have y2 := hYx.rule (i := 2) rfl
              have x0 := hXx.rule (i := 0) rfl
              have x1 := hXx.rule (i := 1) rfl
              have x2 := hXx.rule (i := 2) rfl
              have v0' := rule_of v0
              have v1' := rule_of v1
              have v2' := rule_of v2
              have z0' := rule_of z0
              have z1' := rule_of z1
              have z2' := rule_of z2
              refine wp_region_class (fun w' => Below wr.heap.size wr w') (by kernel_rfl) (by kernel_rfl) (Below.refl _ _).drew ?_
              repeat (first | ((refine quiet_skip (a' := ?_) ?_ ?_ ?_); (rotate_left); (· (simp [Region.wanted, yielded]; done)); (· (simp only [List.getElem_toArray, List.getElem_cons_zero, List.getElem_cons_succ, Act.put, List.setIfInBounds_toArray, List.set_cons_zero, List.set_cons_succ]; exact rfl))) | ((refine quiet_one (v := ?_) (a' := ?_) ?_ ?_ ?_ ?_); (rotate_left 2); (· (simp [Region.wanted, yielded]; done)); (· (intro w' hS'; go_simp; try (with_reducible rfl))); (· (simp only [List.getElem_toArray, List.getElem_cons_zero, List.getElem_cons_succ, Act.put, List.setIfInBounds_toArray, List.set_cons_zero, List.set_cons_succ]; exact rfl))) | ((refine quiet_below (v := ?_) (a' := ?_) 53 ?_ ?_ ?_ ?_ ?_ ?_); (rotate_left 3); (· (simp [Region.wanted, yielded]; done)); (· (intro w' hS'; go_simp; try (with_reducible rfl))); (· (intro w' hS'; with_reducible exact sm1 w' hS')); (· (simp only [List.getElem_toArray, List.getElem_cons_zero, List.getElem_cons_succ, Act.put, List.setIfInBounds_toArray, List.set_cons_zero, List.set_cons_succ]; exact rfl))) | ((refine quiet_below (v := ?_) (a' := ?_) 53 ?_ ?_ ?_ ?_ ?_ ?_); (rotate_left 3); (· (simp [Region.wanted, yielded]; done)); (· (intro w' hS'; go_simp; try (with_reducible rfl))); (· (intro w' hS'; with_reducible exact sm2 w' hS')); (· (simp only [List.getElem_toArray, List.getElem_cons_zero, List.getElem_cons_succ, Act.put, List.setIfInBounds_toArray, List.set_cons_zero, List.set_cons_succ]; exact rfl))))
              refine quiet_nil ?_
              intro wa hx1
              clear x0 x1 x2 y0 y1 y2 v0' v1' v2' z0' z1' z2'
              go_wp2_with fail
              go_roundw
              case rel => exact ⟨j + 1, hlt, by go_num, all_succ hall'.out hba'.out, hbq.trans (hx1.mono hbq.size)⟩
              case measure => simp [intOf]; omega
            | true =>
              cases tq2 with
              | false =>
                go_wp2_with fail
                have y0 := hYx.rule (i := 0) rfl
                have y1 := hYx.rule (i := 1) rfl
                have y2 := hYx.rule (i := 2) rfl
                have x0 := hXx.rule (i := 0) rfl
                have x1 := hXx.rule (i := 1) rfl
                have x2 := hXx.rule (i := 2) rfl
                have v0' := rule_of v0
                have v1' := rule_of v1
                have v2' := rule_of v2
                have z0' := rule_of z0
                have z1' := rule_of z1
                have z2' := rule_of z2
                refine wp_region_class (fun w' => Below wr.heap.size wr w') (by kernel_rfl) (by kernel_rfl) (Below.refl _ _).drew ?_
                repeat (first | ((refine quiet_skip (a' := ?_) ?_ ?_ ?_); (rotate_left); (· (simp [Region.wanted, yielded]; done)); (· (simp only [List.getElem_toArray, List.getElem_cons_zero, List.getElem_cons_succ, Act.put, List.setIfInBounds_toArray, List.set_cons_zero, List.set_cons_succ]; exact rfl))) | ((refine quiet_one (v := ?_) (a' := ?_) ?_ ?_ ?_ ?_); (rotate_left 2); (· (simp [Region.wanted, yielded]; done)); (· (intro w' hS'; go_simp; try (with_reducible rfl))); (· (simp only [List.getElem_toArray, List.getElem_cons_zero, List.getElem_cons_succ, Act.put, List.setIfInBounds_toArray, List.set_cons_zero, List.set_cons_succ]; exact rfl))) | ((refine quiet_below (v := ?_) (a' := ?_) 53 ?_ ?_ ?_ ?_ ?_ ?_); (rotate_left 3); (· (simp [Region.wanted, yielded]; done)); (· (intro w' hS'; go_simp; try (with_reducible rfl))); (· (intro w' hS'; with_reducible exact sm1 w' hS')); (· (simp only [List.getElem_toArray, List.getElem_cons_zero, List.getElem_cons_succ, Act.put, List.setIfInBounds_toArray, List.set_cons_zero, List.set_cons_succ]; exact rfl))) | ((refine quiet_below (v := ?_) (a' := ?_) 53 ?_ ?_ ?_ ?_ ?_ ?_); (rotate_left 3); (· (simp [Region.wanted, yielded]; done)); (· (intro w' hS'; go_simp; try (with_reducible rfl))); (· (intro w' hS'; with_reducible exact sm2 w' hS')); (· (simp only [List.getElem_toArray, List.getElem_cons_zero, List.getElem_cons_succ, Act.put, List.setIfInBounds_toArray, List.set_cons_zero, List.set_cons_succ]; exact rfl))))
                refine quiet_nil ?_
                intro wa hx1
                clear x0 x1 x2 y0 y1 y2 v0' v1' v2' z0' z1' z2'
                go_wp2_with fail
                go_roundw
                case rel => exact ⟨j + 1, hlt, by go_num, all_succ hall'.out hba'.out, hbq.trans (hx1.mono hbq.size)⟩
                case measure => simp [intOf]; omega
              | true =>
                go_wp2_with fail
                have y0 := hYx.rule (i := 0) rfl
                have y1 := hYx.rule (i := 1) rfl
                have y2 := hYx.rule (i := 2) rfl
                have x0 := hXx.rule (i := 0) rfl
                have x1 := hXx.rule (i := 1) rfl
                have x2 := hXx.rule (i := 2) rfl
                have v0' := rule_of v0
                have v1' := rule_of v1
                have v2' := rule_of v2
                have z0' := rule_of z0
                have z1' := rule_of z1
                have z2' := rule_of z2
                refine wp_region_class (fun w' => Below wr.heap.size wr w') (by kernel_rfl) (by kernel_rfl) (Below.refl _ _).drew ?_
                repeat (first | ((refine quiet_skip (a' := ?_) ?_ ?_ ?_); (rotate_left); (· (simp [Region.wanted, yielded]; done)); (· (simp only [List.getElem_toArray, List.getElem_cons_zero, List.getElem_cons_succ, Act.put, List.setIfInBounds_toArray, List.set_cons_zero, List.set_cons_succ]; exact rfl))) | ((refine quiet_one (v := ?_) (a' := ?_) ?_ ?_ ?_ ?_); (rotate_left 2); (· (simp [Region.wanted, yielded]; done)); (· (intro w' hS'; go_simp; try (with_reducible rfl))); (· (simp only [List.getElem_toArray, List.getElem_cons_zero, List.getElem_cons_succ, Act.put, List.setIfInBounds_toArray, List.set_cons_zero, List.set_cons_succ]; exact rfl))) | ((refine quiet_below (v := ?_) (a' := ?_) 53 ?_ ?_ ?_ ?_ ?_ ?_); (rotate_left 3); (· (simp [Region.wanted, yielded]; done)); (· (intro w' hS'; go_simp; try (with_reducible rfl))); (· (intro w' hS'; with_reducible exact sm1 w' hS')); (· (simp only [List.getElem_toArray, List.getElem_cons_zero, List.getElem_cons_succ, Act.put, List.setIfInBounds_toArray, List.set_cons_zero, List.set_cons_succ]; exact rfl))) | ((refine quiet_below (v := ?_) (a' := ?_) 53 ?_ ?_ ?_ ?_ ?_ ?_); (rotate_left 3); (· (simp [Region.wanted, yielded]; done)); (· (intro w' hS'; go_simp; try (with_reducible rfl))); (· (intro w' hS'; with_reducible exact sm2 w' hS')); (· (simp only [List.getElem_toArray, List.getElem_cons_zero, List.getElem_cons_succ, Act.put, List.setIfInBounds_toArray, List.set_cons_zero, List.set_cons_succ]; exact rfl))))
                refine quiet_nil ?_
                intro wa hx1
                clear x0 x1 x2 y0 y1 y2 v0' v1' v2' z0' z1' z2'
                have hF9 := hFx.below hx1
                go_wp2_with (go_at_call 54; refine (sLeaf_any _ _ _).mono ?_; rintro e w9 ⟨rfl, hb9⟩; replace hF9 := hF9.below hb9; obtain ⟨d0, d1, d2⟩ := hF9.h2.three; have e0 := hF9.h2.frozen 0; have e1 := hF9.h2.frozen 1; have e2 := hF9.h2.frozen 2)
                have hi2 := idx2_some (x := .mk k nx X) (y := .mk ku ny Y) (l := l) (r := r) hrl hall'.out hlt hba'.out
                have qL9 := (qL.below hx1).below hb9
                have qR9 := (qR.below hx1).below hb9
                refine bodyPost_ret (v := .tuple #[.agg #[.int .i64 1, .int .i64 (100 + j), .slice none 0 0], .slice (some ⟨b1, o1, none⟩) l.length cl, .slice (some ⟨b2, o2, none⟩) l.length cr, .bool true]) ?_ rfl ?_
                · simp [results, Try.results22, go_sem, d0, d1, d2]
                · rw [hcmz.out, hz'.out, hi2]
                  have hnp : ¬ p (w.heap.size + 1 + 1) := fun h => by have := hps _ h; omega
                  refine cmS_mk ⟨none, 0, _, _, _, _, rfl, by simp, RdP.nil, ?_, ?_, ((hF9.hb.setCell (by simp; omega) _).setCell (by simp; omega) _).setCell (by simp; omega) _⟩
                  · exact (((qL9.setCell hnp _).setCell hnp _).setCell hnp _).mono (fun b h => .inl h)
                  · exact (((qR9.setCell hnp _).setCell hnp _).setCell hnp _).mono (fun b h => .inl h)
          · have hjl : j = l.length := by omega
            subst hjl
            have hi2 := hide (idx2_none (x := .mk k nx X) (y := .mk ku ny Y) (l := l) (r := r) hrl hall'.out)
            clear hall'
            go_wp2_with fail
            have lWd : wr.drew.heap.size = wr.heap.size := rfl
            obtain ⟨x0, x1, x2⟩ := hXx.three
            have hSof := hide (show ∀ w' : World, Below wr.heap.size wr w' → (fun w' => w'.cell? ⟨w3.heap.size, 0, none⟩ = some (.int .i64 k) ∧ w'.cell? ⟨w3.heap.size, 1, none⟩ = some (.int .i64 nx) ∧ w'.cell? ⟨w3.heap.size, 2, none⟩ = some (.slice A3 X.length c3)) w' from fun w' hb => ⟨Keeps.of_below hb _ _ x0, Keeps.of_below hb _ _ x1, Keeps.of_below hb _ _ x2⟩)
            have hbs := hFx.size
            go_cut [23] (fun s wz => ∃ A6 c6, s = .slice A6 (l.length + 1) c6 ∧ RdP (fun b => p b ∨ w.heap.size + 3 ≤ b) wz A6 0 (l ++ [.mk k nx X]) ∧ Below wr.heap.size wr wz)
            case first =>
              go_region_held3 (fun w' => w'.cell? ⟨w3.heap.size, 0, none⟩ = some (.int .i64 k) ∧ w'.cell? ⟨w3.heap.size, 1, none⟩ = some (.int .i64 nx) ∧ w'.cell? ⟨w3.heap.size, 2, none⟩ = some (.slice A3 X.length c3)) (((refine hSof.out _ ?_); ((with_reducible (repeat (first | exact B6 | exact B5 | exact by_refl _ | refine by_alloc ?_ _ | refine by_drew ?_))) <;> fail))) (first
                | (refine name_step ?_; intro wx hwx; have _t := tk1; have Bx : Below wr.heap.size wr wx := (by rw [hwx]; with_reducible (repeat (first | exact B6 | exact B5 | exact by_refl _ | refine by_alloc ?_ _ | refine by_drew ?_))); have hPx : PartR (fun b => p b ∨ (w.heap.size + 3 ≤ b ∧ b < wr.heap.size)) g wx (.slice A5 l.length c5) l := (by rw [hwx]; with_reducible (repeat (first | exact hP5 | refine PartR.alloc ?_ _ | refine PartR.drew ?_))); have ho := hPx.own_ge; have lgx : g ≤ wx.heap.size := (by have h5 : w5.heap.size ≤ wx.heap.size := (by rw [hwx]; first | exact Nat.le_refl _ | (simp; done)); omega); refine step_append_rdW (q := fun b => w.heap.size + 3 ≤ b ∧ b < wr.heap.size) (k := k) (n := nx) (ks := X) (A := A3) (c := c3) hPx lgx ((rdp_ltC.2 _ _ _ rXx).below Bx) (fun b hb => ⟨.inl (.inr hb), by have := Bx.size; omega, fun e => by have := (ho b e).1; omega⟩) hl3 rfl (by omega) _ 1 (by rw [hwx]; first | exact hR | exact Blk.new_ _ 28 _ rfl) rfl _ _ rfl rfl rfl ?_; intro A6 c6 w6 hP6 hb6 hg6 ho6; have B6 : Below wr.heap.size wr w6 := Bx.trans (hb6.mono lg); clear hwx Bx hPx ho ho6)
                | (refine name_step ?_; intro wx hwx; have Bx : Below wr.heap.size wr wx := (by rw [hwx]; with_reducible (repeat (first | exact B6 | exact B5 | exact by_refl _ | refine by_alloc ?_ _ | refine by_drew ?_))); (first | (refine (fun (hE : EmpR wx (wr.heap.size)) => ?_) ?_; rotate_left; (rw [hwx]; ((repeat (first | ((with_reducible refine EmpR.new _ ?_); (first | rfl | (simp [lWd] <;> fail))) | (with_reducible refine EmpR.drew ?_) | (with_reducible refine EmpR.alloc ?_ _))) <;> fail)); obtain ⟨g, hgd⟩ : ∃ g, g = wr.heap.size := ⟨_, rfl⟩) | (refine (fun (hE : EmpR wx (wr.heap.size + 1)) => ?_) ?_; rotate_left; (rw [hwx]; ((repeat (first | ((with_reducible refine EmpR.new _ ?_); (first | rfl | (simp [lWd] <;> fail))) | (with_reducible refine EmpR.drew ?_) | (with_reducible refine EmpR.alloc ?_ _))) <;> fail)); obtain ⟨g, hgd⟩ : ∃ g, g = wr.heap.size + 1 := ⟨_, rfl⟩)); (first | (refine (fun (hRx : Blk wx (wr.heap.size) #[.int .i64 k, .int .i64 nx, .slice A3 X.length c3]) => ?_) ?_; rotate_left; (rw [hwx]; ((repeat (first | ((with_reducible refine Blk.new_ _ 28 _ ?_); (first | rfl | (simp [lWd] <;> fail))) | (with_reducible refine Blk.drew ?_) | (with_reducible refine Blk.alloc ?_ _))) <;> fail))) | (refine (fun (hRx : Blk wx (wr.heap.size + 1) #[.int .i64 k, .int .i64 nx, .slice A3 X.length c3]) => ?_) ?_; rotate_left; (rw [hwx]; ((repeat (first | ((with_reducible refine Blk.new_ _ 28 _ ?_); (first | rfl | (simp [lWd] <;> fail))) | (with_reducible refine Blk.drew ?_) | (with_reducible refine Blk.alloc ?_ _))) <;> fail))) | skip); have lE := hE.lt; refine step_append_listR (p := (fun b => p b ∨ (w.heap.size + 3 ≤ b ∧ b < wr.heap.size))) (l := l) (m := l.length) hE (qL.below Bx |>.mono (fun b hb => .inl hb)) (fun b hb => by have h2 := Bx.size; rcases hb with hb | hb; (have := hps b hb; exact ⟨by omega, by omega⟩); exact ⟨by omega, by omega⟩) rfl (by omega) rfl _ _ rfl rfl rfl ?_; intro A5 c5 w5 hP5 hg5; have B5 : Below wr.heap.size wr w5 := by_grown Bx hg5 (by omega); (try (have hR := hRx.grown hg5 (fun e => absurd (Option.some.inj e) (by omega)))); (try clear hRx); clear hwx Bx; replace hP5 : PartR (fun b => p b ∨ (w.heap.size + 3 ≤ b ∧ b < wr.heap.size)) g w5 (.slice A5 l.length c5) l := (by rw [hgd]; exact hP5); have lg : wr.heap.size ≤ g := (by omega); have s5 := B5.size; have lg5 := hg5.size; have tk1 := trivial))
              all_goals
                go_wp2_with fail
                go_meet
                obtain ⟨A9, c9, e9, hr9⟩ := hP6.rd
                injection e9 with e1 e2 e3
                subst e1
                exact ⟨A6, c6, rfl, hr9.mono (fun b hb => by rcases hb with (hb | hb) | hb; exact .inl hb; exact .inr hb.1; exact .inr (by omega)), B6⟩
            case rest =>
              obtain ⟨A23, c23, rfl, r23, hb23⟩ := hcut
              rename_i wy
              replace hFx := hFx.below hb23
              replace qR := qR.below hb23
              replace rYx := rYx.below hb23
              replace hYx := hYx.keep hb23
              clear hSof x0 x1 x2 y0 y1 y2 lWd qL rX rY rXx hXx hbs hbq t5
              have lwy := hb23.size
              go_wp2_with fail
              have lWd : wc.drew.heap.size = wc.heap.size := rfl
              obtain ⟨x0, x1, x2⟩ := hYx.three
              have hSof := hide (show ∀ w' : World, Below wc.heap.size wc w' → (fun w' => w'.cell? ⟨w4.heap.size, 0, none⟩ = some (.int .i64 ku) ∧ w'.cell? ⟨w4.heap.size, 1, none⟩ = some (.int .i64 ny) ∧ w'.cell? ⟨w4.heap.size, 2, none⟩ = some (.slice A4 Y.length c4)) w' from fun w' hb => ⟨Keeps.of_below hb _ _ x0, Keeps.of_below hb _ _ x1, Keeps.of_below hb _ _ x2⟩)
              have hbs := hFx.size
              go_cut [24] (fun s wz => ∃ A6 c6, s = .slice A6 (l.length + 1) c6 ∧ RdP (fun b => p b ∨ w.heap.size + 3 ≤ b) wz A6 0 (r ++ [.mk ku ny Y]) ∧ Below wc.heap.size wc wz)
              case first =>
                go_region_held3 (fun w' => w'.cell? ⟨w4.heap.size, 0, none⟩ = some (.int .i64 ku) ∧ w'.cell? ⟨w4.heap.size, 1, none⟩ = some (.int .i64 ny) ∧ w'.cell? ⟨w4.heap.size, 2, none⟩ = some (.slice A4 Y.length c4)) (((refine hSof.out _ ?_); ((with_reducible (repeat (first | exact B6 | exact B5 | exact by_refl _ | refine by_alloc ?_ _ | refine by_drew ?_))) <;> fail))) (first
                  | (refine name_step ?_; intro wx hwx; have _t := tk1; have Bx : Below wc.heap.size wc wx := (by rw [hwx]; with_reducible (repeat (first | exact B6 | exact B5 | exact by_refl _ | refine by_alloc ?_ _ | refine by_drew ?_))); have hPx : PartR (fun b => p b ∨ (w.heap.size + 3 ≤ b ∧ b < wc.heap.size)) g wx (.slice A5 l.length c5) r := (by rw [hwx]; with_reducible (repeat (first | exact hP5 | refine PartR.alloc ?_ _ | refine PartR.drew ?_))); have ho := hPx.own_ge; have lgx : g ≤ wx.heap.size := (by have h5 : w5.heap.size ≤ wx.heap.size := (by rw [hwx]; first | exact Nat.le_refl _ | (simp; done)); omega); refine step_append_rdW (q := fun b => w.heap.size + 3 ≤ b ∧ b < wc.heap.size) (k := ku) (n := ny) (ks := Y) (A := A4) (c := c4) hPx lgx ((rdp_ltC.2 _ _ _ rYx).below Bx) (fun b hb => ⟨.inl (.inr hb), by have := Bx.size; omega, fun e => by have := (ho b e).1; omega⟩) hl4 hrl (by omega) _ 1 (by rw [hwx]; first | exact hR | exact Blk.new_ _ 28 _ rfl) rfl _ _ rfl rfl rfl ?_; intro A6 c6 w6 hP6 hb6 hg6 ho6; have B6 : Below wc.heap.size wc w6 := Bx.trans (hb6.mono lg); clear hwx Bx hPx ho ho6)
                  | (refine name_step ?_; intro wx hwx; have Bx : Below wc.heap.size wc wx := (by rw [hwx]; with_reducible (repeat (first | exact B6 | exact B5 | exact by_refl _ | refine by_alloc ?_ _ | refine by_drew ?_))); (first | (refine (fun (hE : EmpR wx (wc.heap.size)) => ?_) ?_; rotate_left; (rw [hwx]; ((repeat (first | ((with_reducible refine EmpR.new _ ?_); (first | rfl | (simp [lWd] <;> fail))) | (with_reducible refine EmpR.drew ?_) | (with_reducible refine EmpR.alloc ?_ _))) <;> fail)); obtain ⟨g, hgd⟩ : ∃ g, g = wc.heap.size := ⟨_, rfl⟩) | (refine (fun (hE : EmpR wx (wc.heap.size + 1)) => ?_) ?_; rotate_left; (rw [hwx]; ((repeat (first | ((with_reducible refine EmpR.new _ ?_); (first | rfl | (simp [lWd] <;> fail))) | (with_reducible refine EmpR.drew ?_) | (with_reducible refine EmpR.alloc ?_ _))) <;> fail)); obtain ⟨g, hgd⟩ : ∃ g, g = wc.heap.size + 1 := ⟨_, rfl⟩)); (first | (refine (fun (hRx : Blk wx (wc.heap.size) #[.int .i64 ku, .int .i64 ny, .slice A4 Y.length c4]) => ?_) ?_; rotate_left; (rw [hwx]; ((repeat (first | ((with_reducible refine Blk.new_ _ 28 _ ?_); (first | rfl | (simp [lWd] <;> fail))) | (with_reducible refine Blk.drew ?_) | (with_reducible refine Blk.alloc ?_ _))) <;> fail))) | (refine (fun (hRx : Blk wx (wc.heap.size + 1) #[.int .i64 ku, .int .i64 ny, .slice A4 Y.length c4]) => ?_) ?_; rotate_left; (rw [hwx]; ((repeat (first | ((with_reducible refine Blk.new_ _ 28 _ ?_); (first | rfl | (simp [lWd] <;> fail))) | (with_reducible refine Blk.drew ?_) | (with_reducible refine Blk.alloc ?_ _))) <;> fail))) | skip); have lE := hE.lt; refine step_append_listR (p := (fun b => p b ∨ (w.heap.size + 3 ≤ b ∧ b < wc.heap.size))) (l := r) (m := l.length) hE (qR.below Bx |>.mono (fun b hb => .inl hb)) (fun b hb => by have h2 := Bx.size; rcases hb with hb | hb; (have := hps b hb; exact ⟨by omega, by omega⟩); exact ⟨by omega, by omega⟩) hrl (by omega) rfl _ _ rfl rfl rfl ?_; intro A5 c5 w5 hP5 hg5; have B5 : Below wc.heap.size wc w5 := by_grown Bx hg5 (by omega); (try (have hR := hRx.grown hg5 (fun e => absurd (Option.some.inj e) (by omega)))); (try clear hRx); clear hwx Bx; replace hP5 : PartR (fun b => p b ∨ (w.heap.size + 3 ≤ b ∧ b < wc.heap.size)) g w5 (.slice A5 l.length c5) r := (by rw [hgd]; exact hP5); have lg : wc.heap.size ≤ g := (by omega); have s5 := B5.size; have lg5 := hg5.size; have tk1 := trivial))
                all_goals
                  go_wp2_with fail
                  go_meet
                  obtain ⟨A9, c9, e9, hr9⟩ := hP6.rd
                  injection e9 with e1 e2 e3
                  subst e1
                  exact ⟨A6, c6, rfl, hr9.mono (fun b hb => by rcases hb with (hb | hb) | hb; exact .inl hb; exact .inr hb.1; exact .inr (by omega)), B6⟩
              case rest =>
                obtain ⟨A24, c24, rfl, r24, hb24⟩ := hcut
                have hF9 := hFx.below hb24
                have q23 := r23.below hb24
                clear hSof x0 x1 x2
                go_wp2_with (go_at_call 54; refine (sLeaf_any _ _ _).mono ?_; rintro e w9 ⟨rfl, hb9⟩; have hF10 := hF9.below hb9; obtain ⟨d0, d1, d2⟩ := hF10.h2.three; have e0 := hF10.h2.frozen 0; have e1 := hF10.h2.frozen 1; have e2 := hF10.h2.frozen 2)
                have p23 := q23.below hb9
                have p24 := r24.below hb9
                have hnp : ¬ (p (w.heap.size + 1 + 1) ∨ w.heap.size + 3 ≤ w.heap.size + 1 + 1) := fun h => h.elim (fun h => by have := hps _ h; omega) (fun h => by omega)
                refine bodyPost_ret (v := .tuple #[.agg #[.int .i64 1, .int .i64 (100 + l.length), .slice none 0 0], .slice A23 (l.length + 1) c23, .slice A24 (l.length + 1) c24, .bool true]) ?_ rfl ?_
                · simp [results, Try.results22, go_sem, d0, d1, d2]
                · rw [hcmz.out, hz'.out, hi2.out]
                  refine cmS_mk ⟨none, 0, A23, c23, A24, c24, by simp, by simp, RdP.nil, ?_, ?_, ((hF10.hb.setCell (by simp; omega) _).setCell (by simp; omega) _).setCell (by simp; omega) _⟩
                  · exact (((p23.setCell hnp _).setCell hnp _).setCell hnp _).mono (fun b h => h.imp id (fun h => by omega))
                  · exact (((p24.setCell hnp _).setCell hnp _).setCell hnp _).mono (fun b h => h.imp id (fun h => by omega))
end Go.Proofs.Ytgmljpmnfncceaa
