/-
  Contracts of the functions that the law reaches, and plain lemmas. No condition.
-/
import Derived.Test.YtodkenpmhhbppaaK2
import Derived.Test.YtodkenpmhhbppaaK3
import Derived.Test.YtodkenpmhhbppaaK10
import Derived.Test.YtodkenpmhhbppaaK11
import Derived.Test.YtodkenpmhhbppaaK12
import Derived.Test.YtodkenpmhhbppaaK13
import Derived.WalkSpells
import Derived.WalkLawsBesides
namespace Go.Proofs.Ytodkenpmhhbppaa
set_option linter.unusedSimpArgs false
set_option linter.unusedVariables false
open Go.RowKit
theorem getD_set (S : List Bool) (i j : Nat) (hi : i < S.length) : (S.set i true).getD j false = true ↔ S.getD j false = true ∨ j = i := by
  simp only [List.getD_eq_getElem?_getD, List.getElem?_set]
  by_cases h : i = j
  · subst h; simp [hi]
  · rw [if_neg h]
    constructor
    · exact .inl
    · rintro (h' | h')
      · exact h'
      · exact absurd h'.symm h
theorem mt_seen (m : Nat) (add : Int) (t : Tm) : ∀ (q : Nat) (d : Int) (u : Tm) (st : St), st.2.length = m → shape q t = true → (mt m add d t u st).1 = true → ∀ j, j < m → ((mt m add d t u st).2.2.getD j false = true ↔ st.2.getD j false = true ∨ 0 < cnV j d t) := by
  refine Tm.rec (motive_1 := fun t => ∀ (q : Nat) (d : Int) (u : Tm) (st : St), st.2.length = m → shape q t = true → (mt m add d t u st).1 = true → ∀ j, j < m → ((mt m add d t u st).2.2.getD j false = true ↔ st.2.getD j false = true ∨ 0 < cnV j d t))
    (motive_2 := fun ts => ∀ (q : Nat) (k d : Int) (i : Nat) (us : List Tm) (st : St), st.2.length = m → ts.length = us.length → (∀ t, t ∈ ts → shape q t = true) → (mtL m add k d i ts us st).1 = true → ∀ j, j < m → ((mtL m add k d i ts us st).2.2.getD j false = true ↔ st.2.getD j false = true ∨ 0 < cnVL j k d i ts)) ?_ ?_ ?_ t
  · intro k n ks ih q d u st hm h ht j hj
    obtain ⟨q', rfl, ha, h0, h1, hk⟩ := shape_pos h
    rw [mt] at ht ⊢
    rw [cnV]
    by_cases hh : k = 1 ∧ d ≤ n
    · rw [if_pos hh] at ht ⊢
      obtain ⟨rfl, hdn⟩ := hh
      have := var_nil ha
      subst this
      rw [cnVL]
      by_cases hlt : n < d + m
      · rw [if_pos hlt] at ht ⊢
        cases hs : shiftI (-d) 0 u with
        | none => rw [hs] at ht; cases ht
        | some low =>
          simp only [hs] at ht ⊢
          have hlm : (n - d).toNat < st.2.length := by omega
          by_cases hse : st.2.getD (n - d).toNat false = true
          · rw [if_pos hse]
            constructor
            · exact .inl
            · rintro (h' | h')
              · exact h'
              · by_cases hj2 : n - d = j
                · rw [show (n - d).toNat = j by omega] at hse; exact hse
                · rw [if_neg (by rintro ⟨-, -, h⟩; exact hj2 h)] at h'; omega
          · rw [if_neg hse]
            simp only
            rw [getD_set _ _ _ hlm]
            constructor
            · rintro (h' | h')
              · exact .inl h'
              · right; rw [if_pos ⟨trivial, hdn, by omega⟩]; omega
            · rintro (h' | h')
              · exact .inl h'
              · right
                by_cases hj2 : n - d = j
                · omega
                · rw [if_neg (by rintro ⟨-, -, h⟩; exact hj2 h)] at h'; omega
      · rw [if_neg hlt]
        constructor
        · exact .inl
        · rintro (h' | h')
          · exact h'
          · rw [if_neg (by rintro ⟨-, -, h⟩; omega)] at h'; omega
    · rw [if_neg hh] at ht ⊢
      rw [show (if k = 1 ∧ d ≤ n ∧ n - d = (j : Int) then 1 else 0) = 0 from if_neg (by rintro ⟨a, b, -⟩; exact hh ⟨a, b⟩), Nat.zero_add]
      by_cases hq : u.k = k ∧ u.n = n ∧ u.kids.length = ks.length
      · rw [if_pos hq] at ht ⊢
        exact ih q' k d 0 _ _ hm hq.2.2.symm hk ht j hj
      · rw [if_neg hq] at ht; cases ht
  · intro q k d i us st hm hl _ _ j hj
    simp [mtL, cnVL]
  · intro t ts h1 h2 q k d i us st hm hl hk ht j hj
    cases us with
    | nil => simp at hl
    | cons u us =>
      rw [mtL] at ht ⊢
      by_cases hb : (mt m add (d + under k i) t u st).1 = true
      · rw [if_pos hb] at ht ⊢
        have a := h1 q (d + under k i) u st hm (hk t List.mem_cons_self) hb j hj
        have b := h2 q k d (i + 1) us (mt m add (d + under k i) t u st).2 (by rw [(mt_length m add t _ u st).2]; exact hm) (by simpa using hl) (fun t ht => hk t (List.mem_cons_of_mem _ ht)) ht j hj
        rw [b, a, cnVL]
        constructor
        · rintro ((h | h) | h)
          · exact .inl h
          · right; omega
          · right; omega
        · rintro (h | h)
          · exact .inl (.inl h)
          · by_cases hz : 0 < cnV j (d + under k i) t
            · exact .inl (.inr hz)
            · right; omega
      · rw [if_neg hb] at ht; cases ht
/-- what matching answers in all -/
def mt0 (m : Nat) (add : Int) (p u : Tm) : Bool × St := mt m add 0 p u (List.replicate m zeroT, List.replicate m false)
def tryS (m : Nat) (add : Int) (p u : Tm) : Option (List Tm) := if (mt0 m add p u).1 = true ∧ (mt0 m add p u).2.2.all id = true then some (mt0 m add p u).2.1 else none
theorem all_getD (S : List Bool) : S.all id = true ↔ ∀ j, j < S.length → S.getD j false = true := by
  rw [List.all_eq_true]
  constructor
  · intro h j hj
    rw [List.getD_eq_getElem?_getD, List.getElem?_eq_getElem hj]
    exact h _ (List.getElem_mem hj)
  · intro h b hb
    obtain ⟨j, hj, rfl⟩ := List.getElem_of_mem hb
    have := h j hj
    rw [List.getD_eq_getElem?_getD, List.getElem?_eq_getElem hj] at this
    exact this
theorem seen_all {m : Nat} {add : Int} {p u : Tm} {q : Nat} (hs : shape q p = true) (ht : (mt0 m add p u).1 = true) : (mt0 m add p u).2.2.all id = true ↔ ∀ j : Nat, j < m → 0 < cnV j 0 p := by
  have hl := (mt_length m add p 0 u (List.replicate m zeroT, List.replicate m false)).2
  simp only [List.length_replicate] at hl
  rw [all_getD, mt0, hl]
  constructor
  · intro h j hj
    rcases (mt_seen m add p q 0 u _ (by simp) hs ht j hj).1 (h j hj) with h' | h'
    · simp [List.getD_eq_getElem?_getD, List.getElem?_replicate, hj] at h'
    · exact h'
  · intro h j hj
    exact (mt_seen m add p q 0 u _ (by simp) hs ht j hj).2 (.inr (h j hj))
/-- a variable that is nowhere: no answer -/
theorem tryS_zero {m : Nat} {add : Int} {p u : Tm} {q : Nat} (hs : shape q p = true) {j : Nat} (hj : j < m) (hz : cnV j 0 p = 0) : tryS m add p u = none := by
  rw [tryS, if_neg]
  rintro ⟨h1, h2⟩
  have := (seen_all hs h1).1 h2 j hj
  omega
theorem tryS_no {m : Nat} {add : Int} {p u : Tm} (h : (mt0 m add p u).1 = false) : tryS m add p u = none := by
  rw [tryS, if_neg]; rintro ⟨h1, _⟩; rw [h] at h1; cases h1
theorem tryS_yes {m : Nat} {add : Int} {p u : Tm} {q : Nat} (hs : shape q p = true) (h : (mt0 m add p u).1 = true) (hz : ∀ j : Nat, j < m → 0 < cnV j 0 p) : tryS m add p u = some (mt0 m add p u).2.1 := by
  rw [tryS, if_pos ⟨h, (seen_all hs h).2 hz⟩]
theorem shiftI_size {by_ cut : Int} {u low : Tm} (h : shiftI by_ cut u = some low) : low.size ≤ 400 := by
  unfold shiftI at h
  split at h
  · split at h
    · rename_i hv; injection h with h; subst h; exact validT_size hv
    · cases h
  · cases h
theorem mem_set {G : List Tm} {j : Nat} {x t : Tm} (h : t ∈ G.set j x) : t ∈ G ∨ t = x := by
  rcases List.mem_or_eq_of_mem_set h with h | h
  · exact .inl h
  · exact .inr h
theorem mt_small (m : Nat) (add : Int) (t : Tm) : ∀ (d : Int) (u : Tm) (st : St), (∀ x, x ∈ st.1 → x.size ≤ 400) → ∀ x, x ∈ (mt m add d t u st).2.1 → x.size ≤ 400 := by
  refine Tm.rec (motive_1 := fun t => ∀ (d : Int) (u : Tm) (st : St), (∀ x, x ∈ st.1 → x.size ≤ 400) → ∀ x, x ∈ (mt m add d t u st).2.1 → x.size ≤ 400)
    (motive_2 := fun ts => ∀ (k d : Int) (i : Nat) (us : List Tm) (st : St), (∀ x, x ∈ st.1 → x.size ≤ 400) → ∀ x, x ∈ (mtL m add k d i ts us st).2.1 → x.size ≤ 400) ?_ ?_ ?_ t
  · intro k n ks ih d u st h
    rw [mt]
    split
    · split
      · split
        · exact h
        · rename_i low hl
          split
          · exact h
          · intro x hx
            rcases mem_set hx with hx | rfl
            · exact h x hx
            · exact shiftI_size hl
      · exact h
    · split
      · exact ih k d 0 _ _ h
      · exact h
  · intro k d i us st h; simpa [mtL] using h
  · intro t ts h1 h2 k d i us st h
    cases us with
    | nil => simpa [mtL] using h
    | cons u us =>
      rw [mtL]
      split
      · exact h2 k d (i + 1) us _ (h1 _ _ _ h)
      · exact h1 _ _ _ h
theorem sizes_all {G : List Tm} (h : ∀ x, x ∈ G → x.size ≤ 400) : sizes G ≤ G.length * 400 := by
  induction G with
  | nil => simp [sizes]
  | cons t ts ih =>
    rw [sizes, List.length_cons]
    have := h t List.mem_cons_self
    have := ih fun x hx => h x (List.mem_cons_of_mem _ hx)
    omega
theorem tryS_size {m : Nat} {add : Int} {p u : Tm} (hm : m ≤ 6) {oo : List Tm} (h : tryS m add p u = some oo) : sizes oo ≤ 2400 ∧ oo.length = m := by
  unfold tryS at h
  split at h
  · injection h with h
    subst h
    have hl := (mt_length m add p 0 u (List.replicate m zeroT, List.replicate m false)).1
    simp only [List.length_replicate] at hl
    have hs := sizes_all (mt_small m add p 0 u (List.replicate m zeroT, List.replicate m false) (by intro x hx; rw [List.eq_of_mem_replicate hx]; simp [zeroT, Tm.size, sizes]))
    rw [hl] at hs
    exact ⟨by rw [mt0]; omega, hl⟩
  · cases h
open Go.RowKit
theorem ownX_zero (w : World) : ∀ n : Nat, OwX w (List.replicate n zeroT) (List.replicate n [(.int .i64 0 : Value), .int .i64 0, .slice none 0 0]).flatten []
  | 0 => by simpa using OwX.nil
  | n + 1 => by
    rw [List.replicate_succ, List.replicate_succ, List.flatten_cons]
    exact OwX.cons_iff.2 ⟨_, _, [], [], rfl, rfl, OwT.iff.2 ⟨none, 0, rfl, by simp, .inl ⟨rfl, rfl⟩⟩, ownX_zero w n⟩
theorem zero_cells (n : Nat) (hn : n ≤ 6) : (madeCells #[.int .i64 0, .int .i64 0, .slice none 0 0] (n * 3)).toList = ((List.replicate n [(.int .i64 0 : Value), .int .i64 0, .slice none 0 0]).flatten) := by
  rcases (show n = 0 ∨ n = 1 ∨ n = 2 ∨ n = 3 ∨ n = 4 ∨ n = 5 ∨ n = 6 by omega) with rfl | rfl | rfl | rfl | rfl | rfl | rfl <;> simp [madeCells, List.range_succ, List.replicate_succ]
theorem mk_tab (n : Nat) (hn : n ≤ 6) (W : World) (lo : Nat) (hlo : W.heap.size < lo) : Tab (W.alloc (.cells (madeCells #[.int .i64 0, .int .i64 0, .slice none 0 0] (n * 3)) 25)) lo W.heap.size (List.replicate n zeroT) :=
  ⟨hlo, _, [], heap_alloc_new W _, by simp [madeCells], by rw [zero_cells n hn]; exact ownX_zero _ n, List.nodup_nil, by simp⟩
theorem mk_tab' (n : Nat) (hn : n ≤ 6) (W : World) (g lo : Nat) (hg : g = W.heap.size) (hlo : g < lo) : Tab (W.alloc (.cells (madeCells #[.int .i64 0, .int .i64 0, .slice none 0 0] (n * 3)) 25)) lo g (List.replicate n zeroT) := by subst hg; exact mk_tab n hn W lo hlo
theorem bool_info : (Try.prog.info? 4).map (fun i => (i.zero, i.size, i.bytes)) = some (some (.bool false), 1, 1) := by kernel_rfl
theorem mk_bools (n : Nat) (hn : n ≤ 6) (W : World) : (Instr.makeSlice 110 (.int .i64 (n : Int)) (.int .i64 (n : Int))).run Try.prog W = .ok (.slice (some ⟨W.heap.size, 0, none⟩) n n) (W.alloc (.cells (bools (List.replicate n false)) 4)) := by
  obtain ⟨i0, hi, hz0, hz1, hz2⟩ := info_parts bool_info
  have h := run_make_rowN (P := Try.prog) 110 4 i0 _ Try.underlying110 hi hz0 .i64 .i64 n n (Nat.le_refl _) (by rw [hz2]; omega) (by omega) W
  rw [hz1] at h
  rw [h]
  have e : madeCells (Value.bool false).cells (n * 1) = bools (List.replicate n false) := by
    apply Array.ext'
    rcases (show n = 0 ∨ n = 1 ∨ n = 2 ∨ n = 3 ∨ n = 4 ∨ n = 5 ∨ n = 6 by omega) with rfl | rfl | rfl | rfl | rfl | rfl | rfl <;> simp [madeCells, bools, Value.cells, List.range_succ, List.replicate_succ]
  rw [e]
/-- a list and whether it is one -/
def GotLO (w : World) (o : Option (List Tm)) (e : Ending) (w' : World) : Prop :=
  ∃ A c, e = .returned (.tuple #[.slice A (o.getD []).length c, .bool o.isSome]) ∧ Fresh w.heap.size w' A (o.getD []) ∧ Below w.heap.size w w'
set_option maxHeartbeats 2000000 in
set_option maxRecDepth 100000 in
theorem sTry_any (m : Nat) (hm : m ≤ 6) (add : Int) (hadd : 0 ≤ add ∧ add ≤ 6) (k n : Int) (ks : List Tm) (A : Option Addr) (c : Nat) (ku nu : Int) (us : List Tm) (U : Option Addr) (cu : Nat) (w : World) (hv : validT (.mk k n ks) = true) (hvu : validT (.mk ku nu us) = true) (hr : Rd w A 0 ks) (hru : Rd w U 0 us) :
    Calls Try.prog 73 #[.agg #[.int .i64 k, .int .i64 n, .slice A ks.length c], .int .i64 m, .agg #[.int .i64 ku, .int .i64 nu, .slice U us.length cu], .int .i64 add] w (GotLO w (tryS m add (.mk k n ks) (.mk ku nu us))) := by
  have hs : shape 30 (.mk k n ks) = true := by simp only [validT, Bool.and_eq_true] at hv; exact hv.1
  have hrp : RdP (fun b => b ≠ w.heap.size + 1 + 1 ∧ b ≠ w.heap.size + 1 + 1 + 1) w A 0 ks := hr.rdp.mono (fun b hb => by omega)
  have hrup : RdP (fun b => b ≠ w.heap.size + 1 + 1 ∧ b ≠ w.heap.size + 1 + 1 + 1) w U 0 us := hru.rdp.mono (fun b hb => by omega)
  have hml := mt_length m add (.mk k n ks) 0 (.mk ku nu us) (List.replicate m zeroT, List.replicate m false)
  obtain ⟨bq, G2, S2, hmt⟩ : ∃ bq G2 S2, mt m add 0 (.mk k n ks) (.mk ku nu us) (List.replicate m zeroT, List.replicate m false) = (bq, (G2, S2)) := ⟨_, _, _, rfl⟩
  have htr : tryS m add (.mk k n ks) (.mk ku nu us) = if bq = true ∧ S2.all id = true then some G2 else none := by rw [tryS, mt0, hmt]
  rw [hmt] at hml
  simp only [List.length_replicate] at hml
  obtain ⟨hG2, hS2⟩ := hml
  rw [htr]
  obtain ⟨oo, hoo⟩ : ∃ oo, (if bq = true ∧ S2.all id = true then some G2 else none) = oo := ⟨_, rfl⟩
  rw [hoo]
  have hoo' := hide hoo
  have hmt' := hide hmt
  clear hmt htr hoo
  have mk1 := mk_terms m (by omega)
  have mk2 := mk_bools m (by omega)
  go_enter Try.func73, Try.ntmps73
  go_wp2_with (go_at_call 117; refine (sMatch_any m hm add hadd (w.heap.size + 1 + 1 + 1 + 1) (w.heap.size + 1 + 1) (w.heap.size + 1 + 1 + 1) (by omega) (by omega) _ k n ks A c ku nu us U cu 0 30 m m (List.replicate m zeroT) (List.replicate m false) _ (Nat.lt_succ_self _) hv hvu hs (by omega) (by omega) (by simp) (by simp) ((((hrp.alloc _).alloc _).alloc _).alloc _) ((((hrup.alloc _).alloc _).alloc _).alloc _) ((mk_tab' m hm _ _ _ (by simp) (by omega)).alloc _) (Blk.new_ _ _ _ (by simp)) (by simp)).mono ?_; rw [hmt'.out]; rintro e w1 ⟨rfl, hT, hS, ho⟩)
  have hb1 : Below w.heap.size w w1 := ((((((Below.refl _ _).alloc (Nat.le_refl _) _).alloc (by simp) _).alloc (by simp; omega) _).alloc (by simp; omega) _)).trans (ho.below (by simp; omega) (by simp; omega))
  go_loopw [12, 13] (fun b i wr => ∃ j : Nat, j ≤ m ∧ i = .int .i64 j ∧ b = .bool (bq && (S2.take j).all id) ∧ wr = w1) (fun _ i _ => m - (intOf i).toNat)
  case atStart => exact ⟨0, Nat.zero_le _, rfl, by simp, rfl⟩
  case round =>
    obtain ⟨j, hj, rfl, rfl, rfl⟩ := hrel
    by_cases hlt : j < m
    · have xs := hS.at_ (bools_get (S := S2) (j := j) (by omega))
      have hnx : (S2.take (j + 1)).all id = ((S2.take j).all id && S2.getD j false) := by
        rw [List.take_succ_eq_append_getElem (by omega), List.all_append]
        simp [List.getD, List.getElem?_eq_getElem (show j < S2.length by omega)]
      have hnx' := hide hnx
      clear hnx
      generalize hbj : (bq && (S2.take j).all id) = bj
      have hbj' := hide hbj
      clear hbj
      cases bj with
      | true =>
        go_wp2_with fail
        go_roundw
        case rel => exact ⟨j + 1, by omega, by go_num, by rw [hnx'.out, ← Bool.and_assoc, hbj'.out, Bool.true_and]; simp [List.getD, List.getElem?_eq_getElem (show j < S2.length by omega)], by trivial⟩
        case measure => simp [intOf]; omega
      | false =>
        go_wp2_with fail
        go_roundw
        case rel => exact ⟨j + 1, by omega, by go_num, by simp only [hnx'.out, ← Bool.and_assoc, hbj'.out, Bool.false_and], by trivial⟩
        case measure => simp [intOf]; omega
    · have hjl : j = S2.length := by omega
      have hjm : j = m := by omega
      rw [hjl, List.take_length, ← hjl]
      clear hjl
      generalize hbj : (bq && S2.all id) = bj
      have hbj' := hide hbj
      clear hbj
      cases bj with
      | true =>
        have hyes : oo = some G2 := by rw [← hoo'.out, if_pos (by simpa using hbj'.out)]
        subst hyes
        go_wp2_with fail
        go_ret2
        refine ⟨some ⟨w.heap.size + 1 + 1, 0, none⟩, m, by simp [hG2], ?_, hb1⟩
        exact hT.fresh (by omega)
      | false =>
        have hno : oo = none := by rw [← hoo'.out, if_neg (by rintro ⟨h1, h2⟩; have := hbj'.out; rw [h1, h2] at this; cases this)]
        subst hno
        go_wp2_with fail
        go_ret2
        exact ⟨_, _, rfl, Fresh.nil, hb1.alloc hb1.size _⟩
open Go.RowKit
set_option maxHeartbeats 1000000 in
set_option maxRecDepth 100000 in
theorem own_any (N : Nat) : ∀ (k n : Int) (ks : List Tm) (A : Option Addr) (c : Nat) (w : World), sizes ks < N → sizes ks ≤ 1099511627776 → Rd w A 0 ks →
    Calls Try.prog 94 #[.agg #[.int .i64 k, .int .i64 n, .slice A ks.length c]] w (GotT w k n ks) := by
  induction N with
  | zero => intro k n ks A c w hN; exact absurd hN (Nat.not_lt_zero _)
  | succ N ih =>
  intro k n ks A c w hN hM hr
  have hlen := length_le_sizes ks
  go_enter Try.func94, Try.ntmps94
  go_wp2_with fail
  go_loopw [14] (fun i wr => ∃ (j : Nat) (v : Value), j ≤ ks.length ∧ i = .int .i64 j ∧ Part (w.heap.size + 3) wr v (ks.take j) ∧ Blk wr (w.heap.size + 1 + 1) #[.int .i64 k, .int .i64 n, v] ∧ Blk wr (w.heap.size + 1) #[.int .i64 0, .int .i64 0, .slice none 0 0] ∧ Below w.heap.size w wr)
    (fun i _ => ks.length - (intOf i).toNat)
  case atStart => exact ⟨0, _, Nat.zero_le _, rfl, Part.nil, Blk.new_ _ _ _ (by simp), (Blk.new_ _ _ _ (by simp)).alloc _, (((Below.refl _ _).alloc (by simp) _).alloc (by simp) _).alloc (by simp; omega) _⟩
  case round =>
    obtain ⟨j, v, hj, rfl, hp, hB3, hB2, hb⟩ := hrel
    by_cases hlt : j < ks.length
    · obtain ⟨b, off, k', n', ks', A', c', rfl, hkj, hc1, hc2, hc3, hl', hr'⟩ := (hr.below hb).at_ hlt
      have hbl := World.block_lt_of_cell? _ _ hc1
      have hsz := sizes_le (List.getElem_mem hlt)
      rw [hkj] at hsz
      simp only [Tm.size] at hsz
      have H3 := hide hkj
      clear hkj
      have hz := hB3.lt
      have c2 : wr.cell? ⟨w.heap.size + 1 + 1, 2, none⟩ = some v := hB3.at_ rfl
      go_wp2_with fail
      refine name_world ?_
      intro wx hwx
      have hXB : Blk wx wr.heap.size #[.int .i64 k', .int .i64 n', .slice A' ks'.length c'] := by rw [hwx]; exact Blk.new_ _ _ _ rfl
      have hpx : Part (w.heap.size + 3) wx v (ks.take j) := by rw [hwx]; exact hp.alloc _
      have hrx : Rd wx A' 0 ks' := by rw [hwx]; exact hr'.alloc _
      have hB3x : Blk wx (w.heap.size + 1 + 1) #[.int .i64 k, .int .i64 n, v] := by rw [hwx]; exact hB3.alloc _
      have hB2x : Blk wx (w.heap.size + 1) #[.int .i64 0, .int .i64 0, .slice none 0 0] := by rw [hwx]; exact hB2.alloc _
      have hbx : Below w.heap.size w wx := by rw [hwx]; exact hb.alloc hb.size _
      have hs1 : wr.heap.size < wx.heap.size := by rw [hwx]; simp
      have hs2 : w.heap.size + 1 + 1 < wx.heap.size := by omega
      have x2 := hB3x.rule (i := 2) rfl
      have y0 := hXB.rule (i := 0) rfl
      have y1 := hXB.rule (i := 1) rfl
      have y2 := hXB.rule (i := 2) rfl
      clear hwx
      refine wp_region_first (fun w' => Below wx.heap.size wx w') [0, 1, 2] [3, 4] [5, 6, 7] [_, _, _] [_, _] [_, _, _] (by kernel_rfl) (by kernel_rfl) rfl rfl rfl (fun _ _ d _ _ h => by cases d <;> exact h) (Below.refl _ _).drew ?_
      repeat (first | ((refine take_skip (a' := ?_) ?_ ?_ ?_); (rotate_left); (· (simp [Region.wanted, yielded]; done)); (· (simp only [Act.put, List.setIfInBounds_toArray, List.set_cons_zero, List.set_cons_succ]; exact rfl))) | ((refine take_step (v := ?_) (a' := ?_) ?_ ?_ ?_ ?_); (rotate_left 2); (· (simp [Region.wanted, yielded]; done)); (· (intro w' hS'; go_simp; try (with_reducible rfl))); (· (simp only [Act.put, List.setIfInBounds_toArray, List.set_cons_zero, List.set_cons_succ]; exact rfl))))
      refine take_nil (then_cons ?_)
      go_wp2_with (go_at_call 94; refine (ih k' n' ks' A' c' _ (by omega) (by omega) hrx.drew).mono ?_; rintro e w1 ⟨A1, c1, rfl, hl1, hf1, hb1⟩)
      have hx1 : Below wx.heap.size wx w1 := (Below.refl wx.heap.size wx).drew.trans hb1
      refine mid_intro hx1 (then_cons ?_)
      go_wp2_with fail
      refine mid_intro (hx1.alloc hx1.size _) (then_nil ?_)
      refine wpList_append_built (B := w.heap.size + 3) (m := j) hpx.drew hb1 (by simp; omega) hf1 hl1 (by simp; omega) (by omega) rfl (.tmp 19) (.tmp 22) rfl rfl rfl ?_
      intro A2 c2 w2 hp2 hb2 hg2
      have q3 : Blk w2 (w.heap.size + 1 + 1) #[.int .i64 k, .int .i64 n, v] := (hB3x.below hx1 (by omega)).below hb2 (by omega)
      have q2 : Blk w2 (w.heap.size + 1) #[.int .i64 0, .int .i64 0, .slice none 0 0] := (hB2x.below hx1 (by omega)).below hb2 (by omega)
      have c3 : w2.cell? ⟨w.heap.size + 1 + 1, 2, none⟩ = some v := q3.at_ rfl
      have z3 := q3.frozen 2
      have hbf : Below w.heap.size w w2 := (hbx.trans (hx1.mono (by omega))).trans (hb2.mono (by omega))
      clear x2 y0 y1 y2 hpx hrx hB3x hB2x hbx
      go_wp2_with fail
      go_roundw
      case rel => exact ⟨j + 1, _, by omega, by go_num, by rw [List.take_succ_eq_append_getElem hlt, H3.out]; exact hp2.setCell (by simp) _, q3.set_ 2 _, q2.far (by simp) _, hbf.setCell (by simp; omega) _⟩
      case measure => simp [intOf]; omega
    · have hjl : j = ks.length := by omega
      subst hjl
      rw [List.take_length] at hp
      obtain ⟨Ar, cr, rfl, hfr⟩ := hp.fresh
      have c0 : wr.cell? ⟨w.heap.size + 1 + 1, 0, none⟩ = some (.int .i64 k) := hB3.at_ rfl
      have c1 : wr.cell? ⟨w.heap.size + 1 + 1, 1, none⟩ = some (.int .i64 n) := hB3.at_ rfl
      have c2 : wr.cell? ⟨w.heap.size + 1 + 1, 2, none⟩ = some (.slice Ar ks.length cr) := hB3.at_ rfl
      have d0 : wr.cell? ⟨w.heap.size + 1, 0, none⟩ = some (.int .i64 0) := hB2.at_ rfl
      have d1 : wr.cell? ⟨w.heap.size + 1, 1, none⟩ = some (.int .i64 0) := hB2.at_ rfl
      have d2 : wr.cell? ⟨w.heap.size + 1, 2, none⟩ = some (.slice none 0 0) := hB2.at_ rfl
      have e0 := hB2.frozen 0
      have e1 := hB2.frozen 1
      have e2 := hB2.frozen 2
      go_wp2_with fail
      refine bodyPost_ret (v := .agg #[.int .i64 k, .int .i64 n, .slice Ar ks.length cr]) (by simp [results, Try.results94, go_sem, d0, d1, d2]) rfl ⟨Ar, cr, rfl, by omega, ?_, ?_⟩
      · exact (((hfr.setCell (by simp) _).setCell (by simp) _).setCell (by simp) _).mono (by omega)
      · exact ((hb.setCell (by simp) _).setCell (by simp) _).setCell (by simp) _
set_option maxHeartbeats 1000000 in
set_option maxRecDepth 100000 in
theorem ownAll_any (ks : List Tm) (A : Option Addr) (c : Nat) (w : World) (hM : sizes ks ≤ 1099511627776) (hr : Rd w A 0 ks) :
    Calls Try.prog 84 #[.slice A ks.length c] w (GotL w ks) := by
  have hlen := length_le_sizes ks
  go_enter Try.func84, Try.ntmps84
  go_wp2_with fail
  go_loopw [3, 8] (fun v i wr => ∃ (j : Nat), j ≤ ks.length ∧ i = .int .i64 j ∧ Part w.heap.size wr v (ks.take j) ∧ Below w.heap.size w wr)
    (fun _ i _ => ks.length - (intOf i).toNat)
  case atStart => exact ⟨0, Nat.zero_le _, rfl, Part.nil, Below.refl _ _⟩
  case round =>
    obtain ⟨j, hj, rfl, hp, hb⟩ := hrel
    by_cases hlt : j < ks.length
    · obtain ⟨b, off, k', n', ks', A', c', rfl, hkj, hc1, hc2, hc3, hl', hr'⟩ := (hr.below hb).at_ hlt
      have hsz := sizes_le (List.getElem_mem hlt)
      rw [hkj] at hsz
      simp only [Tm.size] at hsz
      have H3 := hide hkj
      clear hkj
      go_wp2_with (first | (go_at_call 94; refine (own_any (sizes ks' + 1) k' n' ks' A' c' _ (by omega) (by omega) (hr'.alloc _)).mono ?_; rintro e w1 ⟨A1, c1, rfl, hl1, hf1, hb1⟩) | (at_builtin; refine wpList_append_built (B := w.heap.size) (m := j) (hp.alloc _) hb1 (by simp; have := hb.size; omega) hf1 hl1 (by simp; omega) (by omega) rfl _ _ rfl rfl rfl ?_; intro A2 c2 w2 hp2 hb2 hg2))
      go_roundw
      case rel => exact ⟨j + 1, by omega, by go_num, by rw [List.take_succ_eq_append_getElem hlt, H3.out]; exact hp2, (hb.trans (((Below.refl _ _).alloc (Nat.le_refl _) _).trans (hb1.mono (by simp)) |>.mono hb.size)).trans hb2⟩
      case measure => simp [intOf]; omega
    · have hjl : j = ks.length := by omega
      subst hjl
      rw [List.take_length] at hp
      obtain ⟨Ar, cr, rfl, hfr⟩ := hp.fresh
      go_wp2_with fail
      go_ret
      exact ⟨Ar, cr, rfl, hfr, hb⟩
open Go.RowKit
theorem own81 {G : List Tm} {m : Nat} (hm : G.length = m) {g : Nat} {w : World} (hM : sizes G ≤ 1099511627776) (hr : Rd w (some ⟨g, 0, none⟩) 0 G) : Calls Try.prog 84 #[.slice (some ⟨g, 0, none⟩) m m] w (GotL w G) := by
  subst hm; exact ownAll_any G _ _ w hM hr
set_option maxHeartbeats 2000000 in
set_option maxRecDepth 100000 in
theorem iMatches_any (m : Nat) (hm : m ≤ 6) (add : Int) (hadd : 0 ≤ add ∧ add ≤ 6) (k n : Int) (ks : List Tm) (A : Option Addr) (c : Nat) (ku nu : Int) (us : List Tm) (U : Option Addr) (cu : Nat) (w : World) (hv : validT (.mk k n ks) = true) (hvu : validT (.mk ku nu us) = true) (hr : Rd w A 0 ks) (hru : Rd w U 0 us) :
    Calls Try.prog 72 #[.agg #[.int .i64 k, .int .i64 n, .slice A ks.length c], .int .i64 m, .agg #[.int .i64 ku, .int .i64 nu, .slice U us.length cu], .int .i64 add] w (GotLO w (tryS m add (.mk k n ks) (.mk ku nu us))) := by
  have hs : shape 30 (.mk k n ks) = true := by simp only [validT, Bool.and_eq_true] at hv; exact hv.1
  have hsz := validT_size hv
  rw [Tm.size] at hsz
  obtain ⟨bq, G2, S2, hmt⟩ : ∃ bq G2 S2, mt m add 0 (.mk k n ks) (.mk ku nu us) (List.replicate m zeroT, List.replicate m false) = (bq, (G2, S2)) := ⟨_, _, _, rfl⟩
  have hml := (mt_length m add (.mk k n ks) 0 (.mk ku nu us) (List.replicate m zeroT, List.replicate m false)).1
  rw [hmt] at hml
  simp only [List.length_replicate] at hml
  obtain ⟨oo, hoo⟩ : ∃ oo, tryS m add (.mk k n ks) (.mk ku nu us) = oo := ⟨_, rfl⟩
  have hzG : ∀ x, oo = some x → sizes x ≤ 2400 := fun x hx => (tryS_size hm (hoo.trans hx)).1
  rw [hoo]
  have hoo' := hide hoo
  have hmt' := hide hmt
  have hzG' := hide hzG
  clear hmt hoo hzG
  have mk1 := mk_terms m (by omega)
  have mk2 := mk_bools m (by omega)
  go_enter Try.func72, Try.ntmps72
  go_wp2_with fail
  go_loopw [13] (fun i wr => ∃ j : Nat, j ≤ m ∧ i = .int .i64 j ∧ Hid (∀ x : Nat, x < j → 0 < cnV x 0 (.mk k n ks)) ∧ Blk wr w.heap.size #[.int .i64 k, .int .i64 n, .slice A ks.length c] ∧ Blk wr (w.heap.size + 1) #[.int .i64 ku, .int .i64 nu, .slice U us.length cu] ∧ Below w.heap.size w wr) (fun i _ => m - (intOf i).toNat)
  case atStart => exact ⟨0, Nat.zero_le _, rfl, hide (by intro x hx; omega), (Blk.new_ _ _ _ rfl).alloc _, Blk.new_ _ _ _ (by simp), ((Below.refl _ _).alloc (Nat.le_refl _) _).alloc (by simp) _⟩
  case round =>
    obtain ⟨j, hj, rfl, hall, hB0, hB1, hb⟩ := hrel
    have p0 := hB0.at_ (i := 0) rfl
    have p1 := hB0.at_ (i := 1) rfl
    have p2 := hB0.at_ (i := 2) rfl
    have u0 := hB1.at_ (i := 0) rfl
    have u1 := hB1.at_ (i := 1) rfl
    have u2 := hB1.at_ (i := 2) rfl
    by_cases hlt : j < m
    · generalize hcn : cnV j 0 (.mk k n ks) = cn
      have hcn' := hide hcn
      clear hcn
      by_cases h0 : cn = 0
      · subst h0
        go_wp2_with (go_at_call 115; refine (countVar_any k n ks A c j _ (by omega) hs (hr.below hb)).mono ?_; rw [hcn'.out]; rintro e w1 ⟨rfl, hb1⟩)
        go_ret2
        have hno : oo = none := by rw [← hoo'.out]; exact tryS_zero hs hlt hcn'.out
        subst hno
        exact ⟨none, 0, rfl, Fresh.nil, hb.trans (hb1.mono hb.size)⟩
      · have q : ((cn : Int) == 0) = false := by simpa using h0
        go_wp2_with (go_at_call 115; refine (countVar_any k n ks A c j _ (by omega) hs (hr.below hb)).mono ?_; rw [hcn'.out]; rintro e w1 ⟨rfl, hb1⟩)
        go_roundw
        case rel => exact ⟨j + 1, by omega, by go_num, hide (by intro x hx; by_cases hxj : x = j; (· subst hxj; rw [hcn'.out]; omega); (· exact hall.out x (by omega))), hB0.keep hb1, hB1.keep hb1, hb.trans (hb1.mono hb.size)⟩
        case measure => simp [intOf]; omega
    · have hjm : m = j := by omega
      subst hjm
      have hG2 := hide hml
      have hsc : bq = true → sizes G2 ≤ 1099511627776 := fun h => by
        have h1 := hzG'.out G2 (by rw [← hoo'.out, tryS_yes hs (by rw [mt0, hmt'.out]; exact h) hall.out, mt0, hmt'.out])
        omega
      have lB0 := hB0.lt
      have lB1 := hB1.lt
      have lB01 : w.heap.size < wr.heap.size + 1 := by omega
      have lB02 : w.heap.size < wr.heap.size + 1 + 1 := by omega
      have lB11 : w.heap.size + 1 < wr.heap.size + 1 := by omega
      have lB12 : w.heap.size + 1 < wr.heap.size + 1 + 1 := by omega
      have lB13 : w.heap.size < wr.heap.size + 1 + 1 + 1 := by omega
      have lB14 : w.heap.size + 1 < wr.heap.size + 1 + 1 + 1 := by omega
      have hrA : RdP (fun b => b ≠ wr.heap.size ∧ b ≠ wr.heap.size + 1) wr A 0 ks := (hr.below hb).rdp.mono (fun b hb => by omega)
      have hrAu : RdP (fun b => b ≠ wr.heap.size ∧ b ≠ wr.heap.size + 1) wr U 0 us := (hru.below hb).rdp.mono (fun b hb => by omega)
      have hrB : RdP (fun b => b ≠ wr.heap.size + 1 ∧ b ≠ wr.heap.size) wr A 0 ks := (hr.below hb).rdp.mono (fun b hb => by omega)
      have hrBu : RdP (fun b => b ≠ wr.heap.size + 1 ∧ b ≠ wr.heap.size) wr U 0 us := (hru.below hb).rdp.mono (fun b hb => by omega)
      go_wp2_with fail
      go_region_held3 (fun w' => True) (trivial) (fail)
      all_goals
        cases bq with
        | false =>
          go_wp2_with (first | (go_at_call 116; refine (iMatch_any m hm add hadd (wr.heap.size + 1 + 1) (wr.heap.size) (wr.heap.size + 1) (by omega) (by omega) _ k n ks A c ku nu us U cu 0 30 (wr.heap.size + 1 + 1) m m (List.replicate m zeroT) (List.replicate m false) _ (Nat.lt_succ_self _) hv hvu hs (by omega) (by omega) (by simp) (by simp) ((((hrA.alloc _).alloc _).alloc _)).drew ((((hrAu.alloc _).alloc _).alloc _)).drew (((mk_tab' m hm _ _ _ (by simp) (by omega)).alloc _).alloc _).drew ((Blk.new_ _ _ _ (by simp)).alloc _).drew (by simp) (Blk.new_ _ _ _ (by simp)).drew (by omega) (by omega)).mono ?_; rw [hmt'.out]; rintro e w1 ⟨rfl, hT, hS, ho⟩; have hM1 : Blk w1 (wr.heap.size + 1 + 1) #[.slice (some ⟨wr.heap.size, 0, none⟩) m m, .slice (some ⟨wr.heap.size + 1, 0, none⟩) m m, .int .i64 add] := (Blk.new_ _ 112 _ (by simp)).drew.only ho (by simp; omega); have hb01 : Below wr.heap.size wr w1 := (((((Below.refl _ _).alloc (Nat.le_refl _) _).alloc (by simp) _).alloc (by simp; omega) _)).drew.trans (ho.below (by simp; omega) (by simp)); have m0 := hM1.at_ (i := 0) rfl; have hTrd := hT.rd; have hTf : Below w.heap.size w w1 := hb.trans (hb01.mono hb.size)) | (go_at_call 116; refine (iMatch_any m hm add hadd (wr.heap.size + 1 + 1) (wr.heap.size + 1) (wr.heap.size) (by omega) (by omega) _ k n ks A c ku nu us U cu 0 30 (wr.heap.size + 1 + 1) m m (List.replicate m zeroT) (List.replicate m false) _ (Nat.lt_succ_self _) hv hvu hs (by omega) (by omega) (by simp) (by simp) ((((hrB.alloc _).alloc _).alloc _)).drew ((((hrBu.alloc _).alloc _).alloc _)).drew ((mk_tab' m hm _ _ _ (by simp) (by omega)).alloc _).drew (((Blk.new_ _ _ _ (by simp)).alloc _).alloc _).drew (by simp) (Blk.new_ _ _ _ (by simp)).drew (by omega) (by omega)).mono ?_; rw [hmt'.out]; rintro e w1 ⟨rfl, hT, hS, ho⟩; have hM1 : Blk w1 (wr.heap.size + 1 + 1) #[.slice (some ⟨wr.heap.size + 1, 0, none⟩) m m, .slice (some ⟨wr.heap.size, 0, none⟩) m m, .int .i64 add] := (Blk.new_ _ 112 _ (by simp)).drew.only ho (by simp; omega); have hb01 : Below wr.heap.size wr w1 := (((((Below.refl _ _).alloc (Nat.le_refl _) _).alloc (by simp) _).alloc (by simp; omega) _)).drew.trans (ho.below (by simp; omega) (by simp)); have m0 := hM1.at_ (i := 0) rfl; have hTrd := hT.rd; have hTf : Below w.heap.size w w1 := hb.trans (hb01.mono hb.size)))
          go_ret2
          have hno : oo = none := by rw [← hoo'.out]; exact tryS_no (by rw [mt0, hmt'.out])
          subst hno
          exact ⟨none, 0, rfl, Fresh.nil, hTf⟩
        | true =>
          go_wp2_with (first | (go_at_call 116; refine (iMatch_any m hm add hadd (wr.heap.size + 1 + 1) (wr.heap.size) (wr.heap.size + 1) (by omega) (by omega) _ k n ks A c ku nu us U cu 0 30 (wr.heap.size + 1 + 1) m m (List.replicate m zeroT) (List.replicate m false) _ (Nat.lt_succ_self _) hv hvu hs (by omega) (by omega) (by simp) (by simp) ((((hrA.alloc _).alloc _).alloc _)).drew ((((hrAu.alloc _).alloc _).alloc _)).drew (((mk_tab' m hm _ _ _ (by simp) (by omega)).alloc _).alloc _).drew ((Blk.new_ _ _ _ (by simp)).alloc _).drew (by simp) (Blk.new_ _ _ _ (by simp)).drew (by omega) (by omega)).mono ?_; rw [hmt'.out]; rintro e w1 ⟨rfl, hT, hS, ho⟩; have hM1 : Blk w1 (wr.heap.size + 1 + 1) #[.slice (some ⟨wr.heap.size, 0, none⟩) m m, .slice (some ⟨wr.heap.size + 1, 0, none⟩) m m, .int .i64 add] := (Blk.new_ _ 112 _ (by simp)).drew.only ho (by simp; omega); have hb01 : Below wr.heap.size wr w1 := (((((Below.refl _ _).alloc (Nat.le_refl _) _).alloc (by simp) _).alloc (by simp; omega) _)).drew.trans (ho.below (by simp; omega) (by simp)); have m0 := hM1.at_ (i := 0) rfl; have hTrd := hT.rd; have hTf : Below w.heap.size w w1 := hb.trans (hb01.mono hb.size)) | (go_at_call 116; refine (iMatch_any m hm add hadd (wr.heap.size + 1 + 1) (wr.heap.size + 1) (wr.heap.size) (by omega) (by omega) _ k n ks A c ku nu us U cu 0 30 (wr.heap.size + 1 + 1) m m (List.replicate m zeroT) (List.replicate m false) _ (Nat.lt_succ_self _) hv hvu hs (by omega) (by omega) (by simp) (by simp) ((((hrB.alloc _).alloc _).alloc _)).drew ((((hrBu.alloc _).alloc _).alloc _)).drew ((mk_tab' m hm _ _ _ (by simp) (by omega)).alloc _).drew (((Blk.new_ _ _ _ (by simp)).alloc _).alloc _).drew (by simp) (Blk.new_ _ _ _ (by simp)).drew (by omega) (by omega)).mono ?_; rw [hmt'.out]; rintro e w1 ⟨rfl, hT, hS, ho⟩; have hM1 : Blk w1 (wr.heap.size + 1 + 1) #[.slice (some ⟨wr.heap.size + 1, 0, none⟩) m m, .slice (some ⟨wr.heap.size, 0, none⟩) m m, .int .i64 add] := (Blk.new_ _ 112 _ (by simp)).drew.only ho (by simp; omega); have hb01 : Below wr.heap.size wr w1 := (((((Below.refl _ _).alloc (Nat.le_refl _) _).alloc (by simp) _).alloc (by simp; omega) _)).drew.trans (ho.below (by simp; omega) (by simp)); have m0 := hM1.at_ (i := 0) rfl; have hTrd := hT.rd; have hTf : Below w.heap.size w w1 := hb.trans (hb01.mono hb.size)) | (go_at_call 84; refine (own81 hG2.out (hsc (by simp)) hTrd).mono ?_; rintro e w3 ⟨A3, c3, rfl, hf3, hb3⟩))
          go_ret2
          have hyes : oo = some G2 := by rw [← hoo'.out, tryS_yes hs (by rw [mt0, hmt'.out]) hall.out, mt0, hmt'.out]
          subst hyes
          exact ⟨A3, c3, by simp; exact hG2.out.symm, hf3.mono hTf.size, hTf.trans (hb3.mono hTf.size)⟩
open Go.RowKit
/-- what MatchTerm answers -/
def matchTS (p : Tm) (z : Int) (u : Tm) : Option (List Tm) := if validT p = true ∧ validT u = true ∧ 0 ≤ z ∧ z ≤ 6 then tryS z.toNat 0 p u else none
open Go.RowKit
theorem validT_shape {t : Tm} (h : validT t = true) : shape 30 t = true := by simp only [validT, Bool.and_eq_true] at h; exact h.1
theorem shS_zero (t : Tm) : ∀ d, shS 0 d t = t := by
  refine (Tm.ind2 (p := fun t => ∀ d, shS 0 d t = t) (q := fun ts => ∀ k d i, shSL 0 k d i ts = ts) ?_ ?_ ?_).1 t
  · intro k n ks ih d; rw [shS, ih]; split <;> simp
  · intro k d i; simp [shSL]
  · intro t ts h1 h2 k d i; rw [shSL, h1, h2]
/-- shifting up behind shifting down, and the other way -/
theorem shS_up_down {d : Int} (hd : 0 ≤ d) (t : Tm) : ∀ c, kpS d c t = true → shS d c (shS (-d) c t) = t := by
  refine (Tm.ind2 (p := fun t => ∀ c, kpS d c t = true → shS d c (shS (-d) c t) = t) (q := fun ts => ∀ k c i, kpSL d k c i ts = true → shSL d k c i (shSL (-d) k c i ts) = ts) ?_ ?_ ?_).1 t
  · intro k n ks ih c h
    rw [kpS] at h
    split at h
    · cases h
    · rename_i hno
      rw [shS, shS, ih _ _ _ h]
      congr 1
      repeat' split
      all_goals omega
  · intro k c i _; simp [shSL]
  · intro t ts h1 h2 k c i h
    rw [kpSL, Bool.and_eq_true] at h
    rw [shSL, shSL, h1 _ h.1, h2 _ _ _ h.2]
end Go.Proofs.Ytodkenpmhhbppaa
