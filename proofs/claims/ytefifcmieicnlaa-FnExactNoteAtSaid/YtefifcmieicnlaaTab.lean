/-
  A table of terms that is filled in any order, and what matching answers. No condition.
-/
import Derived.Test.YtefifcmieicnlaaMark2
import Derived.Test.YtefifcmieicnlaaKeeps
import Derived.Test.YtefifcmieicnlaaSame
namespace Go.Proofs.Ytefifcmieicnlaa
open Go.RowKit
set_option linter.unusedSimpArgs false
set_option linter.unusedVariables false

/-- a row of terms at a block, whose terms lie in blocks of their own from lo on -/
def Tab (w : World) (lo g : Nat) (G : List Tm) : Prop :=
  g < lo ∧ ∃ cur f, w.heap[g]? = some (.cells cur 29 (0, 0)) ∧ cur.size = G.length * 3 ∧ OwX w G cur.toList f ∧ f.Nodup ∧ ∀ b, b ∈ f → lo ≤ b
variable {w w' w0 : World} {lo g : Nat} {G : List Tm}
theorem Tab.only {fp : List Nat} (h : Tab w lo g G) (ho : OnlyIn fp w w') (hfp : ∀ b, b ∈ fp → b ≠ g ∧ b < lo) : Tab w' lo g G := by
  obtain ⟨h0, cur, f, h1, h2, h3, h4, h5⟩ := h
  refine ⟨h0, cur, f, (ho.block g (Array.getElem?_eq_some_iff.1 h1).1 (fun hm => (hfp g hm).1 rfl)).trans h1, h2, h3.frame fun b hb => ho.block b (h3.lt b hb) fun hm => ?_, h4, h5⟩
  have := (hfp b hm).2; have := h5 b hb; omega
theorem Tab.keep (h : Tab w lo g G) (hb : Below w.heap.size w w') : Tab w' lo g G := by
  obtain ⟨h0, cur, f, h1, h2, h3, h4, h5⟩ := h
  exact ⟨h0, cur, f, (hb.block g (Array.getElem?_eq_some_iff.1 h1).1).trans h1, h2, h3.frame fun b hm => hb.block b (h3.lt b hm), h4, h5⟩
theorem Tab.alloc (h : Tab w lo g G) (o : Obj) : Tab (w.alloc o) lo g G := h.keep ((Below.refl _ _).alloc (Nat.le_refl _) _)
theorem Tab.drew (h : Tab w lo g G) : Tab w.drew lo g G := h.keep (Below.refl _ _).drew
theorem Tab.setCell (h : Tab w lo g G) {p : Addr} (hp : p.block ≠ g) (hl : p.block < lo) (u : Value) : Tab (w.setCell p u) lo g G := by
  obtain ⟨h0, cur, f, h1, h2, h3, h4, h5⟩ := h
  exact ⟨h0, cur, f, (Below.heap_setCell w p u g (fun e => hp e.symm)).trans h1, h2, h3.frame fun b hb => Below.heap_setCell w p u b (fun e => by have := h5 b hb; omega), h4, h5⟩
theorem Tab.lt (h : Tab w lo g G) : g < w.heap.size := by
  obtain ⟨h0, cur, f, h1, _⟩ := h
  exact (Array.getElem?_eq_some_iff.1 h1).1
theorem Tab.glo (h : Tab w lo g G) : g < lo := h.1
theorem Tab.frozen (h : Tab w lo g G) (j : Nat) : w.frozen? ⟨g, j, none⟩ = false := by
  obtain ⟨h0, cur, f, h1, h2, _⟩ := h
  simp [World.frozen?, h1]
theorem Tab.rd (h : Tab w lo g G) : Rd w (some ⟨g, 0, none⟩) 0 G := by
  obtain ⟨h0, cur, f, h1, h2, h3, h4, h5⟩ := h
  refine own_rd.2 _ _ _ h3 g 0 0 fun j u hu => ?_
  rw [show 0 + 0 * 3 + j = j by omega, cell_of_row w g j cur 29 (0, 0) h1]
  simpa using hu
/-- one place is laid anew -/
theorem Tab.put (h : Tab w0 lo g G) (hb : Below w0.heap.size w0 w) (hlo : lo ≤ w0.heap.size) {k m : Int} {ks : List Tm} {A : Option Addr} {c j : Nat} (hfr : Fresh w0.heap.size w A ks) (hl : ks.length ≤ 9223372036854775807) (hj : j < G.length) :
    Tab (((w.setCell ⟨g, j * 3, none⟩ (.int .i64 k)).setCell ⟨g, j * 3 + 1, none⟩ (.int .i64 m)).setCell ⟨g, j * 3 + 2, none⟩ (.slice A ks.length c)) lo g (G.set j (.mk k m ks)) := by
  obtain ⟨h0, cur, f, h1, h2, h3, h4, h5⟩ := h
  obtain ⟨fp, k1, k2, k3⟩ := hfr
  have hg0 := (Array.getElem?_eq_some_iff.1 h1).1
  have hg : w.heap[g]? = some (.cells cur 29 (0, 0)) := (hb.block g hg0).trans h1
  have far : ∀ b, b ≠ g → (((w.setCell ⟨g, j * 3, none⟩ (.int .i64 k)).setCell ⟨g, j * 3 + 1, none⟩ (.int .i64 m)).setCell ⟨g, j * 3 + 2, none⟩ (.slice A ks.length c)).heap[b]? = w.heap[b]? := fun b hbg => by
    rw [Below.heap_setCell _ _ _ _ hbg, Below.heap_setCell _ _ _ _ hbg, Below.heap_setCell _ _ _ _ hbg]
  have hsp : G = G.take j ++ G[j] :: G.drop (j + 1) := by rw [← List.drop_eq_getElem_cons hj, List.take_append_drop]
  have hsp2 : G.set j (.mk k m ks) = G.take j ++ Tm.mk k m ks :: G.drop (j + 1) := by rw [List.set_eq_take_append_cons_drop, if_pos hj]
  have h3' := h3
  rw [hsp] at h3'
  obtain ⟨x0, x1, x2, f0, f1, f2, hx, hf, o0, o1, o2⟩ := OwX.split h3'
  have l0 : x0.length = j * 3 := by rw [o0.length, List.length_take, Nat.min_eq_left (Nat.le_of_lt hj)]
  have l1 := o1.length
  obtain ⟨p, q, r, rfl⟩ : ∃ p q r, x1 = [p, q, r] := by
    match x1, l1 with
    | [p, q, r], _ => exact ⟨p, q, r, rfl⟩
  subst hf
  have lt0 : ∀ b, b ∈ f0 ++ (f1 ++ f2) → b < w0.heap.size := fun b hb => h3.lt b hb
  have nd := List.nodup_append.1 h4
  have nd2 := List.nodup_append.1 nd.2.1
  refine ⟨h0, ((cur.setIfInBounds (j * 3) (.int .i64 k)).setIfInBounds (j * 3 + 1) (.int .i64 m)).setIfInBounds (j * 3 + 2) (.slice A ks.length c), f0 ++ (fp ++ f2), ?_, by simpa using h2, ?_, ?_, ?_⟩
  · simp [World.setCell, Array.getElem?_modify, hg]
  · have e : (((cur.setIfInBounds (j * 3) (.int .i64 k)).setIfInBounds (j * 3 + 1) (.int .i64 m)).setIfInBounds (j * 3 + 2) (.slice A ks.length c)).toList = x0 ++ ([.int .i64 k, .int .i64 m, .slice A ks.length c] ++ x2) := by
      simp only [Array.toList_setIfInBounds, hx, ← l0]
      simp [List.set_append]
    rw [e, hsp2]
    have keep : ∀ b, b ∈ f0 ++ (f1 ++ f2) → (((w.setCell ⟨g, j * 3, none⟩ (.int .i64 k)).setCell ⟨g, j * 3 + 1, none⟩ (.int .i64 m)).setCell ⟨g, j * 3 + 2, none⟩ (.slice A ks.length c)).heap[b]? = w0.heap[b]? := fun b hm => by
      rw [far b (by have := h5 b hm; omega)]; exact hb.block b (lt0 b hm)
    exact OwX.join (o0.frame fun b hm => keep b (by simp [hm])) (OwT.iff.2 ⟨A, c, rfl, hl, k1.frame fun b hm => far b (by have := k3 b hm; omega)⟩) (o2.frame fun b hm => keep b (by simp [hm]))
  · refine List.nodup_append.2 ⟨nd.1, List.nodup_append.2 ⟨k2, nd2.2.1, fun x hx y hy e => ?_⟩, fun x hx y hy e => ?_⟩
    · have := k3 x hx; have := lt0 y (by simp [hy]); omega
    · rcases List.mem_append.1 hy with hy | hy
      · have := k3 y hy; have := lt0 x (by simp [hx]); omega
      · exact nd.2.2 x hx y (List.mem_append.2 (.inr hy)) e
  · intro b hm
    rcases List.mem_append.1 hm with hm | hm
    · exact h5 b (by simp [hm])
    · rcases List.mem_append.1 hm with hm | hm
      · have := k3 b hm; omega
      · exact h5 b (by simp [hm])
theorem Tab.fresh (h : Tab w lo g G) {B : Nat} (hB : B ≤ g) : Fresh B w (some ⟨g, 0, none⟩) G := by
  obtain ⟨h0, cur, f, h1, h2, h3, h4, h5⟩ := h
  by_cases hts : G = []
  · subst hts; exact Fresh.nil
  · refine ⟨g :: f, .inr ⟨g, cur, _, f, hts, rfl, h1, rfl, by rw [List.take_of_length_le (by simp [h2])]; exact h3⟩, List.nodup_cons.2 ⟨fun hm => by have := h5 g hm; omega, h4⟩, fun b hb => ?_⟩
    rcases List.mem_cons.1 hb with rfl | hb
    · exact hB
    · have := h5 b hb; omega

abbrev St := List Tm × List Bool
def zeroT : Tm := .mk 0 0 []
def Tm.kids : Tm → List Tm | .mk _ _ ks => ks
mutual
/-- what matching answers, and the places behind it -/
def mt (m : Nat) (add : Int) : Int → Tm → Tm → St → Bool × St
  | d, .mk k n ks, u, st =>
    if k = 1 ∧ d ≤ n then
      (if n < d + m then
        (match shiftI (-d) 0 u with
          | none => (false, st)
          | some low => if st.2.getD (n - d).toNat false = true then (tmEq (st.1.getD (n - d).toNat zeroT) low, st) else (true, (st.1.set (n - d).toNat low, st.2.set (n - d).toNat true)))
      else (u.k == 1 && u.n == n - m + add, st))
    else if u.k = k ∧ u.n = n ∧ u.kids.length = ks.length then mtL m add k d 0 ks u.kids st else (false, st)
def mtL (m : Nat) (add : Int) : Int → Int → Nat → List Tm → List Tm → St → Bool × St
  | k, d, i, t :: ts, u :: us, st => if (mt m add (d + under k i) t u st).1 = true then mtL m add k d (i + 1) ts us (mt m add (d + under k i) t u st).2 else (false, (mt m add (d + under k i) t u st).2)
  | _, _, _, _, _, st => (true, st)
end
theorem mtL_append (m : Nat) (add k d : Int) : ∀ (ts us ts' us' : List Tm) (i : Nat) (st : St), ts.length = us.length → mtL m add k d i (ts ++ ts') (us ++ us') st = if (mtL m add k d i ts us st).1 = true then mtL m add k d (i + ts.length) ts' us' (mtL m add k d i ts us st).2 else (false, (mtL m add k d i ts us st).2)
  | [], [], ts', us', i, st, _ => by simp [mtL]
  | t :: ts, u :: us, ts', us', i, st, h => by
    rw [List.cons_append, List.cons_append, mtL, mtL]
    split
    · rw [mtL_append m add k d ts us ts' us' (i + 1) _ (by simpa using h), List.length_cons, show i + 1 + ts.length = i + (ts.length + 1) from by omega]
    · simp
  | [], _ :: _, _, _, _, _, h => by simp at h
  | _ :: _, [], _, _, _, _, h => by simp at h
theorem mtL_take (m : Nat) (add k d : Int) {ks us : List Tm} {j : Nat} (hj : j < ks.length) (hl : ks.length = us.length) {st st1 : St} (h : mtL m add k d 0 (ks.take j) (us.take j) st = (true, st1)) :
    mtL m add k d 0 (ks.take (j + 1)) (us.take (j + 1)) st = mt m add (d + under k j) ks[j] (us[j]'(by omega)) st1 := by
  rw [List.take_succ_eq_append_getElem hj, List.take_succ_eq_append_getElem (by omega : j < us.length), mtL_append m add k d _ _ _ _ _ _ (by simp; omega), h]
  simp only [if_true, List.length_take, Nat.min_eq_left (Nat.le_of_lt hj), Nat.zero_add]
  rw [mtL, show ∀ (i : Nat) (s : St), mtL m add k d i [] [] s = (true, s) from fun i s => by simp [mtL]]
  cases e : mt m add (d + under k j) ks[j] (us[j]'(by omega)) st1 with
  | mk b s => cases b <;> simp
theorem mtL_no (m : Nat) (add k d : Int) {ks us : List Tm} {j : Nat} (hj : j < ks.length) (hl : ks.length = us.length) {st st1 : St} (h : mtL m add k d 0 (ks.take (j + 1)) (us.take (j + 1)) st = (false, st1)) :
    mtL m add k d 0 ks us st = (false, st1) := by
  have h1 := List.take_append_drop (j + 1) ks
  have h2 := List.take_append_drop (j + 1) us
  rw [← h1, ← h2, mtL_append m add k d _ _ _ _ _ _ (by simp; omega), h]
  simp
theorem mt_length (m : Nat) (add : Int) (t : Tm) : ∀ (d : Int) (u : Tm) (st : St), (mt m add d t u st).2.1.length = st.1.length ∧ (mt m add d t u st).2.2.length = st.2.length := by
  refine Tm.rec (motive_1 := fun t => ∀ (d : Int) (u : Tm) (st : St), (mt m add d t u st).2.1.length = st.1.length ∧ (mt m add d t u st).2.2.length = st.2.length)
    (motive_2 := fun ts => ∀ (k d : Int) (i : Nat) (us : List Tm) (st : St), (mtL m add k d i ts us st).2.1.length = st.1.length ∧ (mtL m add k d i ts us st).2.2.length = st.2.length) ?_ ?_ ?_ t
  · intro k n ks ih d u st
    rw [mt]
    split
    · split
      · split
        · exact ⟨rfl, rfl⟩
        · split <;> simp
      · exact ⟨rfl, rfl⟩
    · split
      · exact ih k d 0 _ _
      · exact ⟨rfl, rfl⟩
  · intro k d i us st; simp [mtL]
  · intro t ts h1 h2 k d i us st
    cases us with
    | nil => simp [mtL]
    | cons u us =>
      rw [mtL]
      split
      · have := h2 k d (i + 1) us (mt m add (d + under k i) t u st).2
        have := h1 (d + under k i) u st
        omega
      · exact h1 _ _ _
theorem validT_kid {k n : Int} {ks : List Tm} (h : validT (.mk k n ks) = true) {t : Tm} (ht : t ∈ ks) : validT t = true := by
  simp only [validT, Bool.and_eq_true, decide_eq_true_eq] at h ⊢
  obtain ⟨q, hq, _, _, _, hk⟩ := shape_pos h.1
  refine ⟨shape_up (by omega) t (hk t ht), ?_⟩
  have := sizes_le ht
  rw [Tm.size] at h
  omega

/-- the cells of a row of truth values -/
def bools (S : List Bool) : Array Value := (S.map Value.bool).toArray
theorem bools_set (S : List Bool) (j : Nat) (b : Bool) : (bools S).setIfInBounds j (.bool b) = bools (S.set j b) := by simp [bools, List.map_set]
theorem bools_get {S : List Bool} {j : Nat} (h : j < S.length) : (bools S)[j]? = some (.bool (S.getD j false)) := by simp [bools, List.getElem?_eq_getElem h]
end Go.Proofs.Ytefifcmieicnlaa
