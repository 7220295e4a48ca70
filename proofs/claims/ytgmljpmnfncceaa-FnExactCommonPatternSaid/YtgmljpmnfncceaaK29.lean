/-
  Texts that are common to the laws: Rows2, Reg3, Reg4, FGot, FCom. No condition.
-/
import Derived.Test.YtgmljpmnfncceaaK1
import Derived.Test.YtgmljpmnfncceaaK3
import Derived.Test.YtgmljpmnfncceaaK26

namespace Go.Proofs.Ytgmljpmnfncceaa
open Go.RowKit
set_option linter.unusedSimpArgs false
set_option linter.unusedVariables false

theorem ownsRow_frame {B n : Nat} {w w' : World} {v : Value} {xs : List Value} (h : w.ownsRow B 28 3 v n xs) (hk : ∀ g, v.ownBlock = some g → w'.heap[g]? = w.heap[g]?) : w'.ownsRow B 28 3 v n xs := by
  refine ⟨h.1, ?_⟩
  rcases h.2 with hn | ⟨g, cap, cur, rfl, hb, hg, r⟩
  · exact .inl hn
  · exact .inr ⟨g, cap, cur, rfl, hb, (hk g rfl).trans hg, r⟩
/-- where the terms of two slices may lie -/
def P2 (B : Nat) (E : Nat → Prop) (w : World) (v1 v2 : Value) (b : Nat) : Prop := B ≤ b ∧ b < w.heap.size ∧ v1.ownBlock ≠ some b ∧ v2.ownBlock ≠ some b ∧ ¬ E b
structure Rows2 (B : Nat) (E : Nat → Prop) (w : World) (v1 v2 : Value) (l r : List Tm) : Prop where
  body : ∃ xs ys, w.ownsRow B 28 3 v1 l.length xs ∧ w.ownsRow B 28 3 v2 r.length ys ∧ RdX (P2 B E w v1 v2) w l xs ∧ RdX (P2 B E w v1 v2) w r ys
  apart : ∀ g, v1.ownBlock = some g → v2.ownBlock ≠ some g
  e1 : ∀ g, v1.ownBlock = some g → ¬ E g
  e2 : ∀ g, v2.ownBlock = some g → ¬ E g
section
variable {B : Nat} {E E' : Nat → Prop} {w w' : World} {v1 v2 : Value} {l r : List Tm}
theorem Rows2.symm (h : Rows2 B E w v1 v2 l r) : Rows2 B E w v2 v1 r l := by
  obtain ⟨⟨xs, ys, h1, h2, h3, h4⟩, h5, h6, h7⟩ := h
  have hp : ∀ b, P2 B E w v1 v2 b → P2 B E w v2 v1 b := fun b hb => ⟨hb.1, hb.2.1, hb.2.2.2.1, hb.2.2.1, hb.2.2.2.2⟩
  exact ⟨⟨ys, xs, h2, h1, h4.keep hp fun _ _ _ => rfl, h3.keep hp fun _ _ _ => rfl⟩, fun g hg hg' => h5 g hg' hg, h7, h6⟩
theorem Rows2.nil : Rows2 B E w (.slice none 0 0) (.slice none 0 0) [] [] := ⟨⟨[], [], World.ownsRow_nil _ _ _ _, World.ownsRow_nil _ _ _ _, rfl, rfl⟩, fun g hg => (by cases hg), fun g hg => (by cases hg), fun g hg => (by cases hg)⟩
theorem Rows2.own (h : Rows2 B E w v1 v2 l r) : (∀ g, v1.ownBlock = some g → B ≤ g ∧ g < w.heap.size) ∧ (∀ g, v2.ownBlock = some g → B ≤ g ∧ g < w.heap.size) := by
  obtain ⟨⟨xs, ys, h1, h2, _⟩, _⟩ := h
  exact ⟨fun g hg => h1.lt g hg, fun g hg => h2.lt g hg⟩
theorem Rows2.mono (h : Rows2 B E w v1 v2 l r) (he : ∀ b, b < w.heap.size → E' b → E b) : Rows2 B E' w v1 v2 l r := by
  have ho := h.own
  obtain ⟨⟨xs, ys, h1, h2, h3, h4⟩, h5, h6, h7⟩ := h
  have hp : ∀ b, P2 B E w v1 v2 b → P2 B E' w v1 v2 b := fun b hb => ⟨hb.1, hb.2.1, hb.2.2.1, hb.2.2.2.1, fun e => hb.2.2.2.2 (he b hb.2.1 e)⟩
  exact ⟨⟨xs, ys, h1, h2, h3.keep hp fun _ _ _ => rfl, h4.keep hp fun _ _ _ => rfl⟩, h5, fun g hg e => h6 g hg (he g (ho.1 g hg).2 e), fun g hg e => h7 g hg (he g (ho.2 g hg).2 e)⟩
theorem Rows2.frame (h : Rows2 B E w v1 v2 l r) (hs : w.heap.size ≤ w'.heap.size) (hk : ∀ b, B ≤ b → b < w.heap.size → ¬ E b → w'.heap[b]? = w.heap[b]?) : Rows2 B E w' v1 v2 l r := by
  have ho := h.own
  obtain ⟨⟨xs, ys, h1, h2, h3, h4⟩, h5, h6, h7⟩ := h
  have hp : ∀ b, P2 B E w v1 v2 b → P2 B E w' v1 v2 b := fun b hb => ⟨hb.1, Nat.lt_of_lt_of_le hb.2.1 hs, hb.2.2⟩
  exact ⟨⟨xs, ys, ownsRow_frame h1 fun g hg => hk g (ho.1 g hg).1 (ho.1 g hg).2 (h6 g hg), ownsRow_frame h2 fun g hg => hk g (ho.2 g hg).1 (ho.2 g hg).2 (h7 g hg), h3.keep hp fun b hb hl => hk b hb.1 hl hb.2.2.2.2, h4.keep hp fun b hb hl => hk b hb.1 hl hb.2.2.2.2⟩, h5, h6, h7⟩
theorem Rows2.below (h : Rows2 B E w v1 v2 l r) (hb : Below w.heap.size w w') : Rows2 B E w' v1 v2 l r := h.frame hb.size fun b _ hl _ => hb.block b hl
theorem Rows2.alloc (h : Rows2 B E w v1 v2 l r) (o : Obj) : Rows2 B E (w.alloc o) v1 v2 l r := h.below ((Below.refl _ _).alloc (Nat.le_refl _) _)
theorem Rows2.drew (h : Rows2 B E w v1 v2 l r) : Rows2 B E w.drew v1 v2 l r := h.below (Below.refl _ _).drew
theorem Rows2.setCell (h : Rows2 B E w v1 v2 l r) {a : Addr} (ha : a.block < B ∨ E a.block ∨ w.heap.size ≤ a.block) (u : Value) : Rows2 B E (w.setCell a u) v1 v2 l r := h.frame (by simp) fun b hb hl he => Below.heap_setCell w a u b (by
  rcases ha with ha | ha | ha
  · omega
  · exact fun e => he (e ▸ ha)
  · omega)
theorem Rows2.grown {row : Option Nat} (h : Rows2 B E w v1 v2 l r) (hg : w.grownBy w' row) (hr : ∀ g, row = some g → g < B ∨ E g) : Rows2 B E w' v1 v2 l r := h.frame hg.size fun b hb hl he => hg.block b hl (fun e => by
  rcases hr b e.symm with h1 | h1
  · omega
  · exact he h1)
theorem RdX.rdRow {p : Nat → Prop} {B n : Nat} {w : World} {v : Value} {ts : List Tm} {xs : List Value} (h1 : w.ownsRow B 28 3 v ts.length xs) (h2 : RdX p w ts xs) (hp : ∀ b, p b → B ≤ b) : ∃ A c, v = .slice A ts.length c ∧ RdP (fun b => B ≤ b) w A 0 ts := by
  rcases h1.2 with ⟨rfl, h0⟩ | ⟨g, cap, cur, rfl, hb, hg, _, _, _, htk⟩
  · have : ts = [] := List.eq_nil_of_length_eq_zero h0
    subst this
    exact ⟨none, 0, rfl, RdP.nil⟩
  · refine ⟨_, _, rfl, RdX.rdp hb (h2.keep hp fun _ _ _ => rfl) fun j u hu => ?_⟩
    rw [show 0 + 0 * 3 + j = j by omega, cell_of_row w g j cur 28 (0, 0) hg]
    rw [← htk, List.getElem?_take] at hu
    split at hu
    · simpa using hu
    · cases hu
theorem Rows2.rd (h : Rows2 B E w v1 v2 l r) : ∃ A1 c1 A2 c2, v1 = .slice A1 l.length c1 ∧ v2 = .slice A2 r.length c2 ∧ RdP (fun b => B ≤ b) w A1 0 l ∧ RdP (fun b => B ≤ b) w A2 0 r := by
  obtain ⟨⟨xs, ys, h1, h2, h3, h4⟩, h5, _⟩ := h
  obtain ⟨A1, c1, e1, r1⟩ := RdX.rdRow (n := 0) h1 h3 fun b hb => hb.1
  obtain ⟨A2, c2, e2, r2⟩ := RdX.rdRow (n := 0) h2 h4 fun b hb => hb.1
  exact ⟨A1, c1, A2, c2, e1, e2, r1, r2⟩
/-- one term more in a slice -/
theorem run_append_gen {k n : Int} {ks : List Tm} {A : Option Addr} {c : Nat} {p q : Nat → Prop} {xs : List Value} (h1 : w.ownsRow B 28 3 v1 l.length xs) (h2 : RdX p w l xs) (hB : B ≤ w.heap.size) (hr : RdP q w A 0 ks) (hp : ∀ b, p b → v1.ownBlock ≠ some b) (hq : ∀ b, q b → v1.ownBlock ≠ some b) (hl : ks.length ≤ 9223372036854775807) (hlen : l.length ≤ 1099511627776) (g cc : Nat)
    (hb : Blk w g #[.int .i64 k, .int .i64 n, .slice A ks.length c]) (ty : TypeId) :
    ∃ v' w' xs', (Builtin.append_ #[26, 26] ty #[v1, .slice (some ⟨g, 0, none⟩) 1 cc]).run Try.prog w = .ok v' w' ∧ w'.ownsRow B 28 3 v' (l ++ [Tm.mk k n ks]).length xs' ∧ RdX (fun b => p b ∨ q b) w' (l ++ [.mk k n ks]) xs' ∧ w.grownBy w' v1.ownBlock ∧ (v'.ownBlock = v1.ownBlock ∨ v'.ownBlock = some w.heap.size) := by
  obtain ⟨i, hi, hz, hz1, hz2⟩ := info_parts tm_info
  obtain ⟨c0, c1, c2⟩ : w.cell? ⟨g, 0, none⟩ = some (.int .i64 k) ∧ w.cell? ⟨g, 1, none⟩ = some (.int .i64 n) ∧ w.cell? ⟨g, 2, none⟩ = some (.slice A ks.length c) := ⟨hb.at_ (i := 0) rfl, hb.at_ (i := 1) rfl, hb.at_ (i := 2) rfl⟩
  obtain ⟨v', w', hrun, hown, hg, _, hat⟩ := run_append_own_at (P := Try.prog) w B 26 ty 28 i _ 3 40 Try.underlying26 hi hz hz1 hz2 rfl (by omega) v1 l.length xs h1 ⟨g, 0, none⟩ 1 cc [.int .i64 k, .int .i64 n, .slice A ks.length c] rfl (by
    intro j u hj
    match j, hj with
    | 0, hj => simp only [List.getElem?_cons_zero, Option.some.injEq] at hj; subst hj; simpa [Addr.add] using c0
    | 1, hj => simp only [List.getElem?_cons_succ, List.getElem?_cons_zero, Option.some.injEq] at hj; subst hj; simpa [Addr.add] using c1
    | 2, hj => simp only [List.getElem?_cons_succ, List.getElem?_cons_zero, Option.some.injEq] at hj; subst hj; simpa [Addr.add] using c2) (by
    intro u hu
    simp only [List.mem_cons, List.not_mem_nil, or_false] at hu
    rcases hu with rfl | rfl | rfl <;> rfl) (by simp only [maxLen]; omega) (by omega) (by omega)
  exact ⟨v', w', _, hrun, by simpa using hown, RdX.append (show RdX (fun b => p b ∨ q b) w' [Tm.mk k n ks] _ from ⟨A, c, [], rfl, hl, (hr.blocks fun b hb hl => hg.block b hl (fun e => hq b hb e.symm)).mono fun b hb => .inr hb, rfl⟩) (h2.keep (fun b hb => .inl hb) fun b hb hl => hg.block b hl (fun e => hp b hb e.symm)), hg, hat⟩
theorem run_append_rows {k n : Int} {ks : List Tm} {A : Option Addr} {c : Nat} {q : Nat → Prop} (h : Rows2 B E w v1 v2 l r) (hB : B ≤ w.heap.size) (hE : ∀ b, E b → b < w.heap.size) (hr : RdP q w A 0 ks) (hq : ∀ b, q b → P2 B E w v1 v2 b) (hl : ks.length ≤ 9223372036854775807) (hlen : l.length ≤ 1099511627776) (g cc : Nat)
    (hb : Blk w g #[.int .i64 k, .int .i64 n, .slice A ks.length c]) (ty : TypeId) :
    ∃ v' w', (Builtin.append_ #[26, 26] ty #[v1, .slice (some ⟨g, 0, none⟩) 1 cc]).run Try.prog w = .ok v' w' ∧ Rows2 B E w' v' v2 (l ++ [.mk k n ks]) r ∧ w.grownBy w' v1.ownBlock ∧ (v'.ownBlock = v1.ownBlock ∨ v'.ownBlock = some w.heap.size) := by
  have ho := h.own
  obtain ⟨⟨xs, ys, h1, h2, h3, h4⟩, h5, h6, h7⟩ := h
  obtain ⟨v', w', xs', hrun, hown, hx, hg, hat⟩ := run_append_gen (k := k) (n := n) (c := c) h1 h3 hB hr (fun b hb => hb.2.2.1) (fun b hb' => (hq b hb').2.2.1) hl hlen g cc hb ty
  have hsz := hg.size
  have hne : ∀ b, b < w.heap.size → v1.ownBlock ≠ some b → v'.ownBlock ≠ some b := by
    intro b hb hv e
    rcases hat with e' | e'
    · exact hv (e'.symm.trans e)
    · rw [e'] at e; injection e with e; omega
  have hst : ∀ b, P2 B E w v1 v2 b → P2 B E w' v' v2 b := fun b hb => ⟨hb.1, by have := hb.2.1; omega, hne b hb.2.1 hb.2.2.1, hb.2.2.2⟩
  have hkp : ∀ b, P2 B E w v1 v2 b → b < w.heap.size → w'.heap[b]? = w.heap[b]? := fun b hb hl => hg.block b hl (fun e => hb.2.2.1 e.symm)
  refine ⟨v', w', hrun, ⟨⟨xs', ys, hown, ownsRow_frame h2 fun g hg' => hg.block g (ho.2 g hg').2 (fun e => h5 g e.symm hg'), hx.keep (fun b hb => hb.elim (hst b) (fun hb => hst b (hq b hb))) (fun _ _ _ => rfl), h4.keep hst hkp⟩, ?_, ?_, h7⟩, hg, hat⟩
  · intro g hg1 hg2
    rcases hat with e | e
    · exact h5 g (e.symm.trans hg1) hg2
    · rw [e] at hg1; injection hg1 with hg1; have := (ho.2 g hg2).2; omega
  · intro g hg1 hg2
    rcases hat with e | e
    · exact h6 g (e.symm.trans hg1) hg2
    · rw [e] at hg1; injection hg1 with hg1; have := hE g hg2; omega
theorem RdX.take {p : Nat → Prop} {w : World} {us : List Tm} : ∀ {ts : List Tm} {xs : List Value}, RdX p w (ts ++ us) xs → RdX p w ts (xs.take (ts.length * 3))
  | [], xs, h => by simp [RdX]
  | .mk k n ks :: ts, xs, h => by
    obtain ⟨A, c, ys, rfl, hl, hr, hx⟩ := h
    refine ⟨A, c, ys.take (ts.length * 3), ?_, hl, hr, hx.take⟩
    rw [List.length_cons, Nat.succ_mul]
    simp [List.take]
theorem ownsRow_take {n m c : Nat} {A : Option Addr} {xs : List Value} (h : w.ownsRow B 28 3 (.slice A n c) n xs) (hm : m ≤ n) : w.ownsRow B 28 3 (.slice A m c) m (xs.take (m * 3)) := by
  refine ⟨by rw [List.length_take, h.1]; omega, ?_⟩
  rcases h.2 with ⟨e, h0⟩ | ⟨g, cap, cur, e, hb, hg, h1, h2, h3, h4⟩
  · injection e with e1 e2 e3
    subst e1 e3
    obtain rfl : m = 0 := by omega
    exact .inl ⟨rfl, rfl⟩
  · injection e with e1 e2 e3
    subst e1 e3
    exact .inr ⟨g, c, cur, rfl, hb, hg, by omega, h2, h3, by rw [← h4, List.take_take, Nat.min_eq_left (by omega)]⟩
/-- both cut back -/
theorem Rows2.take {A1 A2 : Option Addr} {c1 c2 : Nat} {m1 m2 : List Tm} (h : Rows2 B E w (.slice A1 (l ++ m1).length c1) (.slice A2 (r ++ m2).length c2) (l ++ m1) (r ++ m2)) : Rows2 B E w (.slice A1 l.length c1) (.slice A2 r.length c2) l r := by
  obtain ⟨⟨xs, ys, h1, h2, h3, h4⟩, h5, h6, h7⟩ := h
  have e1 : ∀ n m, (Value.slice A1 n c1).ownBlock = (Value.slice A1 m c1).ownBlock := fun n m => by cases A1 <;> rfl
  have e2 : ∀ n m, (Value.slice A2 n c2).ownBlock = (Value.slice A2 m c2).ownBlock := fun n m => by cases A2 <;> rfl
  have hp : ∀ b, P2 B E w (.slice A1 (l ++ m1).length c1) (.slice A2 (r ++ m2).length c2) b → P2 B E w (.slice A1 l.length c1) (.slice A2 r.length c2) b := fun b hb => ⟨hb.1, hb.2.1, by rw [e1 _ (l ++ m1).length]; exact hb.2.2.1, by rw [e2 _ (r ++ m2).length]; exact hb.2.2.2.1, hb.2.2.2.2⟩
  refine ⟨⟨_, _, ownsRow_take h1 (by simp), ownsRow_take h2 (by simp), (h3.take).keep hp fun _ _ _ => rfl, (h4.take).keep hp fun _ _ _ => rfl⟩, fun g hg hg' => h5 g ?_ ?_, fun g hg => h6 g ?_, fun g hg => h7 g ?_⟩
  · rw [e1 _ l.length]; exact hg
  · rw [e2 _ r.length]; exact hg'
  · rw [e1 _ l.length]; exact hg
  · rw [e2 _ r.length]; exact hg
end
end Go.Proofs.Ytgmljpmnfncceaa

namespace Go.Proofs.Ytgmljpmnfncceaa
open Go.RowKit
set_option linter.unusedSimpArgs false
set_option linter.unusedVariables false

section
variable {P : Program} {ops : Array Oper} {Q : Exit → Act → World → Prop} {S : World → Prop} {need : Nat → Bool}
theorem mid_out {K : Act → World → Prop} {a : Act} {w : World} (h : Mid S K Q .normal a w) : S w ∧ K a w := by unfold Mid at h; exact h
theorem mid_else {K : Act → World → Prop} {e : Exit} {a : Act} {w : World} (he : e ≠ .normal) (h : Mid S K Q e a w) : Q e a w := by
  unfold Mid at h
  cases e <;> first | exact absurd rfl he | exact h
/-- so many operations in any order, behind each of them S; then B -/
def wpAnyA (P : Program) (ops : Array Oper) (Q : Exit → Act → World → Prop) (S : World → Prop) (B : List Nat) : Nat → Array Bool → Act → World → Prop
  | 0, l, a, w => simR ops B l = true ∧ wpList P ops Q (sel ops B) a w
  | n + 1, l, a, w => Region.ready .any ops l ≠ [] ∧ ∀ i ∈ Region.ready .any ops l, ∀ o, ops[i]? = some o → wpList P ops (Mid S (wpAnyA P ops Q S B n (l.setIfInBounds i true)) Q) [o] a w
theorem anyA_ok {B : List Nat} (hneed : ∀ j, j ∈ B → need j = false) : ∀ (n fuel : Nat) (listed : Array Bool) (a : Act) (w : World), n + B.length ≤ fuel → wpAnyA P ops Q S B n listed a w → wpAnyN P ops Q S need fuel listed a w := by
  intro n
  induction n with
  | zero =>
    intro fuel listed a w hf h
    exact rest_ok (S := S) hneed [] fuel listed a w (by simpa using hf) h.1 (by rw [sel, List.filterMap_nil, wpThen]; exact h.2)
  | succ n ih =>
    intro fuel listed a w hf h
    cases fuel with
    | zero => omega
    | succ f =>
      refine ⟨fun h0 => absurd h0 h.1, fun i hi => ?_⟩
      obtain ⟨_, o, ho, _⟩ := mem_ready.1 hi
      refine wpOp_of_list ho (fun a w hh => ⟨fun _ => (mid_out hh).1, ih f _ a w (by omega) (mid_out hh).2⟩) (fun e a w he hh => mid_else he hh) (h.2 i hi o ho)
def firstAOk (ops : Array Oper) (T B : List Nat) (n : Nat) : Bool :=
  Region.noSelect ops && (simT ops T (Array.replicate ops.size false)).isSome && B.all (fun j => T.all fun i => pre ops ops.size j i) && (T.length + (n + B.length) == ops.size)
/-- **a region that draws its order**: the operations T first, each of which yields one value in every world that meets S; then n more in any order, behind each of which S holds; then B -/
theorem wp_region_firstA {id : Nat} {a : Act} {w : World} (S : World → Prop) (T B : List Nat) (n : Nat) (lT : List Oper) (l' : Array Bool) (hm : P.follows .mixedOrders = true) (hk : firstAOk ops T B n = true) (hl : simT ops T (Array.replicate ops.size false) = some l')
    (hT : sel ops T = lT) (hQ : ∀ c (a : Act) d v w, Q (.panic c) (a.put d v) w → Q (.panic c) a w) (hS : S w.drew)
    (h : wpTakeY P ops S (fun a' => wpAnyA P ops Q S B n l' a' w.drew) lT a) : (Code.region id ops true).wp P Q a w := by
  subst hT
  refine wp_region_any hm (wpAny_of_N (S := S) (need := fun j => !B.contains j) _ _ _ _ ?_)
  simp only [firstAOk, Bool.and_eq_true, beq_iff_eq] at hk
  obtain ⟨⟨⟨hsel, hsim⟩, hpre⟩, hlen⟩ := hk
  rw [show ops.size = T.length + (n + B.length) from hlen.symm]
  rw [show Array.replicate (T.length + (n + B.length)) false = Array.replicate ops.size false from by rw [hlen]]
  refine takesY_ok hsel hQ (w := w.drew) hS T _ _ l' a (fun i hi listed hcl hr j hj hne => ?_) Closed.start hl (wpTakeY_mono (fun a' h' _ => anyA_ok (fun j hj => ?_) n _ _ _ _ (Nat.le_refl _) h') _ _ h)
  · rw [Bool.not_eq_true', List.contains_eq_mem, decide_eq_false_iff_not]
    intro hjB
    have h1 := List.all_eq_true.1 (List.all_eq_true.1 hpre j hjB) i hi
    have h2 := hcl.ready hj h1
    have h3 := (mem_ready.1 hr).1
    rcases Nat.lt_or_ge i listed.size with h' | h'
    · simp [h'] at h2 h3; rw [h3] at h2; cases h2
    · simp [Array.getElem?_eq_none h'] at h2
  · simp [hj]
theorem wpAnyN_weak {S' : World → Prop} {need' : Nat → Bool} (hw : ∀ w, S' w) : ∀ (fuel : Nat) (l : Array Bool) (a : Act) (w : World), wpAnyN P ops Q S need fuel l a w → wpAnyN P ops Q S' need' fuel l a w
  | 0, _, _, _, h => h
  | fuel + 1, l, a, w, h => ⟨h.1, fun i hi => wpOp_mono (fun a' w' h' => ⟨fun _ => hw w', wpAnyN_weak hw fuel _ a' w' h'.2⟩) (h.2 i hi)⟩
def firstA2Ok (ops : Array Oper) (T0 T B : List Nat) (n : Nat) : Bool :=
  Region.noSelect ops && B.all (fun j => T.all fun i => pre ops ops.size j i) && (T0.length + (T.length + (n + B.length)) == ops.size)
/-- the same, with operations T0 ahead that read no memory -/
theorem wp_region_firstA2 {id : Nat} {a : Act} {w : World} (S : World → Prop) (T0 T B : List Nat) (n : Nat) (lT0 lT : List Oper) (l0 l' : Array Bool) (hm : P.follows .mixedOrders = true) (hk : firstA2Ok ops T0 T B n = true) (hl0 : simT ops T0 (Array.replicate ops.size false) = some l0) (hl : simT ops T l0 = some l')
    (hT0 : sel ops T0 = lT0) (hT : sel ops T = lT) (hQ : ∀ c (a : Act) d v w, Q (.panic c) (a.put d v) w → Q (.panic c) a w) (hS : S w.drew)
    (h : wpTakeY P ops (fun _ => True) (fun a0 => wpTakeY P ops S (fun a' => wpAnyA P ops Q S B n l' a' w.drew) lT a0) lT0 a) : (Code.region id ops true).wp P Q a w := by
  subst hT0 hT
  refine wp_region_any hm (wpAny_of_N (S := fun _ => True) (need := fun _ => true) _ _ _ _ ?_)
  simp only [firstA2Ok, Bool.and_eq_true, beq_iff_eq] at hk
  obtain ⟨⟨hsel, hpre⟩, hlen⟩ := hk
  rw [show ops.size = T0.length + (T.length + (n + B.length)) from hlen.symm]
  rw [show Array.replicate (T0.length + (T.length + (n + B.length))) false = Array.replicate ops.size false from by rw [hlen]]
  refine takesY_ok hsel hQ (w := w.drew) trivial T0 _ _ l0 a (fun i hi listed hcl hr j hj hne => rfl) Closed.start hl0 (wpTakeY_mono (fun a0 h0 hc0 => ?_) _ _ h)
  refine wpAnyN_weak (S := S) (need := fun j => !B.contains j) (fun _ => trivial) _ _ _ _ ?_
  refine takesY_ok hsel hQ (w := w.drew) hS T _ _ l' a0 (fun i hi listed hcl hr j hj hne => ?_) hc0 hl (wpTakeY_mono (fun a' h' _ => anyA_ok (fun j hj => ?_) n _ _ _ _ (Nat.le_refl _) h') _ _ h0)
  · rw [Bool.not_eq_true', List.contains_eq_mem, decide_eq_false_iff_not]
    intro hjB
    have h1 := List.all_eq_true.1 (List.all_eq_true.1 hpre j hjB) i hi
    have h2 := hcl.ready hj h1
    have h3 := (mem_ready.1 hr).1
    rcases Nat.lt_or_ge i listed.size with h' | h'
    · simp [h'] at h2 h3; rw [h3] at h2; cases h2
    · simp [Array.getElem?_eq_none h'] at h2
  · simp [hj]
/-- one way on -/
theorem anyA_one {B : List Nat} {n i : Nat} {l : Array Bool} {a : Act} {w : World} {o : Oper} (hr : Region.ready .any ops l = [i]) (ho : ops[i]? = some o) (h : wpList P ops (Mid S (wpAnyA P ops Q S B n (l.setIfInBounds i true)) Q) [o] a w) : wpAnyA P ops Q S B (n + 1) l a w := by
  rw [wpAnyA, hr]
  refine ⟨by simp, fun i' hi o' ho' => ?_⟩
  obtain rfl : i' = i := by simpa using hi
  rw [ho] at ho'
  injection ho' with ho'
  subst ho'
  exact h
/-- two ways on -/
theorem anyA_two {B : List Nat} {n i j : Nat} {l : Array Bool} {a : Act} {w : World} {o o2 : Oper} (hr : Region.ready .any ops l = [i, j]) (ho : ops[i]? = some o) (ho2 : ops[j]? = some o2) (h : wpList P ops (Mid S (wpAnyA P ops Q S B n (l.setIfInBounds i true)) Q) [o] a w)
    (h2 : wpList P ops (Mid S (wpAnyA P ops Q S B n (l.setIfInBounds j true)) Q) [o2] a w) : wpAnyA P ops Q S B (n + 1) l a w := by
  rw [wpAnyA, hr]
  refine ⟨by simp, fun i' hi o' ho' => ?_⟩
  simp only [List.mem_cons, List.not_mem_nil, or_false] at hi
  rcases hi with rfl | rfl
  · rw [ho] at ho'
    injection ho' with ho'
    subst ho'
    exact h
  · rw [ho2] at ho'
    injection ho' with ho'
    subst ho'
    exact h2
theorem anyA_end {B : List Nat} {l : Array Bool} {a : Act} {w : World} {lB : List Oper} (hk : simR ops B l = true) (hB : sel ops B = lB) (h : wpList P ops Q lB a w) : wpAnyA P ops Q S B 0 l a w := by
  subst hB; rw [wpAnyA]; exact ⟨hk, h⟩
end
attribute [irreducible] wpAnyA
end Go.Proofs.Ytgmljpmnfncceaa

namespace Go.Proofs.Ytgmljpmnfncceaa
open Go.RowKit
set_option linter.unusedSimpArgs false
set_option linter.unusedVariables false

section
variable {P : Program} {ops : Array Oper} {Q : Exit → Act → World → Prop} {S : World → Prop} {B : List Nat}
/-- what is left of the region: f operations and more, in whatever order; S behind each that is not of B -/
def gC (P : Program) (ops : Array Oper) (Q : Exit → Act → World → Prop) (S : World → Prop) (B : List Nat) (f : Nat) (l : Array Bool) (a : Act) (w : World) : Prop :=
  Closed ops l → wpAnyN P ops Q S (fun j => !B.contains j) f l a w
theorem gC_start {id : Nat} {a : Act} {w : World} (S : World → Prop) (B : List Nat) (f : Nat) (hm : P.follows .mixedOrders = true) (hf : ops.size = f) (h : gC P ops Q S B f (Array.replicate f false) a w.drew) : (Code.region id ops true).wp P Q a w := by
  subst hf
  exact wp_region_any hm (wpAny_of_N (S := S) (need := fun j => !B.contains j) _ _ _ _ (h Closed.start))
theorem gC_startT {id : Nat} {a : Act} {w : World} (S : World → Prop) (B T0 : List Nat) (f : Nat) {lT0 : List Oper} {l0 : Array Bool} (hm : P.follows .mixedOrders = true) (hsel : Region.noSelect ops = true) (hf : ops.size = T0.length + f) (hl : simT ops T0 (Array.replicate (T0.length + f) false) = some l0) (hT : sel ops T0 = lT0)
    (hQ : ∀ c (a : Act) d v w, Q (.panic c) (a.put d v) w → Q (.panic c) a w)
    (h : wpTakeY P ops (fun _ => True) (fun a0 => gC P ops Q S B f l0 a0 w.drew) lT0 a) : (Code.region id ops true).wp P Q a w := by
  subst hT
  refine wp_region_any hm (wpAny_of_N (S := fun _ => True) (need := fun _ => true) _ _ _ _ ?_)
  rw [hf]
  refine takesY_ok hsel hQ (w := w.drew) trivial T0 _ _ l0 a (fun i hi listed hcl hr j hj hne => rfl) (by rw [← hf]; exact Closed.start) hl (wpTakeY_mono (fun a0 h0 hc0 => ?_) _ _ h)
  exact wpAnyN_weak (S := S) (need := fun j => !B.contains j) (fun _ => trivial) _ _ _ _ (h0 hc0)
theorem gC_take {l l' : Array Bool} {a : Act} {w : World} {f F : Nat} (T : List Nat) {lT : List Oper} (hS : S w) (hF : F = T.length + f) (hsel : Region.noSelect ops = true) (hl : simT ops T l = some l') (hpre : (B.all fun j => T.all fun i => pre ops ops.size j i) = true) (hT : sel ops T = lT)
    (hQ : ∀ c (a : Act) d v w, Q (.panic c) (a.put d v) w → Q (.panic c) a w)
    (h : wpTakeY P ops S (fun a' => gC P ops Q S B f l' a' w) lT a) : gC P ops Q S B F l a w := by
  subst hT hF
  intro hcl
  refine takesY_ok hsel hQ hS T _ _ l' a (fun i hi listed hcl hr j hj hne => ?_) hcl hl h
  rw [Bool.not_eq_true', List.contains_eq_mem, decide_eq_false_iff_not]
  intro hjB
  have h1 := List.all_eq_true.1 (List.all_eq_true.1 hpre j hjB) i hi
  have h2 := hcl.ready hj h1
  have h3 := (mem_ready.1 hr).1
  rcases Nat.lt_or_ge i listed.size with h' | h'
  · simp [h'] at h2 h3; rw [h3] at h2; cases h2
  · simp [Array.getElem?_eq_none h'] at h2
theorem wpAnyN_firstT {need : Nat → Bool} {i : Nat} {oi : Oper} {v : Value} (hi : ops[i]? = some oi) (hsel : ∀ (j : Nat) (o : Oper) cs b, ops[j]? = some o → o.op ≠ .select cs b)
    (hQ : ∀ c a w, Q (.panic c) (a.put oi.dst v) w → Q (.panic c) a w) (hni : need i = false) :
    ∀ (fuel : Nat) (listed : Array Bool) (a : Act) (w : World), Closed ops listed →
      (∀ j oj, ops[j]? = some oj → j ≠ i → listed.getD j true = false → (∀ e ∈ oj.after, Region.binds .any e = true → e.on ≠ i) → oi.apart ops oj = true) →
      i ∈ Region.ready .any ops listed → YIf P ops (fun _ => True) oi v a →
      wpAnyN P ops Q S need fuel (listed.setIfInBounds i true) (a.put oi.dst v) w → wpAnyN P ops Q S need (fuel + 1) listed a w := by
  intro fuel
  induction fuel with
  | zero =>
    intro listed a w hcl _ hr hy H
    refine ⟨fun h => (by rw [h] at hr; cases hr), fun j hj => ?_⟩
    by_cases hji : j = i
    · subst hji; exact hy.wpOp hi trivial ⟨fun h => (by rw [hni] at h; cases h), H⟩
    · have := ready_mono hj hji
      rw [H.1] at this
      cases this
  | succ fuel ih =>
    intro listed a w hcl hfree hr hy H
    refine ⟨fun h => (by rw [h] at hr; cases hr), fun j hj => ?_⟩
    by_cases hji : j = i
    · subst hji; exact hy.wpOp hi trivial ⟨fun h => (by rw [hni] at h; cases h), H⟩
    · have h1 := H.2 j (ready_mono hj hji)
      obtain ⟨hjun, oj, hoj, hall⟩ := mem_ready.1 hj
      have hnot : ∀ e ∈ oj.after, Region.binds .any e = true → e.on ≠ i := fun e he hb heq => by
        have h1 := hall e he hb
        have h0 := (mem_ready.1 hr).1
        rw [heq] at h1
        rcases Nat.lt_or_ge i listed.size with h' | h'
        · simp [h'] at h0 h1; rw [h0] at h1; cases h1
        · simp [Array.getElem?_eq_none h'] at h1
      have h2 := wpOp_putY hoj (hfree j oj hoj hji hjun hnot) (fun cs b => hsel i oi cs b hi) (fun cs b => hsel j oj cs b hoj) hQ hy h1
      have hfree' : ∀ k ok, ops[k]? = some ok → k ≠ i → (listed.setIfInBounds j true).getD k true = false →
          (∀ e ∈ ok.after, Region.binds .any e = true → e.on ≠ i) → oi.apart ops ok = true := fun k ok hk hki hun hno => by
        refine hfree k ok hk hki ?_ hno
        by_cases hjk : j = k
        · subst hjk; exact hjun
        · rw [getD_set_ne true hjk] at hun; exact hun
      refine wpOp_mono (fun a' w' h3 => ⟨h3.2.1, ih (listed.setIfInBounds j true) a' w' (hcl.step hj) hfree' (ready_mono hr (Ne.symm hji)) h3.1 ?_⟩) h2
      rw [Array.setIfInBounds_comm _ _ hji]
      exact h3.2.2
theorem takesT_ok {need : Nat → Bool} (hsel : Region.noSelect ops = true) (hQ : ∀ c (a : Act) d v w, Q (.panic c) (a.put d v) w → Q (.panic c) a w) {w : World} : ∀ (T : List Nat) (fuel : Nat) (listed l' : Array Bool) (a : Act),
    (∀ i, i ∈ T → need i = false) →
    Closed ops listed → simT ops T listed = some l' → wpTakeY P ops (fun _ => True) (fun a' => Closed ops l' → wpAnyN P ops Q S need fuel l' a' w) (sel ops T) a → wpAnyN P ops Q S need (T.length + fuel) listed a w := by
  intro T
  induction T with
  | nil =>
    intro fuel listed l' a _ hcl hs h
    simp only [simT, Option.some.injEq] at hs
    subst hs
    rw [List.length_nil, Nat.zero_add]
    rw [sel, List.filterMap_nil, wpTakeY] at h
    exact h hcl
  | cons i T ih =>
    intro fuel listed l' a hn hcl hs h
    rw [simT] at hs
    split at hs
    case isFalse => cases hs
    rename_i hc
    rw [Bool.and_eq_true] at hc
    have hm : i ∈ Region.ready .any ops listed := by simpa using hc.1
    obtain ⟨_, o, ho, _⟩ := mem_ready.1 hm
    rw [sel_cons ho, wpTakeY] at h
    rw [List.length_cons, Nat.add_right_comm]
    split at h
    · rename_i hw
      obtain ⟨v, hv, hnext⟩ := h
      exact wpAnyN_firstT ho (Region.noSelect_spec hsel) (fun c a w hh => hQ c a _ _ w hh) (hn i (by simp)) _ _ _ _ hcl (Region.free_spec ho hc.2) hm (hv.yif hw)
        (ih _ _ _ _ (fun k hk => hn k (by simp [hk])) (hcl.step hm) hs hnext)
    · rename_i hw
      exact wpAnyN_firstT ho (Region.noSelect_spec hsel) (fun c a w hh => hQ c a _ _ w hh) (hn i (by simp)) _ _ _ _ hcl (Region.free_spec ho hc.2) hm (.inr (.inl ⟨by simpa using hw, rfl⟩))
        (ih _ _ _ _ (fun k hk => hn k (by simp [hk])) (hcl.step hm) hs h)
/-- operations of B that read no memory, taken as soon as they come up -/
theorem gC_takeT {l l' : Array Bool} {a : Act} {w : World} {f F : Nat} (T : List Nat) {lT : List Oper} (hF : F = T.length + f) (hsel : Region.noSelect ops = true) (hl : simT ops T l = some l') (hTB : (T.all fun i => B.contains i) = true) (hT : sel ops T = lT)
    (hQ : ∀ c (a : Act) d v w, Q (.panic c) (a.put d v) w → Q (.panic c) a w)
    (h : wpTakeY P ops (fun _ => True) (fun a' => gC P ops Q S B f l' a' w) lT a) : gC P ops Q S B F l a w := by
  subst hT hF
  intro hcl
  exact takesT_ok hsel hQ T _ _ l' a (fun i hi => by have := List.all_eq_true.1 hTB i hi; simpa using this) hcl hl h
theorem gC_any {l : Array Bool} {a : Act} {w : World} {f : Nat} (hne : Region.ready .any ops l ≠ [])
    (h : ∀ i ∈ Region.ready .any ops l, ∀ o, ops[i]? = some o → wpList P ops (Mid S (gC P ops Q S B f (l.setIfInBounds i true)) Q) [o] a w) : gC P ops Q S B (f + 1) l a w := by
  intro hcl
  refine ⟨fun h0 => absurd h0 hne, fun i hi => ?_⟩
  obtain ⟨_, o, ho, _⟩ := mem_ready.1 hi
  exact wpOp_of_list ho (fun a w hh => ⟨fun _ => (mid_out hh).1, (mid_out hh).2 (hcl.step hi)⟩) (fun e a w he hh => mid_else he hh) (h i hi o ho)
theorem gC_one {i : Nat} {l : Array Bool} {a : Act} {w : World} {f : Nat} {o : Oper} (hr : Region.ready .any ops l = [i]) (ho : ops[i]? = some o)
    (h : wpList P ops (Mid S (gC P ops Q S B f (l.setIfInBounds i true)) Q) [o] a w) : gC P ops Q S B (f + 1) l a w := by
  refine gC_any (by rw [hr]; simp) fun i' hi o' ho' => ?_
  rw [hr] at hi
  obtain rfl : i' = i := by simpa using hi
  rw [ho] at ho'
  injection ho' with ho'
  subst ho'
  exact h
theorem gC_two {i j : Nat} {l : Array Bool} {a : Act} {w : World} {f : Nat} {o o2 : Oper} (hr : Region.ready .any ops l = [i, j]) (ho : ops[i]? = some o) (ho2 : ops[j]? = some o2)
    (h : wpList P ops (Mid S (gC P ops Q S B f (l.setIfInBounds i true)) Q) [o] a w) (h2 : wpList P ops (Mid S (gC P ops Q S B f (l.setIfInBounds j true)) Q) [o2] a w) : gC P ops Q S B (f + 1) l a w := by
  refine gC_any (by rw [hr]; simp) fun i' hi o' ho' => ?_
  rw [hr] at hi
  simp only [List.mem_cons, List.not_mem_nil, or_false] at hi
  rcases hi with rfl | rfl
  · rw [ho] at ho'
    injection ho' with ho'
    subst ho'
    exact h
  · rw [ho2] at ho'
    injection ho' with ho'
    subst ho'
    exact h2
theorem gC_end {l : Array Bool} {a : Act} {w : World} {f : Nat} (R : List Nat) {lB : List Oper} (hf : R.length ≤ f) (hRB : (R.all fun j => B.contains j) = true) (hk : simR ops R l = true) (hB : sel ops R = lB) (h : wpList P ops Q lB a w) : gC P ops Q S B f l a w := by
  subst hB
  intro _
  exact rest_ok (S := S) (fun j hj => by have := List.all_eq_true.1 hRB j hj; simpa using this) [] f l a w (by simpa using hf) hk (by rw [sel, List.filterMap_nil, wpThen]; exact h)
end
attribute [irreducible] gC
end Go.Proofs.Ytgmljpmnfncceaa

namespace Go.Proofs.Ytgmljpmnfncceaa
open Go.RowKit
set_option linter.unusedSimpArgs false
set_option linter.unusedVariables false

/-- what a finding's call may change -/
structure Chg (gf : Nat) (v1 v2 : Value) (w w' : World) : Prop where
  os : w'.os = w.os
  tape : w'.tape = w.tape
  output : w'.output = w.output
  size : w.heap.size ≤ w'.heap.size
  block : ∀ b, b < w.heap.size → b ≠ gf → v1.ownBlock ≠ some b → v2.ownBlock ≠ some b → w'.heap[b]? = w.heap[b]?
theorem Chg.of_below {gf : Nat} {v1 v2 : Value} {w w' : World} (h : Below w.heap.size w w') : Chg gf v1 v2 w w' := ⟨h.os, h.tape, h.output, h.size, fun b hb _ _ _ => h.block b hb⟩
/-- a slice that may have grown: its row is the old one, or new -/
def OwnTo (w : World) (v v' : Value) : Prop := v'.ownBlock = v.ownBlock ∨ ∃ g, w.heap.size ≤ g ∧ v'.ownBlock = some g
theorem OwnTo.refl (w : World) (v : Value) : OwnTo w v v := .inl rfl
/-- what a finding's call answers -/
def FnGot (B : Nat) (E : Nat → Prop) (gf : Nat) (v1 v2 : Value) (w : World) (st : Prs) (res : Option (Tm × Prs)) (e : Ending) (w' : World) : Prop :=
  ∃ v1' v2', Chg gf v1 v2 w w' ∧ OwnTo w v1 v1' ∧ OwnTo w v2 v2' ∧ Blk w' gf #[v1', v2'] ∧
    match res with
    | none => e = .returned (.tuple #[.agg #[.int .i64 0, .int .i64 0, .slice none 0 0], .bool false]) ∧ Rows2 B E w' v1' v2' st.1 st.2
    | some (o, st') => (∃ A c, e = .returned (.tuple #[.agg #[.int .i64 o.k, .int .i64 o.n, .slice A o.ks.length c], .bool true]) ∧ o.ks.length ≤ 9223372036854775807 ∧ RdP (fun b => w.heap.size ≤ b ∧ v1'.ownBlock ≠ some b ∧ v2'.ownBlock ≠ some b) w' A 0 o.ks) ∧ Rows2 B E w' v1' v2' st'.1 st'.2
theorem gotO_noneF {w : World} {e : Ending} {w' : World} (h : GotO w none e w') : e = .returned (.tuple #[.agg #[.int .i64 0, .int .i64 0, .slice none 0 0], .bool false]) ∧ Below w.heap.size w w' := h
theorem gotO_someF {w : World} {k n : Int} {ks : List Tm} {e : Ending} {w' : World} (h : GotO w (some (.mk k n ks)) e w') : ∃ A c, e = .returned (.tuple #[.agg #[.int .i64 k, .int .i64 n, .slice A ks.length c], .bool true]) ∧ ks.length ≤ 9223372036854775807 ∧ Fresh w.heap.size w' A ks ∧ Below w.heap.size w w' := h
def S3 (gf g1 g2 : Nat) (c0 c1 c2 : Array Value) (w : World) : Prop := Blk w gf c0 ∧ Blk w g1 c1 ∧ Blk w g2 c2
theorem S3.alloc {gf g1 g2 : Nat} {c0 c1 c2 : Array Value} {w : World} (h : S3 gf g1 g2 c0 c1 c2 w) (o : Obj) : S3 gf g1 g2 c0 c1 c2 (w.alloc o) := ⟨h.1.alloc o, h.2.1.alloc o, h.2.2.alloc o⟩
theorem S3.grown {gf g1 g2 : Nat} {c0 c1 c2 : Array Value} {w w' : World} {row : Option Nat} (h : S3 gf g1 g2 c0 c1 c2 w) (hg : w.grownBy w' row) (h0 : some gf ≠ row) (h1 : some g1 ≠ row) (h2 : some g2 ≠ row) : S3 gf g1 g2 c0 c1 c2 w' := ⟨h.1.grown hg h0, h.2.1.grown hg h1, h.2.2.grown hg h2⟩
theorem Chg.alloc {gf : Nat} {v1 v2 : Value} {w w' : World} (h : Chg gf v1 v2 w w') (o : Obj) : Chg gf v1 v2 w (w'.alloc o) := ⟨h.os, h.tape, h.output, Nat.le_trans h.size (by simp), fun b hb h1 h2 h3 => (Below.heap_alloc w' o b (Nat.lt_of_lt_of_le hb h.size)).trans (h.block b hb h1 h2 h3)⟩
theorem Chg.drew {gf : Nat} {v1 v2 : Value} {w w' : World} (h : Chg gf v1 v2 w w') : Chg gf v1 v2 w w'.drew := ⟨h.os, h.tape, h.output, h.size, h.block⟩
theorem Chg.grown1 {gf : Nat} {v1 v2 : Value} {w w' w'' : World} (h : Chg gf v1 v2 w w') (hg : w'.grownBy w'' v1.ownBlock) : Chg gf v1 v2 w w'' :=
  ⟨hg.os.trans h.os, hg.tape.trans h.tape, hg.output.trans h.output, Nat.le_trans h.size hg.size, fun b hb h1 h2 h3 => (hg.block b (Nat.lt_of_lt_of_le hb h.size) (fun e => h2 e.symm)).trans (h.block b hb h1 h2 h3)⟩
theorem Chg.grown2 {gf : Nat} {v1 v2 : Value} {w w' w'' : World} (h : Chg gf v1 v2 w w') (hg : w'.grownBy w'' v2.ownBlock) : Chg gf v1 v2 w w'' :=
  ⟨hg.os.trans h.os, hg.tape.trans h.tape, hg.output.trans h.output, Nat.le_trans h.size hg.size, fun b hb h1 h2 h3 => (hg.block b (Nat.lt_of_lt_of_le hb h.size) (fun e => h3 e.symm)).trans (h.block b hb h1 h2 h3)⟩
theorem Chg.set {gf : Nat} {v1 v2 : Value} {w w' : World} (h : Chg gf v1 v2 w w') {p : Addr} (hp : p.block = gf ∨ w.heap.size ≤ p.block) (u : Value) : Chg gf v1 v2 w (w'.setCell p u) :=
  ⟨h.os, h.tape, h.output, by simpa using h.size, fun b hb h1 h2 h3 => (Below.heap_setCell w' p u b (by rcases hp with e | e; exact fun e' => h1 (e'.trans e); omega)).trans (h.block b hb h1 h2 h3)⟩
theorem name_midw {S : World → Prop} {K : Act → World → Prop} {Q : Exit → Act → World → Prop} {a : Act} {w : World} (h : ∀ wx, wx = w → Mid S K Q .normal a wx) : Mid S K Q .normal a w := h w rfl
theorem wpList_append_rows {B : Nat} {E : Nat → Prop} {w : World} {v1 v2 : Value} {l r : List Tm} {k n : Int} {ks : List Tm} {A : Option Addr} {c : Nat} {q : Nat → Prop} (h : Rows2 B E w v1 v2 l r) (hB : B ≤ w.heap.size) (hE : ∀ b, E b → b < w.heap.size) (hr : RdP q w A 0 ks) (hq : ∀ b, q b → P2 B E w v1 v2 b) (hl : ks.length ≤ 9223372036854775807) {m : Nat} (hm : l.length = m) (hlen : m ≤ 1099511627776) (g cc : Nat)
    (hb : Blk w g #[.int .i64 k, .int .i64 n, .slice A ks.length c])
    {ops : Array Oper} {rest : List Oper} {o : Oper} {a : Act} {Q : Exit → Act → World → Prop} (hgd : o.guard = none) (s x : Operand)
    (ho : o.op = .call { callee := .builtin .append, args := #[s, x], argTypes := #[26, 26] }) (hse : a.eval s = v1) (hx : a.eval x = .slice (some ⟨g, 0, none⟩) 1 cc)
    (h' : ∀ A' c' w', Rows2 B E w' (.slice A' (m + 1) c') v2 (l ++ [.mk k n ks]) r → w.grownBy w' v1.ownBlock → ((Value.slice A' (m + 1) c').ownBlock = v1.ownBlock ∨ (Value.slice A' (m + 1) c').ownBlock = some w.heap.size) → wpList Try.prog ops Q rest (a.put o.dst (.slice A' (m + 1) c')) w') :
    wpList Try.prog ops Q (o :: rest) a w := by
  subst hm
  refine wpList_plain hgd fun K hK => ?_
  obtain ⟨v', w', hrun, h2, h3, h4⟩ := run_append_rows (k := k) (n := n) (c := c) h hB hE hr hq hl hlen g cc hb o.type
  unfold Oper.wp execOp
  simp only [ho, resolve, invoke, builtin, Sem.run_bind, Sem.run_pure, Result.andThen_ok, List.map_toArray, List.map_cons, List.map_nil, hse, hx, hrun]
  obtain ⟨A', c', A2, c2, rfl, -, -, -⟩ := h2.rd
  rw [List.length_append] at h2 h4 ⊢
  exact hK _ _ (h' A' c' w' h2 h3 h4)
theorem Rows2.rdl {B : Nat} {E : Nat → Prop} {w : World} {A1 A2 : Option Addr} {n1 n2 c1 c2 : Nat} {l r : List Tm} (h : Rows2 B E w (.slice A1 n1 c1) (.slice A2 n2 c2) l r) : RdP (fun b => B ≤ b) w A1 0 l ∧ RdP (fun b => B ≤ b) w A2 0 r := by
  obtain ⟨B1, d1, B2, d2, e1, e2, r1, r2⟩ := h.rd
  injection e1 with e1
  injection e2 with e2
  subst e1 e2
  exact ⟨r1, r2⟩
theorem Blk.two {w : World} {g : Nat} {x y : Value} (h : Blk w g #[x, y]) : w.cell? ⟨g, 0, none⟩ = some x ∧ w.cell? ⟨g, 1, none⟩ = some y := ⟨h.at_ (i := 0) rfl, h.at_ (i := 1) rfl⟩
end Go.Proofs.Ytgmljpmnfncceaa

namespace Go.Proofs.Ytgmljpmnfncceaa
open Go.RowKit
set_option linter.unusedSimpArgs false
set_option linter.unusedVariables false

theorem holeOf_ext {H : Nat → Tm} {d : Int} {t u : Tm} {st : Prs} {o : Tm} {st' : Prs} (h : holeOf H d t u st = some (o, st')) : ∃ m1 m2, st'.1 = st.1 ++ m1 ∧ st'.2 = st.2 ++ m2 := by
  unfold holeOf at h
  cases h1 : shiftI (-d) 0 t with
  | none => rw [h1] at h; cases h
  | some x =>
    cases h2 : shiftI (-d) 0 u with
    | none => rw [h1, h2] at h; cases h
    | some y =>
      rw [h1, h2] at h
      simp only at h
      cases hi : idx2 x y st.1 st.2 with
      | some i => rw [hi] at h; cases h; exact ⟨[], [], by simp, by simp⟩
      | none => rw [hi] at h; cases h; exact ⟨[x], [y], rfl, rfl⟩
theorem cm_ext2 (H : Nat → Tm) : (∀ t, ∀ (d : Int) (u : Tm) (st : Prs) (o : Tm) (st' : Prs), cm H d t u st = some (o, st') → ∃ m1 m2, st'.1 = st.1 ++ m1 ∧ st'.2 = st.2 ++ m2) ∧
    (∀ ts, ∀ (k d : Int) (i : Nat) (us : List Tm) (st : Prs) (os : List Tm) (st' : Prs), cmL H k d i ts us st = some (os, st') → ∃ m1 m2, st'.1 = st.1 ++ m1 ∧ st'.2 = st.2 ++ m2) := by
  refine Tm.ind2 ?_ ?_ ?_
  · intro k n ks ih d u st o st' h
    rw [cm] at h
    split at h
    · cases hc : cmL H k d 0 ks u.kids st with
      | none => rw [hc] at h; exact holeOf_ext h
      | some r => obtain ⟨os, s⟩ := r; rw [hc] at h; cases h; exact ih _ _ _ _ _ _ _ hc
    · exact holeOf_ext h
  · intro k d i us st os st' h
    rw [cmL] at h
    · cases h; exact ⟨[], [], by simp, by simp⟩
    · simp
  · intro t ts h1 h2 k d i us st os st' h
    cases us with
    | nil => rw [cmL] at h; cases h; exact ⟨[], [], by simp, by simp⟩; simp
    | cons u us =>
      rw [cmL] at h
      cases hc1 : cm H (d + under k (i : Nat)) t u st with
      | none => rw [hc1] at h; cases h
      | some r =>
        obtain ⟨o, s⟩ := r
        rw [hc1] at h
        simp only at h
        cases hc2 : cmL H k d (i + 1) ts us s with
        | none => rw [hc2] at h; cases h
        | some r2 =>
          obtain ⟨os2, s2⟩ := r2
          rw [hc2] at h
          cases h
          obtain ⟨a1, a2, e1, e2⟩ := h1 _ _ _ _ _ hc1
          obtain ⟨b1, b2, e3, e4⟩ := h2 _ _ _ _ _ _ _ hc2
          exact ⟨a1 ++ b1, a2 ++ b2, by rw [e3, e1, List.append_assoc], by rw [e4, e2, List.append_assoc]⟩
theorem cmL_ext {H : Nat → Tm} {k d : Int} {i : Nat} {ts us : List Tm} {l r l1 r1 : List Tm} {os : List Tm} (h : cmL H k d i ts us (l, r) = some (os, (l1, r1))) : ∃ m1 m2, l1 = l ++ m1 ∧ r1 = r ++ m2 := (cm_ext2 H).2 _ _ _ _ _ _ _ _ h

section
variable {gf : Nat} {w w1 w2 : World} {v v1 v2 v1' v2' : Value}
theorem OwnTo.ne {b : Nat} (h : OwnTo w v v1) (hb : b < w.heap.size) (hv : v.ownBlock ≠ some b) : v1.ownBlock ≠ some b := by
  rcases h with h | ⟨g, hg, h⟩
  · rw [h]; exact hv
  · rw [h]; exact fun e => by injection e with e; omega
theorem OwnTo.trans (h : OwnTo w v v1) (k : OwnTo w1 v1 v2) (hs : w.heap.size ≤ w1.heap.size) : OwnTo w v v2 := by
  rcases k with k | ⟨g, hg, k⟩
  · exact h.imp (fun h => k.trans h) fun ⟨g, hg, h⟩ => ⟨g, hg, k.trans h⟩
  · exact .inr ⟨g, by omega, k⟩
theorem Chg.trans (h : Chg gf v1 v2 w w1) (o1 : OwnTo w v1 v1') (o2 : OwnTo w v2 v2') (k : Chg gf v1' v2' w1 w2) : Chg gf v1 v2 w w2 :=
  ⟨k.os.trans h.os, k.tape.trans h.tape, k.output.trans h.output, Nat.le_trans h.size k.size, fun b hb h1 h2 h3 =>
    (k.block b (Nat.lt_of_lt_of_le hb h.size) h1 (o1.ne hb h2) (o2.ne hb h3)).trans (h.block b hb h1 h2 h3)⟩
theorem Chg.below (h : Chg gf v1 v2 w w1) (hb : Below w1.heap.size w1 w2) : Chg gf v1 v2 w w2 :=
  ⟨hb.os.trans h.os, hb.tape.trans h.tape, hb.output.trans h.output, Nat.le_trans h.size hb.size, fun b hl h1 h2 h3 => (hb.block b (Nat.lt_of_lt_of_le hl h.size)).trans (h.block b hl h1 h2 h3)⟩
theorem Chg.grownN (h : Chg gf v1 v2 w w1) {row : Option Nat} (hg : w1.grownBy w2 row) (hr : ∀ g, row = some g → w.heap.size ≤ g) : Chg gf v1 v2 w w2 :=
  ⟨hg.os.trans h.os, hg.tape.trans h.tape, hg.output.trans h.output, Nat.le_trans h.size hg.size, fun b hl h1 h2 h3 => (hg.block b (Nat.lt_of_lt_of_le hl h.size) (fun e => by have := hr b e.symm; omega)).trans (h.block b hl h1 h2 h3)⟩
theorem Chg.blk {g : Nat} {cs : Array Value} (h : Chg gf v1 v2 w w1) (hb : Blk w g cs) (h0 : g ≠ gf) (h1 : v1.ownBlock ≠ some g) (h2 : v2.ownBlock ≠ some g) : Blk w1 g cs := by
  have hl := hb.lt
  obtain ⟨t, hb⟩ := hb
  exact ⟨t, (h.block g hl h0 h1 h2).trans hb⟩
theorem Chg.cell {b o : Nat} {x : Value} (h : Chg gf v1 v2 w w1) (hx : w.cell? ⟨b, o, none⟩ = some x) (h0 : b ≠ gf) (h1 : v1.ownBlock ≠ some b) (h2 : v2.ownBlock ≠ some b) : w1.cell? ⟨b, o, none⟩ = some x :=
  (World.cell?_of_block (w := w) (a := ⟨b, o, none⟩) (h.block b (World.block_lt_of_cell? w _ hx) h0 h1 h2)).trans hx
end

/-- where the operands of the answer lie -/
def PO (L : Nat) (X : Nat → Prop) (w : World) (v v1 v2 : Value) (b : Nat) : Prop := L ≤ b ∧ b < w.heap.size ∧ v.ownBlock ≠ some b ∧ v1.ownBlock ≠ some b ∧ v2.ownBlock ≠ some b ∧ ¬ X b
def OutR (L : Nat) (X : Nat → Prop) (w : World) (v v1 v2 : Value) (os : List Tm) : Prop := ∃ xs, w.ownsRow L 28 3 v os.length xs ∧ RdX (PO L X w v v1 v2) w os xs
section
variable {L gf : Nat} {X X' : Nat → Prop} {w w' : World} {v v1 v2 v1' v2' : Value} {os : List Tm}
theorem OutR.nil : OutR L X w (.slice none 0 0) v1 v2 [] := ⟨[], World.ownsRow_nil _ _ _ _, rfl⟩
theorem OutR.own (h : OutR L X w v v1 v2 os) : ∀ g, v.ownBlock = some g → L ≤ g ∧ g < w.heap.size := by
  obtain ⟨xs, h1, _⟩ := h
  exact fun g hg => h1.lt g hg
theorem OutR.mono (h : OutR L X w v v1 v2 os) (hX : ∀ b, b < w.heap.size → X' b → X b) : OutR L X' w v v1 v2 os := by
  obtain ⟨xs, h1, h2⟩ := h
  exact ⟨xs, h1, h2.keep (fun b hb => ⟨hb.1, hb.2.1, hb.2.2.1, hb.2.2.2.1, hb.2.2.2.2.1, fun e => hb.2.2.2.2.2 (hX b hb.2.1 e)⟩) fun _ _ _ => rfl⟩
theorem OutR.frame (h : OutR L X w v v1 v2 os) (hs : w.heap.size ≤ w'.heap.size) (o1 : OwnTo w v1 v1') (o2 : OwnTo w v2 v2') (hv : ∀ g, v.ownBlock = some g → w'.heap[g]? = w.heap[g]?) (hk : ∀ b, L ≤ b → b < w.heap.size → v.ownBlock ≠ some b → v1.ownBlock ≠ some b → v2.ownBlock ≠ some b → ¬ X b → w'.heap[b]? = w.heap[b]?) : OutR L X w' v v1' v2' os := by
  obtain ⟨xs, h1, h2⟩ := h
  exact ⟨xs, ownsRow_frame h1 hv, h2.keep (fun b hb => ⟨hb.1, Nat.lt_of_lt_of_le hb.2.1 hs, hb.2.2.1, o1.ne hb.2.1 hb.2.2.2.1, o2.ne hb.2.1 hb.2.2.2.2.1, hb.2.2.2.2.2⟩) fun b hb hl => hk b hb.1 hl hb.2.2.1 hb.2.2.2.1 hb.2.2.2.2.1 hb.2.2.2.2.2⟩
theorem OutR.rd (h : OutR L X w v v1 v2 os) (hv : ∀ g, v.ownBlock = some g → v1.ownBlock ≠ some g ∧ v2.ownBlock ≠ some g) : ∃ A c, v = .slice A os.length c ∧ RdP (fun b => L ≤ b ∧ v1.ownBlock ≠ some b ∧ v2.ownBlock ≠ some b) w A 0 os := by
  obtain ⟨xs, h1, h2⟩ := h
  rcases h1.2 with ⟨rfl, h0⟩ | ⟨g, cap, cur, rfl, hb, hg, _, _, _, htk⟩
  · have : os = [] := List.eq_nil_of_length_eq_zero h0
    subst this
    exact ⟨none, 0, rfl, RdP.nil⟩
  · refine ⟨_, _, rfl, RdX.rdp ⟨hb, hv g rfl⟩ (h2.keep (fun b hb => ⟨hb.1, hb.2.2.2.1, hb.2.2.2.2.1⟩) fun _ _ _ => rfl) fun j u hu => ?_⟩
    rw [show 0 + 0 * 3 + j = j by omega, cell_of_row w g j cur 28 (0, 0) hg]
    have h3 := htk
    rw [← h3, List.getElem?_take] at hu
    split at hu
    · simpa using hu
    · cases hu
theorem OutR.shape (h : OutR L X w v v1 v2 os) : ∃ A c, v = .slice A os.length c := by
  obtain ⟨xs, h1, h2⟩ := h
  rcases h1.2 with ⟨rfl, h0⟩ | ⟨g, cap, cur, rfl, hb, hg, _, _, _, htk⟩
  · exact ⟨none, 0, by rw [h0]⟩
  · exact ⟨_, _, rfl⟩
theorem run_append_out {k n : Int} {ks : List Tm} {A : Option Addr} {c : Nat} {q : Nat → Prop} (h : OutR L X w v v1 v2 os) (hL : L ≤ w.heap.size) (hr : RdP q w A 0 ks) (hq : ∀ b, q b → PO L X w v v1 v2 b) (hl : ks.length ≤ 9223372036854775807) (hlen : os.length ≤ 1099511627776) (g cc : Nat)
    (hb : Blk w g #[.int .i64 k, .int .i64 n, .slice A ks.length c]) (ty : TypeId) :
    ∃ v' w', (Builtin.append_ #[26, 26] ty #[v, .slice (some ⟨g, 0, none⟩) 1 cc]).run Try.prog w = .ok v' w' ∧ OutR L X w' v' v1 v2 (os ++ [.mk k n ks]) ∧ w.grownBy w' v.ownBlock ∧ (v'.ownBlock = v.ownBlock ∨ v'.ownBlock = some w.heap.size) := by
  obtain ⟨xs, h1, h2⟩ := h
  obtain ⟨v', w', xs', hrun, hown, hx, hg, hat⟩ := run_append_gen (k := k) (n := n) (c := c) h1 h2 hL hr (fun b hb => hb.2.2.1) (fun b hb' => (hq b hb').2.2.1) hl hlen g cc hb ty
  have hsz := hg.size
  have hne : ∀ b, b < w.heap.size → v.ownBlock ≠ some b → v'.ownBlock ≠ some b := by
    intro b hb hv e
    rcases hat with e' | e'
    · exact hv (e'.symm.trans e)
    · rw [e'] at e; injection e with e; omega
  have hst : ∀ b, PO L X w v v1 v2 b → PO L X w' v' v1 v2 b := fun b hb => ⟨hb.1, by have := hb.2.1; omega, hne b hb.2.1 hb.2.2.1, hb.2.2.2⟩
  exact ⟨v', w', hrun, ⟨xs', hown, hx.keep (fun b hb => hb.elim (hst b) (fun hb => hst b (hq b hb))) (fun _ _ _ => rfl)⟩, hg, hat⟩
theorem wpList_append_out {k n : Int} {ks : List Tm} {A : Option Addr} {c : Nat} {q : Nat → Prop} (h : OutR L X w v v1 v2 os) (hL : L ≤ w.heap.size) (hr : RdP q w A 0 ks) (hq : ∀ b, q b → PO L X w v v1 v2 b) (hl : ks.length ≤ 9223372036854775807) {m : Nat} (hm : os.length = m) (hlen : m ≤ 1099511627776) (g cc : Nat)
    (hb : Blk w g #[.int .i64 k, .int .i64 n, .slice A ks.length c])
    {ops : Array Oper} {rest : List Oper} {o : Oper} {a : Act} {Q : Exit → Act → World → Prop} (hgd : o.guard = none) (s x : Operand)
    (ho : o.op = .call { callee := .builtin .append, args := #[s, x], argTypes := #[26, 26] }) (hse : a.eval s = v) (hx : a.eval x = .slice (some ⟨g, 0, none⟩) 1 cc)
    (h' : ∀ A' c' w', OutR L X w' (.slice A' (m + 1) c') v1 v2 (os ++ [.mk k n ks]) → w.grownBy w' v.ownBlock → ((Value.slice A' (m + 1) c').ownBlock = v.ownBlock ∨ (Value.slice A' (m + 1) c').ownBlock = some w.heap.size) → wpList Try.prog ops Q rest (a.put o.dst (.slice A' (m + 1) c')) w') :
    wpList Try.prog ops Q (o :: rest) a w := by
  subst hm
  refine wpList_plain hgd fun K hK => ?_
  obtain ⟨v', w', hrun, h2, h3, h4⟩ := run_append_out (k := k) (n := n) (c := c) h hL hr hq hl hlen g cc hb o.type
  unfold Oper.wp execOp
  simp only [ho, resolve, invoke, builtin, Sem.run_bind, Sem.run_pure, Result.andThen_ok, List.map_toArray, List.map_cons, List.map_nil, hse, hx, hrun]
  obtain ⟨A', c', rfl⟩ := h2.shape
  rw [List.length_append] at h2 h4 ⊢
  exact hK _ _ (h' A' c' w' h2 h3 h4)
end

/-- the blocks of a call of common that the finding's slices keep clear of -/
def FE (E : Nat → Prop) (W : Nat) (v : Value) (X : Nat → Prop) (b : Nat) : Prop := E b ∨ (W ≤ b ∧ b < W + 4) ∨ v.ownBlock = some b ∨ X b
/-- the state of common -/
structure Com (B gf : Nat) (E : Nat → Prop) (v1 v2 : Value) (w : World) (c0 c1 : Array Value) (k n : Int) (X : Nat → Prop) (v1' v2' v : Value) (l r os : List Tm) (wr : World) : Prop where
  chg : Chg gf v1 v2 w wr
  o1 : OwnTo w v1 v1'
  o2 : OwnTo w v2 v2'
  fin : Blk wr gf #[v1', v2']
  rows : Rows2 B (FE E w.heap.size v X) wr v1' v2' l r
  out : OutR (w.heap.size + 4) X wr v v1' v2' os
  b0 : Blk wr w.heap.size c0
  b1 : Blk wr (w.heap.size + 1) c1
  b2 : Blk wr (w.heap.size + 1 + 1) #[.int .i64 0, .int .i64 0, .slice none 0 0]
  b3 : Blk wr (w.heap.size + 1 + 1 + 1) #[.int .i64 k, .int .i64 n, v]
section
variable {B gf : Nat} {E X X' : Nat → Prop} {v1 v2 v1' v2' v v' : Value} {w wr wy w1 : World} {c0 c1 : Array Value} {k n : Int} {l r os l2 r2 os' : List Tm}
theorem Com.size (h : Com B gf E v1 v2 w c0 c1 k n X v1' v2' v l r os wr) : w.heap.size + 1 + 1 + 1 < wr.heap.size := h.b3.lt
theorem Com.free (h : Com B gf E v1 v2 w c0 c1 k n X v1' v2' v l r os wr) {b : Nat} (hb : w.heap.size ≤ b ∧ b < w.heap.size + 4) : v1'.ownBlock ≠ some b ∧ v2'.ownBlock ≠ some b :=
  ⟨fun e => h.rows.e1 b e (.inr (.inl hb)), fun e => h.rows.e2 b e (.inr (.inl hb))⟩
theorem Com.below (h : Com B gf E v1 v2 w c0 c1 k n X v1' v2' v l r os wr) (hb : Below wr.heap.size wr w1) : Com B gf E v1 v2 w c0 c1 k n X v1' v2' v l r os w1 :=
  ⟨h.chg.below hb, h.o1, h.o2, h.fin.keep hb, h.rows.below hb, h.out.frame hb.size (.refl _ _) (.refl _ _) (fun g hg => hb.block g (h.out.own g hg).2) (fun b _ hl _ _ _ _ => hb.block b hl), h.b0.keep hb, h.b1.keep hb, h.b2.keep hb, h.b3.keep hb⟩
theorem Com.alloc (h : Com B gf E v1 v2 w c0 c1 k n X v1' v2' v l r os wr) (o : Obj) : Com B gf E v1 v2 w c0 c1 k n X v1' v2' v l r os (wr.alloc o) := h.below ((Below.refl _ _).alloc (Nat.le_refl _) _)
theorem Com.drew (h : Com B gf E v1 v2 w c0 c1 k n X v1' v2' v l r os wr) : Com B gf E v1 v2 w c0 c1 k n X v1' v2' v l r os wr.drew := h.below (Below.refl _ _).drew
theorem Com.toX (h : Com B gf E v1 v2 w c0 c1 k n X v1' v2' v l r os wr) (hX : ∀ b, X' b → X b ∨ wr.heap.size ≤ b) : Com B gf E v1 v2 w c0 c1 k n X' v1' v2' v l r os wr :=
  ⟨h.chg, h.o1, h.o2, h.fin, h.rows.mono (fun b hb e => by
    rcases e with e | e | e | e
    · exact .inl e
    · exact .inr (.inl e)
    · exact .inr (.inr (.inl e))
    · exact (hX b e).elim (fun e => .inr (.inr (.inr e))) (fun e => by omega)), h.out.mono (fun b hb e => (hX b e).elim id (fun e => by omega)), h.b0, h.b1, h.b2, h.b3⟩
/-- behind a call of the finding -/
theorem Com.got (h : Com B gf E v1 v2 w c0 c1 k n X v1' v2' v l r os wy) {v1'' v2'' : Value} (hgf : gf < B) (hB : B ≤ w.heap.size) (hc : Chg gf v1' v2' wy w1) (o1 : OwnTo wy v1' v1'') (o2 : OwnTo wy v2' v2'') (hf : Blk w1 gf #[v1'', v2'']) (hR : Rows2 B (FE E w.heap.size v X) w1 v1'' v2'' l2 r2) :
    Com B gf E v1 v2 w c0 c1 k n X v1'' v2'' v l2 r2 os w1 := by
  have f0 := h.free (b := w.heap.size) (by omega)
  have f1 := h.free (b := w.heap.size + 1) (by omega)
  have f2 := h.free (b := w.heap.size + 1 + 1) (by omega)
  have f3 := h.free (b := w.heap.size + 1 + 1 + 1) (by omega)
  have hv : ∀ g, v.ownBlock = some g → v1'.ownBlock ≠ some g ∧ v2'.ownBlock ≠ some g := fun g hg => ⟨fun e => h.rows.e1 g e (.inr (.inr (.inl hg))), fun e => h.rows.e2 g e (.inr (.inr (.inl hg)))⟩
  refine ⟨h.chg.trans h.o1 h.o2 hc, h.o1.trans o1 h.chg.size, h.o2.trans o2 h.chg.size, hf, hR, h.out.frame hc.size o1 o2 (fun g hg => ?_) (fun b hb hl h0 h1 h2 _ => hc.block b hl (by omega) h1 h2), hc.blk h.b0 (by omega) f0.1 f0.2, hc.blk h.b1 (by omega) f1.1 f1.2, hc.blk h.b2 (by omega) f2.1 f2.2, hc.blk h.b3 (by omega) f3.1 f3.2⟩
  have := h.out.own g hg
  exact hc.block g this.2 (by omega) (hv g hg).1 (hv g hg).2
/-- a store into a block that is kept clear -/
theorem Com.setX (h : Com B gf E v1 v2 w c0 c1 k n X v1' v2' v l r os wr) (hgf : gf < B) (hB : B ≤ w.heap.size) {a : Addr} (ha : X a.block) (hw : w.heap.size + 4 ≤ a.block) (hv : v.ownBlock ≠ some a.block) (u : Value) : Com B gf E v1 v2 w c0 c1 k n X v1' v2' v l r os (wr.setCell a u) :=
  ⟨h.chg.set (.inr (by omega)) u, h.o1, h.o2, h.fin.far (by omega) u, h.rows.setCell (.inr (.inl (.inr (.inr (.inr ha))))) u, h.out.frame (by simp) (.refl _ _) (.refl _ _) (fun g hg => Below.heap_setCell wr a u g (fun e => hv (e ▸ hg))) (fun b _ hl _ _ _ hX => Below.heap_setCell wr a u b (fun e => hX (e ▸ ha))), h.b0.far (by omega) u, h.b1.far (by omega) u, h.b2.far (by omega) u, h.b3.far (by omega) u⟩
/-- one operand more -/
theorem Com.appended (h : Com B gf E v1 v2 w c0 c1 k n X v1' v2' v l r os wr) (hgf : gf < B) (hB : B ≤ w.heap.size) (hg : wr.grownBy w1 v.ownBlock) (hat : v'.ownBlock = v.ownBlock ∨ v'.ownBlock = some wr.heap.size) (hO : OutR (w.heap.size + 4) X w1 v' v1' v2' os') :
    Com B gf E v1 v2 w c0 c1 k n X v1' v2' v' l r os' (w1.setCell ⟨w.heap.size + 1 + 1 + 1, 2, none⟩ v') := by
  have hown := h.out.own
  have hne : ∀ g, v.ownBlock = some g → w.heap.size + 4 ≤ g := fun g hg => (hown g hg).1
  have hsz := h.size
  have hsg := hg.size
  have hno : ∀ b, b < w.heap.size + 4 → some b ≠ v.ownBlock := fun b hb e => by have := hne b e.symm; omega
  have hno' : ∀ g, v'.ownBlock = some g → w.heap.size + 4 ≤ g := fun g hg' => (hO.own g hg').1
  have h1 : Rows2 B (fun b => FE E w.heap.size v X b ∨ FE E w.heap.size v' X b) wr v1' v2' l r := h.rows.mono fun b hb e => e.elim id fun e => by
    rcases e with e | e | e | e
    · exact .inl e
    · exact .inr (.inl e)
    · rcases hat with hat | hat
      · exact .inr (.inr (.inl (hat ▸ e)))
      · rw [hat] at e; injection e with e; omega
    · exact .inr (.inr (.inr e))
  refine ⟨(h.chg.grownN hg (fun g hg => by have := hne g hg; omega)).set (.inr (by simp; omega)) _, h.o1, h.o2, (h.fin.grown hg (hno _ (by omega))).far (by show gf ≠ w.heap.size + 1 + 1 + 1; omega) _,
    ((h1.grown hg fun g hg => .inr (.inl (.inr (.inr (.inl hg))))).setCell (.inr (.inl (.inl (.inr (.inl (by show w.heap.size ≤ w.heap.size + 1 + 1 + 1 ∧ w.heap.size + 1 + 1 + 1 < w.heap.size + 4; omega)))))) _).mono fun b _ e => .inr e,
    hO.frame (by simp) (.refl _ _) (.refl _ _) (fun g hg => Below.heap_setCell w1 _ _ g (by have := hno' g hg; show g ≠ w.heap.size + 1 + 1 + 1; omega)) (fun b hb hl _ _ _ _ => Below.heap_setCell w1 _ _ b (by show b ≠ w.heap.size + 1 + 1 + 1; omega)),
    (h.b0.grown hg (hno _ (by omega))).far (by show w.heap.size ≠ w.heap.size + 1 + 1 + 1; omega) _, (h.b1.grown hg (hno _ (by omega))).far (by show w.heap.size + 1 ≠ w.heap.size + 1 + 1 + 1; omega) _, (h.b2.grown hg (hno _ (by omega))).far (by show w.heap.size + 1 + 1 ≠ w.heap.size + 1 + 1 + 1; omega) _, ?_⟩
  exact (h.b3.grown hg (hno _ (by omega))).set_ 2 v'
/-- as it begins -/
theorem Com.begin (hgf : gf < B) (hB : B ≤ w.heap.size) (hE : ∀ b, E b → b < w.heap.size) (hf : Blk w gf #[v1, v2]) (hR : Rows2 B E w v1 v2 l r) (hb : Below w.heap.size w wr) (h0 : Blk wr w.heap.size c0) (h1 : Blk wr (w.heap.size + 1) c1) (h2 : Blk wr (w.heap.size + 1 + 1) #[.int .i64 0, .int .i64 0, .slice none 0 0]) (h3 : Blk wr (w.heap.size + 1 + 1 + 1) #[.int .i64 k, .int .i64 n, .slice none 0 0]) :
    Com B gf E v1 v2 w c0 c1 k n (fun _ => False) v1 v2 (.slice none 0 0) l r [] wr :=
  ⟨.of_below hb, .refl _ _, .refl _ _, hf.keep hb, (hR.mono (fun b hb e => by
    rcases e with e | e | e | e
    · exact e
    · omega
    · cases e
    · exact e.elim)).below hb, OutR.nil, h0, h1, h2, h3⟩
end
theorem run_cut {A : Option Addr} {n c m : Nat} (hA : A = none ∨ ∃ g, A = some ⟨g, 0, none⟩) (hm : m ≤ c) (w : World) :
    (Instr.sliceAt 26 (.slice A n c) none (some (.int .i64 (m : Int))) none).run Try.prog w = .ok (.slice A m c) w := by
  have hu : Try.prog.underlying 26 = some (.slice (Try.prog.elem 26)) := by kernel_rfl
  obtain ⟨i, hi, hz, hz1, hz2⟩ := info_parts tm_info
  have he : Try.prog.elem 26 = 28 := by kernel_rfl
  rw [run_sliceAt_slice (t := 26) (h := hu), run_slice_h (t := 26) (ht := hu) (h0 := by omega) (h2 := by omega), he]
  have hs : (sizeOf 28).run Try.prog w = .ok 3 w := by kernel_rfl
  rw [hs]
  simp only [Result.andThen, sliced]
  rcases hA with rfl | ⟨g, rfl⟩
  · simp
  · simp [Addr.add]
theorem Rows2.cut {B : Nat} {E : Nat → Prop} {w : World} {A1 A2 : Option Addr} {n1 n2 c1 c2 : Nat} {l r : List Tm} (h : Rows2 B E w (.slice A1 n1 c1) (.slice A2 n2 c2) l r) : ((A1 = none ∨ ∃ g, A1 = some ⟨g, 0, none⟩) ∧ l.length ≤ c1) ∧ ((A2 = none ∨ ∃ g, A2 = some ⟨g, 0, none⟩) ∧ r.length ≤ c2) := by
  obtain ⟨⟨xs, ys, h1, h2, _⟩, _⟩ := h
  refine ⟨?_, ?_⟩
  · rcases h1.2 with ⟨e, h0⟩ | ⟨g, cap, cur, e, hb, hg, k1, _⟩
    · injection e with e1 e2 e3; subst e1 e3; exact ⟨.inl rfl, by omega⟩
    · injection e with e1 e2 e3; subst e1 e3; exact ⟨.inr ⟨g, rfl⟩, k1⟩
  · rcases h2.2 with ⟨e, h0⟩ | ⟨g, cap, cur, e, hb, hg, k1, _⟩
    · injection e with e1 e2 e3; subst e1 e3; exact ⟨.inl rfl, by omega⟩
    · injection e with e1 e2 e3; subst e1 e3; exact ⟨.inr ⟨g, rfl⟩, k1⟩
theorem fnGot_noneE {B gf : Nat} {E : Nat → Prop} {v1 v2 : Value} {w w' : World} {l r : List Tm} {e : Ending} (h : FnGot B E gf v1 v2 w (l, r) none e w') :
    ∃ v1' v2', Chg gf v1 v2 w w' ∧ OwnTo w v1 v1' ∧ OwnTo w v2 v2' ∧ Blk w' gf #[v1', v2'] ∧ e = .returned (.tuple #[.agg #[.int .i64 0, .int .i64 0, .slice none 0 0], .bool false]) ∧ Rows2 B E w' v1' v2' l r := h
theorem fnGot_someE {B gf : Nat} {E : Nat → Prop} {v1 v2 : Value} {w w' : World} {st : Prs} {l2 r2 kso : List Tm} {ko no : Int} {e : Ending} (h : FnGot B E gf v1 v2 w st (some (.mk ko no kso, (l2, r2))) e w') :
    ∃ v1' v2' Ao co, Chg gf v1 v2 w w' ∧ OwnTo w v1 v1' ∧ OwnTo w v2 v2' ∧ Blk w' gf #[v1', v2'] ∧ e = .returned (.tuple #[.agg #[.int .i64 ko, .int .i64 no, .slice Ao kso.length co], .bool true]) ∧ kso.length ≤ 9223372036854775807 ∧
      RdP (fun b => w.heap.size ≤ b ∧ v1'.ownBlock ≠ some b ∧ v2'.ownBlock ≠ some b) w' Ao 0 kso ∧ Rows2 B E w' v1' v2' l2 r2 := by
  obtain ⟨v1', v2', h1, h2, h3, h4, ⟨A, c, h5, h6, h7⟩, h8⟩ := h
  exact ⟨v1', v2', A, c, h1, h2, h3, h4, h5, h6, h7, h8⟩
section
variable {B gf z : Nat} {E E' : Nat → Prop} {v1 v2 v1' v2' : Value} {w w4 : World} {l r l2 r2 kso : List Tm} {ko no : Int} {st : Prs} {Ao : Option Addr} {co : Nat}
theorem FnGot.noneI (hc : Chg gf v1 v2 w w4) (o1 : OwnTo w v1 v1') (o2 : OwnTo w v2 v2') (hf : Blk w4 gf #[v1', v2']) (hR : Rows2 B E' w4 v1' v2' l r) (hE : ∀ b, E b → E' b) (hz : gf ≠ z) (hw : w.heap.size ≤ z) (he : E' z) (x y s : Value) :
    FnGot B E gf v1 v2 w (l, r) none (.returned (.tuple #[.agg #[.int .i64 0, .int .i64 0, .slice none 0 0], .bool false])) (((w4.setCell ⟨z, 0, none⟩ x).setCell ⟨z, 1, none⟩ y).setCell ⟨z, 2, none⟩ s) :=
  ⟨v1', v2', ((hc.set (.inr hw) _).set (.inr hw) _).set (.inr hw) _, o1, o2, ((hf.far hz _).far hz _).far hz _, rfl, (((hR.setCell (.inr (.inl he)) _).setCell (.inr (.inl he)) _).setCell (.inr (.inl he)) _).mono fun b _ h => hE b h⟩
theorem FnGot.someI (hc : Chg gf v1 v2 w w4) (o1 : OwnTo w v1 v1') (o2 : OwnTo w v2 v2') (hf : Blk w4 gf #[v1', v2']) (hR : Rows2 B E' w4 v1' v2' l2 r2) (hl : kso.length ≤ 9223372036854775807) (hk : RdP (fun b => (w.heap.size ≤ b ∧ v1'.ownBlock ≠ some b ∧ v2'.ownBlock ≠ some b) ∧ b ≠ z) w4 Ao 0 kso) (hE : ∀ b, E b → E' b) (hz : gf ≠ z) (hw : w.heap.size ≤ z) (he : E' z) (x y s : Value) :
    FnGot B E gf v1 v2 w st (some (.mk ko no kso, (l2, r2))) (.returned (.tuple #[.agg #[.int .i64 ko, .int .i64 no, .slice Ao kso.length co], .bool true])) (((w4.setCell ⟨z, 0, none⟩ x).setCell ⟨z, 1, none⟩ y).setCell ⟨z, 2, none⟩ s) := by
  have hn : ¬ ((w.heap.size ≤ z ∧ v1'.ownBlock ≠ some z ∧ v2'.ownBlock ≠ some z) ∧ z ≠ z) := fun h => h.2 rfl
  exact ⟨v1', v2', ((hc.set (.inr hw) _).set (.inr hw) _).set (.inr hw) _, o1, o2, ((hf.far hz _).far hz _).far hz _, ⟨Ao, co, rfl, hl, (((hk.setCell hn _).setCell hn _).setCell hn _).mono fun b h => h.1⟩, (((hR.setCell (.inr (.inl he)) _).setCell (.inr (.inl he)) _).setCell (.inr (.inl he)) _).mono fun b _ h => hE b h⟩
end
/-- the operands lie low: nothing of a finding's call touches them -/
theorem RdP.low {B gf : Nat} {E : Nat → Prop} {v1 v2 : Value} {w w' : World} {l r : List Tm} {A : Option Addr} {i : Nat} {ks : List Tm} (h : RdP (fun b => b < gf) w A i ks) (hc : Chg gf v1 v2 w w') (hR : Rows2 B E w v1 v2 l r) (hgf : gf < B) : RdP (fun b => b < gf) w' A i ks :=
  h.blocks fun b hb hl => hc.block b hl (by omega) (fun e => by have := (hR.own.1 b e).1; omega) (fun e => by have := (hR.own.2 b e).1; omega)
theorem RdP.atp {p : Nat → Prop} {w : World} {A : Option Addr} {ks : List Tm} (hr : RdP p w A 0 ks) {j : Nat} (hj : j < ks.length) :
    ∃ b off k n ks' A' c, A = some ⟨b, off, none⟩ ∧ ks[j] = .mk k n ks' ∧ p b ∧ w.cell? ⟨b, off + j * 3, none⟩ = some (.int .i64 k) ∧ w.cell? ⟨b, off + j * 3 + 1, none⟩ = some (.int .i64 n) ∧
      w.cell? ⟨b, off + j * 3 + 2, none⟩ = some (.slice A' ks'.length c) ∧ ks'.length ≤ 9223372036854775807 ∧ RdP p w A' 0 ks' := by
  obtain ⟨b, off, hA, hc⟩ := hr.get hj
  rw [Nat.zero_add] at hc
  generalize ks[j] = t at hc ⊢
  obtain ⟨k, n, ks'⟩ := t
  obtain ⟨hp, h1, h2, A', c, h3, h4, h5⟩ := RdPC.iff.1 hc
  exact ⟨b, off, k, n, ks', A', c, hA, rfl, hp, h1, h2, h3, h4, h5⟩
/-- what the region of the call reads: both boxes, both operands -/
structure KS (W : Nat) (c0 c1 : Array Value) (b o : Nat) (x0 x1 x2 : Value) (b' o' : Nat) (y0 y1 y2 : Value) (w : World) : Prop where
  h0 : Blk w W c0
  h1 : Blk w (W + 1) c1
  p0 : w.cell? ⟨b, o, none⟩ = some x0
  p1 : w.cell? ⟨b, o + 1, none⟩ = some x1
  p2 : w.cell? ⟨b, o + 2, none⟩ = some x2
  q0 : w.cell? ⟨b', o', none⟩ = some y0
  q1 : w.cell? ⟨b', o' + 1, none⟩ = some y1
  q2 : w.cell? ⟨b', o' + 2, none⟩ = some y2
section
variable {W gf : Nat} {c0 c1 : Array Value} {b o b' o' : Nat} {x0 x1 x2 y0 y1 y2 v1 v2 : Value} {w w' : World}
theorem KS.below (h : KS W c0 c1 b o x0 x1 x2 b' o' y0 y1 y2 w) (hb : Below w.heap.size w w') : KS W c0 c1 b o x0 x1 x2 b' o' y0 y1 y2 w' :=
  ⟨h.h0.keep hb, h.h1.keep hb, Keeps.of_below hb _ _ h.p0, Keeps.of_below hb _ _ h.p1, Keeps.of_below hb _ _ h.p2, Keeps.of_below hb _ _ h.q0, Keeps.of_below hb _ _ h.q1, Keeps.of_below hb _ _ h.q2⟩
theorem KS.alloc (h : KS W c0 c1 b o x0 x1 x2 b' o' y0 y1 y2 w) (ob : Obj) : KS W c0 c1 b o x0 x1 x2 b' o' y0 y1 y2 (w.alloc ob) := h.below ((Below.refl _ _).alloc (Nat.le_refl _) _)
theorem KS.chg (h : KS W c0 c1 b o x0 x1 x2 b' o' y0 y1 y2 w) (hc : Chg gf v1 v2 w w') (f0 : W ≠ gf ∧ v1.ownBlock ≠ some W ∧ v2.ownBlock ≠ some W) (f1 : W + 1 ≠ gf ∧ v1.ownBlock ≠ some (W + 1) ∧ v2.ownBlock ≠ some (W + 1))
    (f2 : b ≠ gf ∧ v1.ownBlock ≠ some b ∧ v2.ownBlock ≠ some b) (f3 : b' ≠ gf ∧ v1.ownBlock ≠ some b' ∧ v2.ownBlock ≠ some b') : KS W c0 c1 b o x0 x1 x2 b' o' y0 y1 y2 w' :=
  ⟨hc.blk h.h0 f0.1 f0.2.1 f0.2.2, hc.blk h.h1 f1.1 f1.2.1 f1.2.2, hc.cell h.p0 f2.1 f2.2.1 f2.2.2, hc.cell h.p1 f2.1 f2.2.1 f2.2.2, hc.cell h.p2 f2.1 f2.2.1 f2.2.2, hc.cell h.q0 f3.1 f3.2.1 f3.2.2, hc.cell h.q1 f3.1 f3.2.1 f3.2.2, hc.cell h.q2 f3.1 f3.2.1 f3.2.2⟩
end
theorem Com.lt {B gf : Nat} {E X : Nat → Prop} {v1 v2 v1' v2' v : Value} {w wr : World} {c0 c1 : Array Value} {k n : Int} {l r os : List Tm} (h : Com B gf E v1 v2 w c0 c1 k n X v1' v2' v l r os wr) (hE : ∀ b, E b → b < w.heap.size) (hX : ∀ b, X b → b < wr.heap.size) : ∀ b, FE E w.heap.size v X b → b < wr.heap.size := by
  have hs := h.size
  intro b e
  rcases e with e | e | e | e
  · have := hE b e; omega
  · omega
  · exact (h.out.own b e).2
  · exact hX b e
end Go.Proofs.Ytgmljpmnfncceaa
