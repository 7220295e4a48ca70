/-
 Contracts of the functions that the law reaches, and plain lemmas. No condition.
-/
import Derived.Test.YtddkehjdjfmhmaaK3
import Derived.Test.YtddkehjdjfmhmaaK4
import Derived.Test.YtddkehjdjfmhmaaK5
import Derived.Test.YtddkehjdjfmhmaaK6
import Derived.Test.YtddkehjdjfmhmaaK7
import Derived.Deep.RegionHeld3
import Derived.Deep.DeepCutAuto
import Derived.WalkSpells
import Derived.WalkLawsBesides
namespace Go.Proofs.Ytddkehjdjfmhmaa
set_option linter.unusedSimpArgs false
set_option linter.unusedVariables false
open Go.RowKit
theorem ownsRow_frame {B n : Nat} {w w' : World} {v : Value} {xs : List Value} (h : w.ownsRow B 25 3 v n xs) (hk : ∀ g, v.ownBlock = some g → w'.heap[g]? = w.heap[g]?) : w'.ownsRow B 25 3 v n xs := by
 refine ⟨h.1, ?_⟩
 rcases h.2 with hn | ⟨g, cap, cur, rfl, hb, hg, r⟩
 ·exact .inl hn
 ·exact .inr ⟨g, cap, cur, rfl, hb, (hk g rfl).trans hg, r⟩
def P2 (B : Nat) (E : Nat → Prop) (w : World) (v1 v2 : Value) (b : Nat) : Prop := B ≤ b ∧ b < w.heap.size ∧ v1.ownBlock ≠ some b ∧ v2.ownBlock ≠ some b ∧ ¬ E b
structure Rows2 (B : Nat) (E : Nat → Prop) (w : World) (v1 v2 : Value) (l r : List Tm) : Prop where
 body : ∃ xs ys, w.ownsRow B 25 3 v1 l.length xs ∧ w.ownsRow B 25 3 v2 r.length ys ∧ RdX (P2 B E w v1 v2) w l xs ∧ RdX (P2 B E w v1 v2) w r ys
 apart : ∀ g, v1.ownBlock = some g → v2.ownBlock ≠ some g
 e1 : ∀ g, v1.ownBlock = some g → ¬ E g
 e2 : ∀ g, v2.ownBlock = some g → ¬ E g
section
variable {B : Nat} {E E' : Nat → Prop} {w w' : World} {v1 v2 : Value} {l r : List Tm}
theorem Rows2.symm (h : Rows2 B E w v1 v2 l r) : Rows2 B E w v2 v1 r l := by
 obtain ⟨⟨xs, ys, h1, h2, h3, h4⟩, h5, h6, h7⟩ := h
 have hp : ∀ b, P2 B E w v1 v2 b → P2 B E w v2 v1 b := fun b hb => ⟨hb.1, hb.2.1, hb.2.2.2.1, hb.2.2.1, hb.2.2.2.2⟩
 exact ⟨⟨ys, xs, h2, h1, h4.keep hp fun _ _ _ => rfl, h3.keep hp fun _ _ _ => rfl⟩, fun g hg hg' => h5 g hg' hg, h7, h6⟩
theorem Rows2.nil : Rows2 B E w (.slice none 0 0) (.slice none 0 0) [] [] := ⟨⟨[], [], World.ownsRow_nil _ _ _ _, World.ownsRow_nil _ _ _ _, rfl, rfl⟩, fun g hg => (by cases hg), fun g hg => (by cases hg), fun g hg => (by cases hg)⟩
theorem Rows2.own (h : Rows2 B E w v1 v2 l r) : (∀ g, v1.ownBlock = some g → B ≤ g ∧ g < w.heap.size) ∧ (∀ g, v2.ownBlock = some g → B ≤ g ∧ g < w.heap.size) := by
 obtain ⟨⟨xs, ys, h1, h2, _⟩, _⟩ := h
 exact ⟨fun g hg => h1.lt g hg, fun g hg => h2.lt g hg⟩
theorem Rows2.mono (h : Rows2 B E w v1 v2 l r) (he : ∀ b, b < w.heap.size → E' b → E b) : Rows2 B E' w v1 v2 l r := by
 have ho := h.own
 obtain ⟨⟨xs, ys, h1, h2, h3, h4⟩, h5, h6, h7⟩ := h
 have hp : ∀ b, P2 B E w v1 v2 b → P2 B E' w v1 v2 b := fun b hb => ⟨hb.1, hb.2.1, hb.2.2.1, hb.2.2.2.1, fun e => hb.2.2.2.2 (he b hb.2.1 e)⟩
 exact ⟨⟨xs, ys, h1, h2, h3.keep hp fun _ _ _ => rfl, h4.keep hp fun _ _ _ => rfl⟩, h5, fun g hg e => h6 g hg (he g (ho.1 g hg).2 e), fun g hg e => h7 g hg (he g (ho.2 g hg).2 e)⟩
theorem Rows2.frame (h : Rows2 B E w v1 v2 l r) (hs : w.heap.size ≤ w'.heap.size) (hk : ∀ b, B ≤ b → b < w.heap.size → ¬ E b → w'.heap[b]? = w.heap[b]?) : Rows2 B E w' v1 v2 l r := by
 have ho := h.own
 obtain ⟨⟨xs, ys, h1, h2, h3, h4⟩, h5, h6, h7⟩ := h
 have hp : ∀ b, P2 B E w v1 v2 b → P2 B E w' v1 v2 b := fun b hb => ⟨hb.1, Nat.lt_of_lt_of_le hb.2.1 hs, hb.2.2⟩
 exact ⟨⟨xs, ys, ownsRow_frame h1 fun g hg => hk g (ho.1 g hg).1 (ho.1 g hg).2 (h6 g hg), ownsRow_frame h2 fun g hg => hk g (ho.2 g hg).1 (ho.2 g hg).2 (h7 g hg), h3.keep hp fun b hb hl => hk b hb.1 hl hb.2.2.2.2, h4.keep hp fun b hb hl => hk b hb.1 hl hb.2.2.2.2⟩, h5, h6, h7⟩
theorem Rows2.below (h : Rows2 B E w v1 v2 l r) (hb : Below w.heap.size w w') : Rows2 B E w' v1 v2 l r := h.frame hb.size fun b _ hl _ => hb.block b hl
theorem Rows2.alloc (h : Rows2 B E w v1 v2 l r) (o : Obj) : Rows2 B E (w.alloc o) v1 v2 l r := h.below ((Below.refl _ _).alloc (Nat.le_refl _) _)
theorem Rows2.drew (h : Rows2 B E w v1 v2 l r) : Rows2 B E w.drew v1 v2 l r := h.below (Below.refl _ _).drew
theorem Rows2.setCell (h : Rows2 B E w v1 v2 l r) {a : Addr} (ha : a.block < B ∨ E a.block ∨ w.heap.size ≤ a.block) (u : Value) : Rows2 B E (w.setCell a u) v1 v2 l r := h.frame (by simp) fun b hb hl he => Below.heap_setCell w a u b (by
 rcases ha with ha | ha | ha
 ·omega
 ·exact fun e => he (e ▸ ha)
 ·omega)
theorem Rows2.grown {row : Option Nat} (h : Rows2 B E w v1 v2 l r) (hg : w.grownBy w' row) (hr : ∀ g, row = some g → g < B ∨ E g) : Rows2 B E w' v1 v2 l r := h.frame hg.size fun b hb hl he => hg.block b hl (fun e => by
 rcases hr b e.symm with h1 | h1
 ·omega
 ·exact he h1)
theorem RdX.rdRow {p : Nat → Prop} {B n : Nat} {w : World} {v : Value} {ts : List Tm} {xs : List Value} (h1 : w.ownsRow B 25 3 v ts.length xs) (h2 : RdX p w ts xs) (hp : ∀ b, p b → B ≤ b) : ∃ A c, v = .slice A ts.length c ∧ RdP (fun b => B ≤ b) w A 0 ts := by
 rcases h1.2 with ⟨rfl, h0⟩ | ⟨g, cap, cur, rfl, hb, hg, _, _, _, htk⟩
 ·have : ts = [] := List.eq_nil_of_length_eq_zero h0
  subst this
  exact ⟨none, 0, rfl, RdP.nil⟩
 ·refine ⟨_, _, rfl, RdX.rdp hb (h2.keep hp fun _ _ _ => rfl) fun j u hu => ?_⟩
  rw [show 0 + 0 * 3 + j = j by omega, cell_of_row w g j cur 25 (0, 0) hg]
  rw [← htk, List.getElem?_take] at hu
  split at hu
  ·simpa using hu
  ·cases hu
theorem Rows2.rd (h : Rows2 B E w v1 v2 l r) : ∃ A1 c1 A2 c2, v1 = .slice A1 l.length c1 ∧ v2 = .slice A2 r.length c2 ∧ RdP (fun b => B ≤ b) w A1 0 l ∧ RdP (fun b => B ≤ b) w A2 0 r := by
 obtain ⟨⟨xs, ys, h1, h2, h3, h4⟩, h5, _⟩ := h
 obtain ⟨A1, c1, e1, r1⟩ := RdX.rdRow (n := 0) h1 h3 fun b hb => hb.1
 obtain ⟨A2, c2, e2, r2⟩ := RdX.rdRow (n := 0) h2 h4 fun b hb => hb.1
 exact ⟨A1, c1, A2, c2, e1, e2, r1, r2⟩
theorem RdX.take {p : Nat → Prop} {w : World} {us : List Tm} : ∀ {ts : List Tm} {xs : List Value}, RdX p w (ts ++ us) xs → RdX p w ts (xs.take (ts.length * 3))
 | [], xs, h => by simp [RdX]
 | .mk k n ks :: ts, xs, h => by
  obtain ⟨A, c, ys, rfl, hl, hr, hx⟩ := h
  refine ⟨A, c, ys.take (ts.length * 3), ?_, hl, hr, hx.take⟩
  rw [List.length_cons, Nat.succ_mul]
  simp [List.take]
theorem ownsRow_take {n m c : Nat} {A : Option Addr} {xs : List Value} (h : w.ownsRow B 25 3 (.slice A n c) n xs) (hm : m ≤ n) : w.ownsRow B 25 3 (.slice A m c) m (xs.take (m * 3)) := by
 refine ⟨by rw [List.length_take, h.1]; omega, ?_⟩
 rcases h.2 with ⟨e, h0⟩ | ⟨g, cap, cur, e, hb, hg, h1, h2, h3, h4⟩
 ·injection e with e1 e2 e3
  subst e1 e3
  obtain rfl : m = 0 := by omega
  exact .inl ⟨rfl, rfl⟩
 ·injection e with e1 e2 e3
  subst e1 e3
  exact .inr ⟨g, c, cur, rfl, hb, hg, by omega, h2, h3, by rw [← h4, List.take_take, Nat.min_eq_left (by omega)]⟩
theorem Rows2.take {A1 A2 : Option Addr} {c1 c2 : Nat} {m1 m2 : List Tm} (h : Rows2 B E w (.slice A1 (l ++ m1).length c1) (.slice A2 (r ++ m2).length c2) (l ++ m1) (r ++ m2)) : Rows2 B E w (.slice A1 l.length c1) (.slice A2 r.length c2) l r := by
 obtain ⟨⟨xs, ys, h1, h2, h3, h4⟩, h5, h6, h7⟩ := h
 have e1 : ∀ n m, (Value.slice A1 n c1).ownBlock = (Value.slice A1 m c1).ownBlock := fun n m => by cases A1 <;> rfl
 have e2 : ∀ n m, (Value.slice A2 n c2).ownBlock = (Value.slice A2 m c2).ownBlock := fun n m => by cases A2 <;> rfl
 have hp : ∀ b, P2 B E w (.slice A1 (l ++ m1).length c1) (.slice A2 (r ++ m2).length c2) b → P2 B E w (.slice A1 l.length c1) (.slice A2 r.length c2) b := fun b hb => ⟨hb.1, hb.2.1, by rw [e1 _ (l ++ m1).length]; exact hb.2.2.1, by rw [e2 _ (r ++ m2).length]; exact hb.2.2.2.1, hb.2.2.2.2⟩
 refine ⟨⟨_, _, ownsRow_take h1 (by simp), ownsRow_take h2 (by simp), (h3.take).keep hp fun _ _ _ => rfl, (h4.take).keep hp fun _ _ _ => rfl⟩, fun g hg hg' => h5 g ?_ ?_, fun g hg => h6 g ?_, fun g hg => h7 g ?_⟩
 ·rw [e1 _ l.length]; exact hg
 ·rw [e2 _ r.length]; exact hg'
 ·rw [e1 _ l.length]; exact hg
 ·rw [e2 _ r.length]; exact hg
end
open Go.RowKit
section
variable {P : Program} {ops : Array Oper} {Q : Exit → Act → World → Prop} {S : World → Prop} {need : Nat → Bool}
theorem mid_out {K : Act → World → Prop} {a : Act} {w : World} (h : Mid S K Q .normal a w) : S w ∧ K a w := by unfold Mid at h; exact h
theorem mid_else {K : Act → World → Prop} {e : Exit} {a : Act} {w : World} (he : e ≠ .normal) (h : Mid S K Q e a w) : Q e a w := by
 unfold Mid at h
 cases e <;> first | exact absurd rfl he | exact h
def wpAnyA (P : Program) (ops : Array Oper) (Q : Exit → Act → World → Prop) (S : World → Prop) (B : List Nat) : Nat → Array Bool → Act → World → Prop
 | 0, l, a, w => simR ops B l = true ∧ wpList P ops Q (sel ops B) a w
 | n + 1, l, a, w => Region.ready .any ops l ≠ [] ∧ ∀ i ∈ Region.ready .any ops l, ∀ o, ops[i]? = some o → wpList P ops (Mid S (wpAnyA P ops Q S B n (l.setIfInBounds i true)) Q) [o] a w
end
attribute [irreducible] wpAnyA
open Go.RowKit
section
variable {P : Program} {ops : Array Oper} {Q : Exit → Act → World → Prop} {S : World → Prop} {B : List Nat}
def gC (P : Program) (ops : Array Oper) (Q : Exit → Act → World → Prop) (S : World → Prop) (B : List Nat) (f : Nat) (l : Array Bool) (a : Act) (w : World) : Prop :=
 Closed ops l → wpAnyN P ops Q S (fun j => !B.contains j) f l a w
theorem gC_start {id : Nat} {a : Act} {w : World} (S : World → Prop) (B : List Nat) (f : Nat) (hm : P.follows .mixedOrders = true) (hf : ops.size = f) (h : gC P ops Q S B f (Array.replicate f false) a w.drew) : (Code.region id ops true).wp P Q a w := by
 subst hf
 exact wp_region_any hm (wpAny_of_N (S := S) (need := fun j => !B.contains j) _ _ _ _ (h Closed.start))
theorem gC_take {l l' : Array Bool} {a : Act} {w : World} {f F : Nat} (T : List Nat) {lT : List Oper} (hS : S w) (hF : F = T.length + f) (hsel : Region.noSelect ops = true) (hl : simT ops T l = some l') (hpre : (B.all fun j => T.all fun i => pre ops ops.size j i) = true) (hT : sel ops T = lT)
  (hQ : ∀ c (a : Act) d v w, Q (.panic c) (a.put d v) w → Q (.panic c) a w)
  (h : wpTakeY P ops S (fun a' => gC P ops Q S B f l' a' w) lT a) : gC P ops Q S B F l a w := by
 subst hT hF
 intro hcl
 refine takesY_ok hsel hQ hS T _ _ l' a (fun i hi listed hcl hr j hj hne => ?_) hcl hl h
 rw [Bool.not_eq_true', List.contains_eq_mem, decide_eq_false_iff_not]
 intro hjB
 have h1 := List.all_eq_true.1 (List.all_eq_true.1 hpre j hjB) i hi
 have h2 := hcl.ready hj h1
 have h3 := (mem_ready.1 hr).1
 rcases Nat.lt_or_ge i listed.size with h' | h'
 ·simp [h'] at h2 h3; rw [h3] at h2; cases h2
 ·simp [Array.getElem?_eq_none h'] at h2
theorem wpAnyN_firstT {need : Nat → Bool} {i : Nat} {oi : Oper} {v : Value} (hi : ops[i]? = some oi) (hsel : ∀ (j : Nat) (o : Oper) cs b, ops[j]? = some o → o.op ≠ .select cs b)
  (hQ : ∀ c a w, Q (.panic c) (a.put oi.dst v) w → Q (.panic c) a w) (hni : need i = false) :
  ∀ (fuel : Nat) (listed : Array Bool) (a : Act) (w : World), Closed ops listed →
   (∀ j oj, ops[j]? = some oj → j ≠ i → listed.getD j true = false → (∀ e ∈ oj.after, Region.binds .any e = true → e.on ≠ i) → oi.apart ops oj = true) →
   i ∈ Region.ready .any ops listed → YIf P ops (fun _ => True) oi v a →
   wpAnyN P ops Q S need fuel (listed.setIfInBounds i true) (a.put oi.dst v) w → wpAnyN P ops Q S need (fuel + 1) listed a w := by
 intro fuel
 induction fuel with
 | zero =>
  intro listed a w hcl _ hr hy H
  refine ⟨fun h => (by rw [h] at hr; cases hr), fun j hj => ?_⟩
  by_cases hji : j = i
  ·subst hji; exact hy.wpOp hi trivial ⟨fun h => (by rw [hni] at h; cases h), H⟩
  ·have := ready_mono hj hji
   rw [H.1] at this
   cases this
 | succ fuel ih =>
  intro listed a w hcl hfree hr hy H
  refine ⟨fun h => (by rw [h] at hr; cases hr), fun j hj => ?_⟩
  by_cases hji : j = i
  ·subst hji; exact hy.wpOp hi trivial ⟨fun h => (by rw [hni] at h; cases h), H⟩
  ·have h1 := H.2 j (ready_mono hj hji)
   obtain ⟨hjun, oj, hoj, hall⟩ := mem_ready.1 hj
   have hnot : ∀ e ∈ oj.after, Region.binds .any e = true → e.on ≠ i := fun e he hb heq => by
    have h1 := hall e he hb
    have h0 := (mem_ready.1 hr).1
    rw [heq] at h1
    rcases Nat.lt_or_ge i listed.size with h' | h'
    ·simp [h'] at h0 h1; rw [h0] at h1; cases h1
    ·simp [Array.getElem?_eq_none h'] at h1
   have h2 := wpOp_putY hoj (hfree j oj hoj hji hjun hnot) (fun cs b => hsel i oi cs b hi) (fun cs b => hsel j oj cs b hoj) hQ hy h1
   have hfree' : ∀ k ok, ops[k]? = some ok → k ≠ i → (listed.setIfInBounds j true).getD k true = false →
     (∀ e ∈ ok.after, Region.binds .any e = true → e.on ≠ i) → oi.apart ops ok = true := fun k ok hk hki hun hno => by
    refine hfree k ok hk hki ?_ hno
    by_cases hjk : j = k
    ·subst hjk; exact hjun
    ·rw [_root_.Go.getD_set_ne true hjk] at hun; exact hun
   refine wpOp_mono (fun a' w' h3 => ⟨h3.2.1, ih (listed.setIfInBounds j true) a' w' (hcl.step hj) hfree' (ready_mono hr (Ne.symm hji)) h3.1 ?_⟩) h2
   rw [Array.setIfInBounds_comm _ _ hji]
   exact h3.2.2
theorem takesT_ok {need : Nat → Bool} (hsel : Region.noSelect ops = true) (hQ : ∀ c (a : Act) d v w, Q (.panic c) (a.put d v) w → Q (.panic c) a w) {w : World} : ∀ (T : List Nat) (fuel : Nat) (listed l' : Array Bool) (a : Act),
  (∀ i, i ∈ T → need i = false) →
  Closed ops listed → simT ops T listed = some l' → wpTakeY P ops (fun _ => True) (fun a' => Closed ops l' → wpAnyN P ops Q S need fuel l' a' w) (sel ops T) a → wpAnyN P ops Q S need (T.length + fuel) listed a w := by
 intro T
 induction T with
 | nil =>
  intro fuel listed l' a _ hcl hs h
  simp only [simT, Option.some.injEq] at hs
  subst hs
  rw [List.length_nil, Nat.zero_add]
  rw [sel, List.filterMap_nil, wpTakeY] at h
  exact h hcl
 | cons i T ih =>
  intro fuel listed l' a hn hcl hs h
  rw [simT] at hs
  split at hs
  case isFalse => cases hs
  rename_i hc
  rw [Bool.and_eq_true] at hc
  have hm : i ∈ Region.ready .any ops listed := by simpa using hc.1
  obtain ⟨_, o, ho, _⟩ := mem_ready.1 hm
  rw [sel_cons ho, wpTakeY] at h
  rw [List.length_cons, Nat.add_right_comm]
  split at h
  ·rename_i hw
   obtain ⟨v, hv, hnext⟩ := h
   exact wpAnyN_firstT ho (Region.noSelect_spec hsel) (fun c a w hh => hQ c a _ _ w hh) (hn i (by simp)) _ _ _ _ hcl (Region.free_spec ho hc.2) hm (hv.yif hw)
    (ih _ _ _ _ (fun k hk => hn k (by simp [hk])) (hcl.step hm) hs hnext)
  ·rename_i hw
   exact wpAnyN_firstT ho (Region.noSelect_spec hsel) (fun c a w hh => hQ c a _ _ w hh) (hn i (by simp)) _ _ _ _ hcl (Region.free_spec ho hc.2) hm (.inr (.inl ⟨by simpa using hw, rfl⟩))
    (ih _ _ _ _ (fun k hk => hn k (by simp [hk])) (hcl.step hm) hs h)
theorem gC_takeT {l l' : Array Bool} {a : Act} {w : World} {f F : Nat} (T : List Nat) {lT : List Oper} (hF : F = T.length + f) (hsel : Region.noSelect ops = true) (hl : simT ops T l = some l') (hTB : (T.all fun i => B.contains i) = true) (hT : sel ops T = lT)
  (hQ : ∀ c (a : Act) d v w, Q (.panic c) (a.put d v) w → Q (.panic c) a w)
  (h : wpTakeY P ops (fun _ => True) (fun a' => gC P ops Q S B f l' a' w) lT a) : gC P ops Q S B F l a w := by
 subst hT hF
 intro hcl
 exact takesT_ok hsel hQ T _ _ l' a (fun i hi => by have := List.all_eq_true.1 hTB i hi; simpa using this) hcl hl h
theorem gC_any {l : Array Bool} {a : Act} {w : World} {f : Nat} (hne : Region.ready .any ops l ≠ [])
  (h : ∀ i ∈ Region.ready .any ops l, ∀ o, ops[i]? = some o → wpList P ops (Mid S (gC P ops Q S B f (l.setIfInBounds i true)) Q) [o] a w) : gC P ops Q S B (f + 1) l a w := by
 intro hcl
 refine ⟨fun h0 => absurd h0 hne, fun i hi => ?_⟩
 obtain ⟨_, o, ho, _⟩ := mem_ready.1 hi
 exact wpOp_of_list ho (fun a w hh => ⟨fun _ => (mid_out hh).1, (mid_out hh).2 (hcl.step hi)⟩) (fun e a w he hh => mid_else he hh) (h i hi o ho)
theorem gC_one {i : Nat} {l : Array Bool} {a : Act} {w : World} {f : Nat} {o : Oper} (hr : Region.ready .any ops l = [i]) (ho : ops[i]? = some o)
  (h : wpList P ops (Mid S (gC P ops Q S B f (l.setIfInBounds i true)) Q) [o] a w) : gC P ops Q S B (f + 1) l a w := by
 refine gC_any (by rw [hr]; simp) fun i' hi o' ho' => ?_
 rw [hr] at hi
 obtain rfl : i' = i := by simpa using hi
 rw [ho] at ho'
 injection ho' with ho'
 subst ho'
 exact h
theorem gC_two {i j : Nat} {l : Array Bool} {a : Act} {w : World} {f : Nat} {o o2 : Oper} (hr : Region.ready .any ops l = [i, j]) (ho : ops[i]? = some o) (ho2 : ops[j]? = some o2)
  (h : wpList P ops (Mid S (gC P ops Q S B f (l.setIfInBounds i true)) Q) [o] a w) (h2 : wpList P ops (Mid S (gC P ops Q S B f (l.setIfInBounds j true)) Q) [o2] a w) : gC P ops Q S B (f + 1) l a w := by
 refine gC_any (by rw [hr]; simp) fun i' hi o' ho' => ?_
 rw [hr] at hi
 simp only [List.mem_cons, List.not_mem_nil, or_false] at hi
 rcases hi with rfl | rfl
 ·rw [ho] at ho'
  injection ho' with ho'
  subst ho'
  exact h
 ·rw [ho2] at ho'
  injection ho' with ho'
  subst ho'
  exact h2
theorem gC_end {l : Array Bool} {a : Act} {w : World} {f : Nat} (R : List Nat) {lB : List Oper} (hf : R.length ≤ f) (hRB : (R.all fun j => B.contains j) = true) (hk : simR ops R l = true) (hB : sel ops R = lB) (h : wpList P ops Q lB a w) : gC P ops Q S B f l a w := by
 subst hB
 intro _
 exact rest_ok (S := S) (fun j hj => by have := List.all_eq_true.1 hRB j hj; simpa using this) [] f l a w (by simpa using hf) hk (by rw [sel, List.filterMap_nil, wpThen]; exact h)
end
attribute [irreducible] gC
open Go.RowKit
structure Chg (gf : Nat) (v1 v2 : Value) (w w' : World) : Prop where
 os : w'.os = w.os
 tape : w'.tape = w.tape
 output : w'.output = w.output
 size : w.heap.size ≤ w'.heap.size
 block : ∀ b, b < w.heap.size → b ≠ gf → v1.ownBlock ≠ some b → v2.ownBlock ≠ some b → w'.heap[b]? = w.heap[b]?
theorem Chg.of_below {gf : Nat} {v1 v2 : Value} {w w' : World} (h : Below w.heap.size w w') : Chg gf v1 v2 w w' := ⟨h.os, h.tape, h.output, h.size, fun b hb _ _ _ => h.block b hb⟩
def OwnTo (w : World) (v v' : Value) : Prop := v'.ownBlock = v.ownBlock ∨ ∃ g, w.heap.size ≤ g ∧ v'.ownBlock = some g
theorem OwnTo.refl (w : World) (v : Value) : OwnTo w v v := .inl rfl
def S3 (gf g1 g2 : Nat) (c0 c1 c2 : Array Value) (w : World) : Prop := Blk w gf c0 ∧ Blk w g1 c1 ∧ Blk w g2 c2
theorem S3.alloc {gf g1 g2 : Nat} {c0 c1 c2 : Array Value} {w : World} (h : S3 gf g1 g2 c0 c1 c2 w) (o : Obj) : S3 gf g1 g2 c0 c1 c2 (w.alloc o) := ⟨h.1.alloc o, h.2.1.alloc o, h.2.2.alloc o⟩
theorem S3.grown {gf g1 g2 : Nat} {c0 c1 c2 : Array Value} {w w' : World} {row : Option Nat} (h : S3 gf g1 g2 c0 c1 c2 w) (hg : w.grownBy w' row) (h0 : some gf ≠ row) (h1 : some g1 ≠ row) (h2 : some g2 ≠ row) : S3 gf g1 g2 c0 c1 c2 w' := ⟨h.1.grown hg h0, h.2.1.grown hg h1, h.2.2.grown hg h2⟩
theorem Chg.alloc {gf : Nat} {v1 v2 : Value} {w w' : World} (h : Chg gf v1 v2 w w') (o : Obj) : Chg gf v1 v2 w (w'.alloc o) := ⟨h.os, h.tape, h.output, Nat.le_trans h.size (by simp), fun b hb h1 h2 h3 => (Below.heap_alloc w' o b (Nat.lt_of_lt_of_le hb h.size)).trans (h.block b hb h1 h2 h3)⟩
theorem Chg.drew {gf : Nat} {v1 v2 : Value} {w w' : World} (h : Chg gf v1 v2 w w') : Chg gf v1 v2 w w'.drew := ⟨h.os, h.tape, h.output, h.size, h.block⟩
theorem Chg.set {gf : Nat} {v1 v2 : Value} {w w' : World} (h : Chg gf v1 v2 w w') {p : Addr} (hp : p.block = gf ∨ w.heap.size ≤ p.block) (u : Value) : Chg gf v1 v2 w (w'.setCell p u) :=
 ⟨h.os, h.tape, h.output, by simpa using h.size, fun b hb h1 h2 h3 => (Below.heap_setCell w' p u b (by rcases hp with e | e; exact fun e' => h1 (e'.trans e); omega)).trans (h.block b hb h1 h2 h3)⟩
theorem name_midw {S : World → Prop} {K : Act → World → Prop} {Q : Exit → Act → World → Prop} {a : Act} {w : World} (h : ∀ wx, wx = w → Mid S K Q .normal a wx) : Mid S K Q .normal a w := h w rfl
theorem Blk.two {w : World} {g : Nat} {x y : Value} (h : Blk w g #[x, y]) : w.cell? ⟨g, 0, none⟩ = some x ∧ w.cell? ⟨g, 1, none⟩ = some y := ⟨h.at_ (i := 0) rfl, h.at_ (i := 1) rfl⟩
open Go.RowKit
section
variable {gf : Nat} {w w1 w2 : World} {v v1 v2 v1' v2' : Value}
theorem OwnTo.ne {b : Nat} (h : OwnTo w v v1) (hb : b < w.heap.size) (hv : v.ownBlock ≠ some b) : v1.ownBlock ≠ some b := by
 rcases h with h | ⟨g, hg, h⟩
 ·rw [h]; exact hv
 ·rw [h]; exact fun e => by injection e with e; omega
theorem OwnTo.trans (h : OwnTo w v v1) (k : OwnTo w1 v1 v2) (hs : w.heap.size ≤ w1.heap.size) : OwnTo w v v2 := by
 rcases k with k | ⟨g, hg, k⟩
 ·exact h.imp (fun h => k.trans h) fun ⟨g, hg, h⟩ => ⟨g, hg, k.trans h⟩
 ·exact .inr ⟨g, by omega, k⟩
theorem Chg.trans (h : Chg gf v1 v2 w w1) (o1 : OwnTo w v1 v1') (o2 : OwnTo w v2 v2') (k : Chg gf v1' v2' w1 w2) : Chg gf v1 v2 w w2 :=
 ⟨k.os.trans h.os, k.tape.trans h.tape, k.output.trans h.output, Nat.le_trans h.size k.size, fun b hb h1 h2 h3 =>
  (k.block b (Nat.lt_of_lt_of_le hb h.size) h1 (o1.ne hb h2) (o2.ne hb h3)).trans (h.block b hb h1 h2 h3)⟩
theorem Chg.below (h : Chg gf v1 v2 w w1) (hb : Below w1.heap.size w1 w2) : Chg gf v1 v2 w w2 :=
 ⟨hb.os.trans h.os, hb.tape.trans h.tape, hb.output.trans h.output, Nat.le_trans h.size hb.size, fun b hl h1 h2 h3 => (hb.block b (Nat.lt_of_lt_of_le hl h.size)).trans (h.block b hl h1 h2 h3)⟩
theorem Chg.blk {g : Nat} {cs : Array Value} (h : Chg gf v1 v2 w w1) (hb : Blk w g cs) (h0 : g ≠ gf) (h1 : v1.ownBlock ≠ some g) (h2 : v2.ownBlock ≠ some g) : Blk w1 g cs := by
 have hl := hb.lt
 obtain ⟨t, hb⟩ := hb
 exact ⟨t, (h.block g hl h0 h1 h2).trans hb⟩
theorem Chg.cell {b o : Nat} {x : Value} (h : Chg gf v1 v2 w w1) (hx : w.cell? ⟨b, o, none⟩ = some x) (h0 : b ≠ gf) (h1 : v1.ownBlock ≠ some b) (h2 : v2.ownBlock ≠ some b) : w1.cell? ⟨b, o, none⟩ = some x :=
 (World.cell?_of_block (w := w) (a := ⟨b, o, none⟩) (h.block b (World.block_lt_of_cell? w _ hx) h0 h1 h2)).trans hx
end
def PO (L : Nat) (X : Nat → Prop) (w : World) (v v1 v2 : Value) (b : Nat) : Prop := L ≤ b ∧ b < w.heap.size ∧ v.ownBlock ≠ some b ∧ v1.ownBlock ≠ some b ∧ v2.ownBlock ≠ some b ∧ ¬ X b
def OutR (L : Nat) (X : Nat → Prop) (w : World) (v v1 v2 : Value) (os : List Tm) : Prop := ∃ xs, w.ownsRow L 25 3 v os.length xs ∧ RdX (PO L X w v v1 v2) w os xs
section
variable {L gf : Nat} {X X' : Nat → Prop} {w w' : World} {v v1 v2 v1' v2' : Value} {os : List Tm}
theorem OutR.nil : OutR L X w (.slice none 0 0) v1 v2 [] := ⟨[], World.ownsRow_nil _ _ _ _, rfl⟩
theorem OutR.own (h : OutR L X w v v1 v2 os) : ∀ g, v.ownBlock = some g → L ≤ g ∧ g < w.heap.size := by
 obtain ⟨xs, h1, _⟩ := h
 exact fun g hg => h1.lt g hg
theorem OutR.mono (h : OutR L X w v v1 v2 os) (hX : ∀ b, b < w.heap.size → X' b → X b) : OutR L X' w v v1 v2 os := by
 obtain ⟨xs, h1, h2⟩ := h
 exact ⟨xs, h1, h2.keep (fun b hb => ⟨hb.1, hb.2.1, hb.2.2.1, hb.2.2.2.1, hb.2.2.2.2.1, fun e => hb.2.2.2.2.2 (hX b hb.2.1 e)⟩) fun _ _ _ => rfl⟩
theorem OutR.frame (h : OutR L X w v v1 v2 os) (hs : w.heap.size ≤ w'.heap.size) (o1 : OwnTo w v1 v1') (o2 : OwnTo w v2 v2') (hv : ∀ g, v.ownBlock = some g → w'.heap[g]? = w.heap[g]?) (hk : ∀ b, L ≤ b → b < w.heap.size → v.ownBlock ≠ some b → v1.ownBlock ≠ some b → v2.ownBlock ≠ some b → ¬ X b → w'.heap[b]? = w.heap[b]?) : OutR L X w' v v1' v2' os := by
 obtain ⟨xs, h1, h2⟩ := h
 exact ⟨xs, ownsRow_frame h1 hv, h2.keep (fun b hb => ⟨hb.1, Nat.lt_of_lt_of_le hb.2.1 hs, hb.2.2.1, o1.ne hb.2.1 hb.2.2.2.1, o2.ne hb.2.1 hb.2.2.2.2.1, hb.2.2.2.2.2⟩) fun b hb hl => hk b hb.1 hl hb.2.2.1 hb.2.2.2.1 hb.2.2.2.2.1 hb.2.2.2.2.2⟩
theorem OutR.rd (h : OutR L X w v v1 v2 os) (hv : ∀ g, v.ownBlock = some g → v1.ownBlock ≠ some g ∧ v2.ownBlock ≠ some g) : ∃ A c, v = .slice A os.length c ∧ RdP (fun b => L ≤ b ∧ v1.ownBlock ≠ some b ∧ v2.ownBlock ≠ some b) w A 0 os := by
 obtain ⟨xs, h1, h2⟩ := h
 rcases h1.2 with ⟨rfl, h0⟩ | ⟨g, cap, cur, rfl, hb, hg, _, _, _, htk⟩
 ·have : os = [] := List.eq_nil_of_length_eq_zero h0
  subst this
  exact ⟨none, 0, rfl, RdP.nil⟩
 ·refine ⟨_, _, rfl, RdX.rdp ⟨hb, hv g rfl⟩ (h2.keep (fun b hb => ⟨hb.1, hb.2.2.2.1, hb.2.2.2.2.1⟩) fun _ _ _ => rfl) fun j u hu => ?_⟩
  rw [show 0 + 0 * 3 + j = j by omega, cell_of_row w g j cur 25 (0, 0) hg]
  have h3 := htk
  rw [← h3, List.getElem?_take] at hu
  split at hu
  ·simpa using hu
  ·cases hu
theorem OutR.shape (h : OutR L X w v v1 v2 os) : ∃ A c, v = .slice A os.length c := by
 obtain ⟨xs, h1, h2⟩ := h
 rcases h1.2 with ⟨rfl, h0⟩ | ⟨g, cap, cur, rfl, hb, hg, _, _, _, htk⟩
 ·exact ⟨none, 0, by rw [h0]⟩
 ·exact ⟨_, _, rfl⟩
end
def FE (E : Nat → Prop) (W : Nat) (v : Value) (X : Nat → Prop) (b : Nat) : Prop := E b ∨ (W ≤ b ∧ b < W + 4) ∨ v.ownBlock = some b ∨ X b
structure Com (B gf : Nat) (E : Nat → Prop) (v1 v2 : Value) (w : World) (c0 c1 : Array Value) (k n : Int) (X : Nat → Prop) (v1' v2' v : Value) (l r os : List Tm) (wr : World) : Prop where
 chg : Chg gf v1 v2 w wr
 o1 : OwnTo w v1 v1'
 o2 : OwnTo w v2 v2'
 fin : Blk wr gf #[v1', v2']
 rows : Rows2 B (FE E w.heap.size v X) wr v1' v2' l r
 out : OutR (w.heap.size + 4) X wr v v1' v2' os
 b0 : Blk wr w.heap.size c0
 b1 : Blk wr (w.heap.size + 1) c1
 b2 : Blk wr (w.heap.size + 1 + 1) #[.int .i64 0, .int .i64 0, .slice none 0 0]
 b3 : Blk wr (w.heap.size + 1 + 1 + 1) #[.int .i64 k, .int .i64 n, v]
section
variable {B gf : Nat} {E X X' : Nat → Prop} {v1 v2 v1' v2' v v' : Value} {w wr wy w1 : World} {c0 c1 : Array Value} {k n : Int} {l r os l2 r2 os' : List Tm}
theorem Com.size (h : Com B gf E v1 v2 w c0 c1 k n X v1' v2' v l r os wr) : w.heap.size + 1 + 1 + 1 < wr.heap.size := h.b3.lt
theorem Com.free (h : Com B gf E v1 v2 w c0 c1 k n X v1' v2' v l r os wr) {b : Nat} (hb : w.heap.size ≤ b ∧ b < w.heap.size + 4) : v1'.ownBlock ≠ some b ∧ v2'.ownBlock ≠ some b :=
 ⟨fun e => h.rows.e1 b e (.inr (.inl hb)), fun e => h.rows.e2 b e (.inr (.inl hb))⟩
theorem Com.below (h : Com B gf E v1 v2 w c0 c1 k n X v1' v2' v l r os wr) (hb : Below wr.heap.size wr w1) : Com B gf E v1 v2 w c0 c1 k n X v1' v2' v l r os w1 :=
 ⟨h.chg.below hb, h.o1, h.o2, h.fin.keep hb, h.rows.below hb, h.out.frame hb.size (.refl _ _) (.refl _ _) (fun g hg => hb.block g (h.out.own g hg).2) (fun b _ hl _ _ _ _ => hb.block b hl), h.b0.keep hb, h.b1.keep hb, h.b2.keep hb, h.b3.keep hb⟩
theorem Com.alloc (h : Com B gf E v1 v2 w c0 c1 k n X v1' v2' v l r os wr) (o : Obj) : Com B gf E v1 v2 w c0 c1 k n X v1' v2' v l r os (wr.alloc o) := h.below ((Below.refl _ _).alloc (Nat.le_refl _) _)
theorem Com.drew (h : Com B gf E v1 v2 w c0 c1 k n X v1' v2' v l r os wr) : Com B gf E v1 v2 w c0 c1 k n X v1' v2' v l r os wr.drew := h.below (Below.refl _ _).drew
theorem Com.begin (hgf : gf < B) (hB : B ≤ w.heap.size) (hE : ∀ b, E b → b < w.heap.size) (hf : Blk w gf #[v1, v2]) (hR : Rows2 B E w v1 v2 l r) (hb : Below w.heap.size w wr) (h0 : Blk wr w.heap.size c0) (h1 : Blk wr (w.heap.size + 1) c1) (h2 : Blk wr (w.heap.size + 1 + 1) #[.int .i64 0, .int .i64 0, .slice none 0 0]) (h3 : Blk wr (w.heap.size + 1 + 1 + 1) #[.int .i64 k, .int .i64 n, .slice none 0 0]) :
  Com B gf E v1 v2 w c0 c1 k n (fun _ => False) v1 v2 (.slice none 0 0) l r [] wr :=
 ⟨.of_below hb, .refl _ _, .refl _ _, hf.keep hb, (hR.mono (fun b hb e => by
  rcases e with e | e | e | e
  ·exact e
  ·omega
  ·cases e
  ·exact e.elim)).below hb, OutR.nil, h0, h1, h2, h3⟩
end
theorem Rows2.cut {B : Nat} {E : Nat → Prop} {w : World} {A1 A2 : Option Addr} {n1 n2 c1 c2 : Nat} {l r : List Tm} (h : Rows2 B E w (.slice A1 n1 c1) (.slice A2 n2 c2) l r) : ((A1 = none ∨ ∃ g, A1 = some ⟨g, 0, none⟩) ∧ l.length ≤ c1) ∧ ((A2 = none ∨ ∃ g, A2 = some ⟨g, 0, none⟩) ∧ r.length ≤ c2) := by
 obtain ⟨⟨xs, ys, h1, h2, _⟩, _⟩ := h
 refine ⟨?_, ?_⟩
 ·rcases h1.2 with ⟨e, h0⟩ | ⟨g, cap, cur, e, hb, hg, k1, _⟩
  ·injection e with e1 e2 e3; subst e1 e3; exact ⟨.inl rfl, by omega⟩
  ·injection e with e1 e2 e3; subst e1 e3; exact ⟨.inr ⟨g, rfl⟩, k1⟩
 ·rcases h2.2 with ⟨e, h0⟩ | ⟨g, cap, cur, e, hb, hg, k1, _⟩
  ·injection e with e1 e2 e3; subst e1 e3; exact ⟨.inl rfl, by omega⟩
  ·injection e with e1 e2 e3; subst e1 e3; exact ⟨.inr ⟨g, rfl⟩, k1⟩
section
variable {B gf z : Nat} {E E' : Nat → Prop} {v1 v2 v1' v2' : Value} {w w4 : World} {l r l2 r2 kso : List Tm} {ko no : Int} {st : Prs} {Ao : Option Addr} {co : Nat}
end
theorem RdP.atp {p : Nat → Prop} {w : World} {A : Option Addr} {ks : List Tm} (hr : RdP p w A 0 ks) {j : Nat} (hj : j < ks.length) :
  ∃ b off k n ks' A' c, A = some ⟨b, off, none⟩ ∧ ks[j] = .mk k n ks' ∧ p b ∧ w.cell? ⟨b, off + j * 3, none⟩ = some (.int .i64 k) ∧ w.cell? ⟨b, off + j * 3 + 1, none⟩ = some (.int .i64 n) ∧
   w.cell? ⟨b, off + j * 3 + 2, none⟩ = some (.slice A' ks'.length c) ∧ ks'.length ≤ 9223372036854775807 ∧ RdP p w A' 0 ks' := by
 obtain ⟨b, off, hA, hc⟩ := hr.get hj
 rw [Nat.zero_add] at hc
 generalize ks[j] = t at hc ⊢
 obtain ⟨k, n, ks'⟩ := t
 obtain ⟨hp, h1, h2, A', c, h3, h4, h5⟩ := RdPC.iff.1 hc
 exact ⟨b, off, k, n, ks', A', c, hA, rfl, hp, h1, h2, h3, h4, h5⟩
structure KS (W : Nat) (c0 c1 : Array Value) (b o : Nat) (x0 x1 x2 : Value) (b' o' : Nat) (y0 y1 y2 : Value) (w : World) : Prop where
 h0 : Blk w W c0
 h1 : Blk w (W + 1) c1
 p0 : w.cell? ⟨b, o, none⟩ = some x0
 p1 : w.cell? ⟨b, o + 1, none⟩ = some x1
 p2 : w.cell? ⟨b, o + 2, none⟩ = some x2
 q0 : w.cell? ⟨b', o', none⟩ = some y0
 q1 : w.cell? ⟨b', o' + 1, none⟩ = some y1
 q2 : w.cell? ⟨b', o' + 2, none⟩ = some y2
section
variable {W gf : Nat} {c0 c1 : Array Value} {b o b' o' : Nat} {x0 x1 x2 y0 y1 y2 v1 v2 : Value} {w w' : World}
theorem KS.below (h : KS W c0 c1 b o x0 x1 x2 b' o' y0 y1 y2 w) (hb : Below w.heap.size w w') : KS W c0 c1 b o x0 x1 x2 b' o' y0 y1 y2 w' :=
 ⟨h.h0.keep hb, h.h1.keep hb, Keeps.of_below hb _ _ h.p0, Keeps.of_below hb _ _ h.p1, Keeps.of_below hb _ _ h.p2, Keeps.of_below hb _ _ h.q0, Keeps.of_below hb _ _ h.q1, Keeps.of_below hb _ _ h.q2⟩
theorem KS.alloc (h : KS W c0 c1 b o x0 x1 x2 b' o' y0 y1 y2 w) (ob : Obj) : KS W c0 c1 b o x0 x1 x2 b' o' y0 y1 y2 (w.alloc ob) := h.below ((Below.refl _ _).alloc (Nat.le_refl _) _)
theorem KS.chg (h : KS W c0 c1 b o x0 x1 x2 b' o' y0 y1 y2 w) (hc : Chg gf v1 v2 w w') (f0 : W ≠ gf ∧ v1.ownBlock ≠ some W ∧ v2.ownBlock ≠ some W) (f1 : W + 1 ≠ gf ∧ v1.ownBlock ≠ some (W + 1) ∧ v2.ownBlock ≠ some (W + 1))
  (f2 : b ≠ gf ∧ v1.ownBlock ≠ some b ∧ v2.ownBlock ≠ some b) (f3 : b' ≠ gf ∧ v1.ownBlock ≠ some b' ∧ v2.ownBlock ≠ some b') : KS W c0 c1 b o x0 x1 x2 b' o' y0 y1 y2 w' :=
 ⟨hc.blk h.h0 f0.1 f0.2.1 f0.2.2, hc.blk h.h1 f1.1 f1.2.1 f1.2.2, hc.cell h.p0 f2.1 f2.2.1 f2.2.2, hc.cell h.p1 f2.1 f2.2.1 f2.2.2, hc.cell h.p2 f2.1 f2.2.1 f2.2.2, hc.cell h.q0 f3.1 f3.2.1 f3.2.2, hc.cell h.q1 f3.1 f3.2.1 f3.2.2, hc.cell h.q2 f3.1 f3.2.1 f3.2.2⟩
end
theorem Com.lt {B gf : Nat} {E X : Nat → Prop} {v1 v2 v1' v2' v : Value} {w wr : World} {c0 c1 : Array Value} {k n : Int} {l r os : List Tm} (h : Com B gf E v1 v2 w c0 c1 k n X v1' v2' v l r os wr) (hE : ∀ b, E b → b < w.heap.size) (hX : ∀ b, X b → b < wr.heap.size) : ∀ b, FE E w.heap.size v X b → b < wr.heap.size := by
 have hs := h.size
 intro b e
 rcases e with e | e | e | e
 ·have := hE b e; omega
 ·omega
 ·exact (h.out.own b e).2
 ·exact hX b e
open Go.RowKit
theorem sizes_takeC {ks : List Tm} {j : Nat} (hj : j < ks.length) : sizes (ks.take (j + 1)) = sizes (ks.take j) + ks[j].size := by
 rw [List.take_succ_eq_append_getElem hj, sizes_append]; simp [sizes]
theorem sizes_take_leC (ks : List Tm) (j : Nat) : sizes (ks.take j) ≤ sizes ks := by
 have := sizes_append (ks.take j) (ks.drop j)
 rw [List.take_append_drop] at this
 omega
theorem name_list {P : Program} {ops : Array Oper} {Q : Exit → Act → World → Prop} {l : List Oper} {a : Act} {w : World} (h : ∀ wx, wx = w → wpList P ops Q l a wx) : wpList P ops Q l a w := h w rfl
theorem RdP.set3 {p : Nat → Prop} {w : World} {A : Option Addr} {ks : List Tm} (h : RdP p w A 0 ks) {g : Nat} (hg : ¬ p g) (x y z : Value) : RdP p (((w.setCell ⟨g, 0, none⟩ x).setCell ⟨g, 1, none⟩ y).setCell ⟨g, 2, none⟩ z) A 0 ks := ((h.setCell hg _).setCell hg _).setCell hg _
end Go.Proofs.Ytddkehjdjfmhmaa
