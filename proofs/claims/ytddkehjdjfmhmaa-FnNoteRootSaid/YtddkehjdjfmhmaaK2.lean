/-
 Contracts of the functions that the law reaches, and plain lemmas. No condition.
-/
import Derived.Test.YtddkehjdjfmhmaaK1
import Derived.OrdersHeld
import Derived.Deep.Quiet
import Derived.Tactics
import Derived.Tactics2
import Derived.WalkSpells
import Derived.WalkLawsBesides
namespace Go.Proofs.Ytddkehjdjfmhmaa
set_option linter.unusedSimpArgs false
set_option linter.unusedVariables false
open Go.RowKit
section
variable {P : Program} {ops : Array Oper} {Q : Exit → Act → World → Prop} {S : World → Prop} {need : Nat → Bool}
def pre (ops : Array Oper) : Nat → Nat → Nat → Bool
 | 0, _, _ => false
 | n + 1, j, i => match ops[j]? with
  | some o => o.after.any fun e => Region.binds .any e && (e.on == i || pre ops n e.on i)
  | none => false
def Closed (ops : Array Oper) (listed : Array Bool) : Prop :=
 ∀ k ok, ops[k]? = some ok → listed.getD k true = true → ∀ e ∈ ok.after, Region.binds .any e = true → listed.getD e.on false = true
theorem Closed.start : Closed ops (Array.replicate ops.size false) := by
 intro k ok hk hl
 have := (Array.getElem?_eq_some_iff.1 hk).1
 simp [this] at hl
theorem Closed.step {listed : Array Bool} {j : Nat} (h : Closed ops listed) (hj : j ∈ Region.ready .any ops listed) : Closed ops (listed.setIfInBounds j true) := by
 intro k ok hk hl e he hb
 obtain ⟨_, oj, hoj, hall⟩ := mem_ready.1 hj
 by_cases hkj : k = j
 ·subst hkj
  rw [hoj] at hk
  injection hk with hk
  subst hk
  exact getD_set_true (hall e he hb)
 ·rw [getD_set_ne true (Ne.symm hkj)] at hl
  exact getD_set_true (h k ok hk hl e he hb)
theorem Closed.pre {listed : Array Bool} (h : Closed ops listed) {i : Nat} : ∀ (n j : Nat), listed.getD j false = true → pre ops n j i = true → listed.getD i false = true := by
 intro n
 induction n with
 | zero => intro j _ hp; cases hp
 | succ n ih =>
  intro j hl hp
  rw [Go.Proofs.Ytddkehjdjfmhmaa.pre] at hp
  cases ho : ops[j]? with
  | none => rw [ho] at hp; cases hp
  | some o =>
   rw [ho] at hp
   obtain ⟨e, he, hb⟩ := Array.any_eq_true'.1 hp
   simp only [Bool.and_eq_true, Bool.or_eq_true, beq_iff_eq] at hb
   have hl' : listed.getD j true = true := by
    rcases Nat.lt_or_ge j listed.size with hlt | hge
    ·simp [hlt] at hl ⊢; exact hl
    ·simp [Array.getElem?_eq_none hge] at hl
   have h1 := h j o ho hl' e he hb.1
   rcases hb.2 with hb2 | hb2
   ·rw [← hb2]; exact h1
   ·exact ih _ h1 hb2
theorem Closed.ready {listed : Array Bool} (h : Closed ops listed) {i j n : Nat} (hj : j ∈ Region.ready .any ops listed) (hp : Go.Proofs.Ytddkehjdjfmhmaa.pre ops n j i = true) : listed.getD i false = true := by
 obtain ⟨_, oj, hoj, hall⟩ := mem_ready.1 hj
 cases n with
 | zero => cases hp
 | succ n =>
  rw [Go.Proofs.Ytddkehjdjfmhmaa.pre, hoj] at hp
  obtain ⟨e, he, hb⟩ := Array.any_eq_true'.1 hp
  simp only [Bool.and_eq_true, Bool.or_eq_true, beq_iff_eq] at hb
  have h1 := hall e he hb.1
  rcases hb.2 with hb2 | hb2
  ·rw [← hb2]; exact h1
  ·exact h.pre _ _ h1 hb2
def wpAnyN (P : Program) (ops : Array Oper) (Q : Exit → Act → World → Prop) (S : World → Prop) (need : Nat → Bool) : Nat → Array Bool → Act → World → Prop
 | 0, listed, a, w => Region.ready .any ops listed = [] ∧ Q .normal a w
 | fuel + 1, listed, a, w =>
  (Region.ready .any ops listed = [] → Q .normal a w) ∧
  ∀ i ∈ Region.ready .any ops listed, wpOp P ops Q i (fun a' w' => (need i = true → S w') ∧ wpAnyN P ops Q S need fuel (listed.setIfInBounds i true) a' w') a w
theorem wpAny_of_N : ∀ (fuel : Nat) (listed : Array Bool) (a : Act) (w : World), wpAnyN P ops Q S need fuel listed a w → wpAny P .any ops Q fuel listed a w
 | 0, _, _, _, h => h
 | fuel + 1, _, _, _, h => ⟨h.1, fun i hi => wpOp_mono (fun a' w' h' => wpAny_of_N fuel _ a' w' h'.2) (h.2 i hi)⟩
theorem wpAnyN_first {i : Nat} {oi : Oper} {v : Value} (hi : ops[i]? = some oi) (hsel : ∀ (j : Nat) (o : Oper) cs b, ops[j]? = some o → o.op ≠ .select cs b)
  (hQ : ∀ c a w, Q (.panic c) (a.put oi.dst v) w → Q (.panic c) a w)
  (hneed : ∀ listed, Closed ops listed → i ∈ Region.ready .any ops listed → ∀ j, j ∈ Region.ready .any ops listed → j ≠ i → need j = true) :
  ∀ (fuel : Nat) (listed : Array Bool) (a : Act) (w : World), Closed ops listed →
   (∀ j oj, ops[j]? = some oj → j ≠ i → listed.getD j true = false → (∀ e ∈ oj.after, Region.binds .any e = true → e.on ≠ i) → oi.apart ops oj = true) →
   i ∈ Region.ready .any ops listed → YieldsIf P ops S oi v a → S w →
   wpAnyN P ops Q S need fuel (listed.setIfInBounds i true) (a.put oi.dst v) w → wpAnyN P ops Q S need (fuel + 1) listed a w := by
 intro fuel
 induction fuel with
 | zero =>
  intro listed a w hcl _ hr hy hS H
  refine ⟨fun h => (by rw [h] at hr; cases hr), fun j hj => ?_⟩
  by_cases hji : j = i
  ·subst hji; exact hy.wpOp hi hS ⟨fun _ => hS, H⟩
  ·have := ready_mono hj hji
   rw [H.1] at this
   cases this
 | succ fuel ih =>
  intro listed a w hcl hfree hr hy hS H
  refine ⟨fun h => (by rw [h] at hr; cases hr), fun j hj => ?_⟩
  by_cases hji : j = i
  ·subst hji; exact hy.wpOp hi hS ⟨fun _ => hS, H⟩
  ·have h1 := H.2 j (ready_mono hj hji)
   have hnj := hneed listed hcl hr j hj hji
   obtain ⟨hjun, oj, hoj, hall⟩ := mem_ready.1 hj
   have hnot : ∀ e ∈ oj.after, Region.binds .any e = true → e.on ≠ i := fun e he hb heq => by
    have h1 := hall e he hb
    have h0 := (mem_ready.1 hr).1
    rw [heq] at h1
    rcases Nat.lt_or_ge i listed.size with h' | h'
    ·simp [h'] at h0 h1; rw [h0] at h1; cases h1
    ·simp [Array.getElem?_eq_none h'] at h1
   have h2 := wpOp_putIf hoj (hfree j oj hoj hji hjun hnot) (fun cs b => hsel i oi cs b hi) (fun cs b => hsel j oj cs b hoj) hQ hy h1
   have hfree' : ∀ k ok, ops[k]? = some ok → k ≠ i → (listed.setIfInBounds j true).getD k true = false →
     (∀ e ∈ ok.after, Region.binds .any e = true → e.on ≠ i) → oi.apart ops ok = true := fun k ok hk hki hun hno => by
    refine hfree k ok hk hki ?_ hno
    by_cases hjk : j = k
    ·subst hjk; exact hjun
    ·rw [getD_set_ne true hjk] at hun; exact hun
   refine wpOp_mono (fun a' w' h3 => ⟨h3.2.1, ih (listed.setIfInBounds j true) a' w' (hcl.step hj) hfree' (ready_mono hr (Ne.symm hji)) h3.1 (h3.2.1 hnj) ?_⟩) h2
   rw [Array.setIfInBounds_comm _ _ hji]
   exact h3.2.2
def Oper.takes (P : Program) (o : Oper) (a : Act) (S : World → Prop) (next : Act → Prop) : Prop := ∃ v, (∀ w, S w → (execOp a.eval o).run P w = .ok (.value v) w) ∧ next (a.put o.dst v)
def wpTake (P : Program) (ops : Array Oper) (S : World → Prop) (K : Act → Prop) : List Oper → Act → Prop
 | [], a => K a
 | o :: rest, a => if Region.wanted o (yielded ops a.tmps) then Oper.takes P o a S (wpTake P ops S K rest) else wpTake P ops S K rest (a.put o.dst undef)
def Mid (S : World → Prop) (K : Act → World → Prop) (Q : Exit → Act → World → Prop) : Exit → Act → World → Prop
 | .normal, a, w => S w ∧ K a w
 | e, a, w => Q e a w
def wpThen (P : Program) (ops : Array Oper) (Q : Exit → Act → World → Prop) (S : World → Prop) : List Oper → List Oper → Act → World → Prop
 | [], lB, a, w => wpList P ops Q lB a w
 | o :: r, lB, a, w => wpList P ops (Mid S (wpThen P ops Q S r lB) Q) [o] a w
def sel (ops : Array Oper) (l : List Nat) : List Oper := l.filterMap fun i => ops[i]?
def simT (ops : Array Oper) : List Nat → Array Bool → Option (Array Bool)
 | [], l => some l
 | i :: T, l => if (Region.ready .any ops l).contains i && Region.free .any ops l i then simT ops T (l.setIfInBounds i true) else none
def simR (ops : Array Oper) : List Nat → Array Bool → Bool
 | [], l => (Region.ready .any ops l).isEmpty
 | j :: R, l => Region.ready .any ops l == [j] && simR ops R (l.setIfInBounds j true)
def firstOk (ops : Array Oper) (T A B : List Nat) : Bool :=
 Region.noSelect ops && (match simT ops T (Array.replicate ops.size false) with | some l => simR ops (A ++ B) l | none => false) &&
 B.all (fun j => T.all fun i => pre ops ops.size j i) && A.all (fun j => !B.contains j) && (T.length + (A.length + B.length) == ops.size)
theorem wpOp_of_list {j : Nat} {o : Oper} (ho : ops[j]? = some o) {K : Act → World → Prop} {Q' : Exit → Act → World → Prop} (h1 : ∀ a w, Q' .normal a w → K a w) (h2 : ∀ e a w, e ≠ .normal → Q' e a w → Q e a w)
    {a : Act} {w : World} (h : wpList P ops Q' [o] a w) : wpOp P ops Q j K a w := by
  have conv : ∀ {K1 : Act → World → Prop} {a : Act} {w : World}, o.wp P a w K1 Q' → (∀ a w, K1 a w → K a w) → o.wp P a w K Q := by
    intro K1 a w hh hk
    unfold Oper.wp at *
    generalize (execOp a.eval o).run P w = r at *
    cases r with
    | ok n w' =>
      cases n <;> simp only [Oper.upon] at hh ⊢ <;>
        first
          | exact hk _ _ hh
          | (refine Calls.mono hh fun e w'' he => ?_
             cases e with
             | returned u => exact hk _ _ he
             | panicked c => exact h2 _ _ _ (by simp) he
             | outgrown => obtain ⟨a0, w0, h0⟩ := he; exact ⟨a0, w0, h2 _ _ _ (by simp) h0⟩)
          | exact Rows.mono hh fun u w'' he => hk _ _ he
    | halt x w' => cases x <;> simp only [Oper.upon] at hh ⊢ <;> exact h2 _ _ _ (by simp) hh
  unfold wpOp
  simp only [ho]
  rw [wpList] at h
  split
  · rename_i hw
    simp only [hw, if_true] at h
    rcases h with h | ⟨hasks, a0, w0, h0⟩
    · exact .inl (conv h fun a w hh => h1 _ _ (by simpa [wpList] using hh))
    · exact .inr ⟨hasks, a0, w0, h2 _ _ _ (by simp) h0⟩
  · rename_i hw
    simp only [hw] at h
    exact h1 _ _ (by simpa [wpList] using h)
theorem wpList_cons_iff {o : Oper} {r : List Oper} {a : Act} {w : World} (h : wpList P ops Q (o :: r) a w) : wpList P ops (fun e a w => match e with | .normal => wpList P ops Q r a w | e => Q e a w) [o] a w := by
  have conv : ∀ {a : Act} {w : World}, o.wp P a w (wpList P ops Q r) Q → o.wp P a w (wpList P ops (fun e a w => match e with | .normal => wpList P ops Q r a w | e => Q e a w) []) (fun e a w => match e with | .normal => wpList P ops Q r a w | e => Q e a w) := by
    intro a w hh
    unfold Oper.wp at *
    generalize (execOp a.eval o).run P w = r at *
    cases r with
    | ok n w' =>
      cases n <;> simp only [Oper.upon] at hh ⊢ <;>
        first
          | exact hh
          | (refine Calls.mono hh fun e w'' he => ?_
             cases e with
             | returned u => exact he
             | panicked c => exact he
             | outgrown => obtain ⟨a0, w0, h0⟩ := he; exact ⟨a0, w0, h0⟩)
    | halt x w' => cases x <;> simp only [Oper.upon] at hh ⊢ <;> exact hh
  rw [wpList] at h ⊢
  split
  · rename_i hw
    simp only [hw, if_true] at h
    rcases h with h | ⟨hasks, a0, w0, h0⟩
    · exact .inl (conv h)
    · exact .inr ⟨hasks, a0, w0, h0⟩
  · rename_i hw
    simp only [hw] at h
    exact h
theorem sel_cons {j : Nat} {o : Oper} {R : List Nat} (ho : ops[j]? = some o) : sel ops (j :: R) = o :: sel ops R := by
 simp only [sel, List.filterMap_cons, ho]
theorem rest_ok {B : List Nat} (hneed : ∀ j, j ∈ B → need j = false) : ∀ (A : List Nat) (fuel : Nat) (listed : Array Bool) (a : Act) (w : World), A.length + B.length ≤ fuel → simR ops (A ++ B) listed = true →
  wpThen P ops Q S (sel ops A) (sel ops B) a w → wpAnyN P ops Q S need fuel listed a w := by
 have tail : ∀ (B' : List Nat) (fuel : Nat) (listed : Array Bool) (a : Act) (w : World), (∀ j, j ∈ B' → need j = false) → B'.length ≤ fuel → simR ops B' listed = true →
   wpList P ops Q (sel ops B') a w → wpAnyN P ops Q S need fuel listed a w := by
  intro B'
  induction B' with
  | nil =>
   intro fuel listed a w _ _ hs h
   have hr : Region.ready .any ops listed = [] := by simpa [simR] using hs
   have h' : Q .normal a w := by simpa [sel, wpList] using h
   cases fuel with
   | zero => exact ⟨hr, h'⟩
   | succ f => exact ⟨fun _ => h', by rw [hr]; simp⟩
  | cons j B' ih =>
   intro fuel listed a w hn hf hs h
   rw [simR, Bool.and_eq_true] at hs
   have hr : Region.ready .any ops listed = [j] := by simpa using hs.1
   cases fuel with
   | zero => simp at hf
   | succ f =>
    refine ⟨fun h0 => (by rw [h0] at hr; cases hr), ?_⟩
    rw [hr]
    intro i hi
    obtain rfl : i = j := by simpa using hi
    have hm : i ∈ Region.ready .any ops listed := by rw [hr]; simp
    obtain ⟨_, o, ho, _⟩ := mem_ready.1 hm
    rw [sel_cons ho] at h
    refine wpOp_of_list ho (fun a w hh => ⟨fun hni => (by rw [hn i (by simp)] at hni; cases hni), ih f _ a w (fun j hj => hn j (by simp [hj])) (by simpa using hf) hs.2 hh⟩) (fun e a w he hh => ?_) (wpList_cons_iff h)
    cases e <;> first | exact hh | exact absurd rfl he
 intro A
 induction A with
 | nil => intro fuel listed a w hf hs h; exact tail B fuel listed a w hneed (by simpa using hf) hs h
 | cons j A ih =>
  intro fuel listed a w hf hs h
  rw [List.cons_append, simR, Bool.and_eq_true] at hs
  have hr : Region.ready .any ops listed = [j] := by simpa using hs.1
  cases fuel with
  | zero => simp at hf
  | succ f =>
   refine ⟨fun h0 => (by rw [h0] at hr; cases hr), ?_⟩
   rw [hr]
   intro i hi
   obtain rfl : i = j := by simpa using hi
   have hm : i ∈ Region.ready .any ops listed := by rw [hr]; simp
   obtain ⟨_, o, ho, _⟩ := mem_ready.1 hm
   rw [sel_cons ho, wpThen] at h
   refine wpOp_of_list ho (fun a w hh => ⟨fun _ => hh.1, ih f _ a w (by simp only [List.length_cons] at hf; omega) hs.2 hh.2⟩) (fun e a w he hh => ?_) h
   cases e <;> first | exact hh | exact absurd rfl he
theorem takes_ok (hsel : Region.noSelect ops = true) (hQ : ∀ c (a : Act) d v w, Q (.panic c) (a.put d v) w → Q (.panic c) a w) {w : World} (hS : S w) : ∀ (T : List Nat) (fuel : Nat) (listed l' : Array Bool) (a : Act),
  (∀ i, i ∈ T → ∀ listed, Closed ops listed → i ∈ Region.ready .any ops listed → ∀ j, j ∈ Region.ready .any ops listed → j ≠ i → need j = true) →
  Closed ops listed → simT ops T listed = some l' → wpTake P ops S (fun a' => Closed ops l' → wpAnyN P ops Q S need fuel l' a' w) (sel ops T) a → wpAnyN P ops Q S need (T.length + fuel) listed a w := by
 intro T
 induction T with
 | nil =>
  intro fuel listed l' a _ hcl hs h
  simp only [simT, Option.some.injEq] at hs
  subst hs
  rw [List.length_nil, Nat.zero_add]
  exact (by simpa [sel, wpTake] using h : Closed ops listed → _) hcl
 | cons i T ih =>
  intro fuel listed l' a hn hcl hs h
  rw [simT] at hs
  split at hs
  case isFalse => cases hs
  rename_i hc
  rw [Bool.and_eq_true] at hc
  have hm : i ∈ Region.ready .any ops listed := by simpa using hc.1
  obtain ⟨_, o, ho, _⟩ := mem_ready.1 hm
  rw [sel_cons ho, wpTake] at h
  rw [List.length_cons, Nat.add_right_comm]
  split at h
  ·rename_i hw
   obtain ⟨v, hv, hnext⟩ := h
   exact wpAnyN_first ho (Region.noSelect_spec hsel) (fun c a w hh => hQ c a _ _ w hh) (hn i (by simp)) _ _ _ _ hcl (Region.free_spec ho hc.2) hm (.inl ⟨hw, hv⟩) hS
    (ih _ _ _ _ (fun k hk => hn k (by simp [hk])) (hcl.step hm) hs hnext)
  ·rename_i hw
   exact wpAnyN_first ho (Region.noSelect_spec hsel) (fun c a w hh => hQ c a _ _ w hh) (hn i (by simp)) _ _ _ _ hcl (Region.free_spec ho hc.2) hm (.inr ⟨by simpa using hw, rfl⟩) hS
    (ih _ _ _ _ (fun k hk => hn k (by simp [hk])) (hcl.step hm) hs h)
theorem wpTake_mono {K K' : Act → Prop} (hK : ∀ a, K a → K' a) : ∀ (l : List Oper) (a : Act), wpTake P ops S K l a → wpTake P ops S K' l a
 | [], a, h => hK a h
 | o :: r, a, h => by
  rw [wpTake] at h ⊢
  split
  ·rename_i hw
   simp only [hw, if_true] at h
   obtain ⟨v, hv, hn⟩ := h
   exact ⟨v, hv, wpTake_mono hK r _ hn⟩
  ·rename_i hw
   simp only [hw] at h
   exact wpTake_mono hK r _ h
theorem wp_region_first {id : Nat} {a : Act} {w : World} (S : World → Prop) (T A B : List Nat) (lT lA lB : List Oper) (hm : P.follows .mixedOrders = true) (hk : firstOk ops T A B = true)
  (hT : sel ops T = lT) (hA : sel ops A = lA) (hB : sel ops B = lB) (hQ : ∀ c (a : Act) d v w, Q (.panic c) (a.put d v) w → Q (.panic c) a w) (hS : S w.drew)
  (h : wpTake P ops S (fun a' => wpThen P ops Q S lA lB a' w.drew) lT a) : (Code.region id ops true).wp P Q a w := by
 subst hT hA hB
 refine wp_region_any hm (wpAny_of_N (S := S) (need := fun j => !B.contains j) _ _ _ _ ?_)
 simp only [firstOk, Bool.and_eq_true, beq_iff_eq] at hk
 obtain ⟨⟨⟨⟨hsel, hsim⟩, hpre⟩, hAB⟩, hlen⟩ := hk
 cases hl : simT ops T (Array.replicate ops.size false) with
 | none => rw [hl] at hsim; cases hsim
 | some l' =>
 rw [hl] at hsim
 rw [show ops.size = T.length + (A.length + B.length) from hlen.symm]
 rw [show Array.replicate (T.length + (A.length + B.length)) false = Array.replicate ops.size false from by rw [hlen]]
 refine takes_ok hsel hQ (w := w.drew) hS T _ _ l' a (fun i hi listed hcl hr j hj hne => ?_) Closed.start hl (wpTake_mono (fun a' h' _ => rest_ok (fun j hj => ?_) A _ _ _ _ (Nat.le_refl _) hsim h') _ _ h)
 ·rw [Bool.not_eq_true', List.contains_eq_mem, decide_eq_false_iff_not]
  intro hjB
  have h1 := List.all_eq_true.1 (List.all_eq_true.1 hpre j hjB) i hi
  have h2 := hcl.ready hj h1
  have h3 := (mem_ready.1 hr).1
  rcases Nat.lt_or_ge i listed.size with h' | h'
  ·simp [h'] at h2 h3; rw [h3] at h2; cases h2
  ·simp [Array.getElem?_eq_none h'] at h2
 ·simp [hj]
theorem take_step {o : Oper} {rest : List Oper} {a a' : Act} {K : Act → Prop} {v : Value} (hw : Region.wanted o (yielded ops a.tmps) = true) (hv : ∀ w, S w → (execOp a.eval o).run P w = .ok (.value v) w)
  (ha : a.put o.dst v = a') (h : wpTake P ops S K rest a') : wpTake P ops S K (o :: rest) a := by
 subst ha; rw [wpTake, if_pos hw]; exact ⟨v, hv, h⟩
theorem take_skip {o : Oper} {rest : List Oper} {a a' : Act} {K : Act → Prop} (hw : Region.wanted o (yielded ops a.tmps) = false) (ha : a.put o.dst undef = a') (h : wpTake P ops S K rest a') : wpTake P ops S K (o :: rest) a := by
 subst ha; rw [wpTake, if_neg (by rw [hw]; exact Bool.false_ne_true)]; exact h
theorem take_nil {a : Act} {K : Act → Prop} (h : K a) : wpTake P ops S K [] a := h
theorem then_cons {o : Oper} {r lB : List Oper} {a : Act} {w : World} (h : wpList P ops (Mid S (wpThen P ops Q S r lB) Q) [o] a w) : wpThen P ops Q S (o :: r) lB a w := by rw [wpThen]; exact h
theorem then_nil {lB : List Oper} {a : Act} {w : World} (h : wpList P ops Q lB a w) : wpThen P ops Q S [] lB a w := by rw [wpThen]; exact h
theorem mid_intro {a : Act} {w : World} {K : Act → World → Prop} (h1 : S w) (h2 : K a w) : Mid S K Q .normal a w := ⟨h1, h2⟩
def wpCls (P : Program) (ops : Array Oper) (C : World → Prop) (Q : Act → Prop) (l : List Oper) (a : Act) : Prop := wpQuiet P ops C Q l a
theorem wp_region_class {id : Nat} {a : Act} {w : World} {l : List Oper} (C : World → Prop) (hm : P.follows .mixedOrders = true) (hB : Region.lexB .any l.toArray = true) (hC : C w.drew)
  (h : wpCls P l.toArray C (fun a' => ∀ w', C w' → Q .normal a' w') l a) : (Code.region id l.toArray true).wp P Q a w :=
 wp_region_quiet (C := C) hm hB hC (by simpa [wpCls] using h)
theorem quiet_one {C : World → Prop} {Q' : Act → Prop} {o : Oper} {rest : List Oper} {a a' : Act} {v : Value} (hw : Region.wanted o (yielded ops a.tmps) = true) (hv : ∀ w, C w → (execOp a.eval o).run P w = .ok (.value v) w)
  (ha : a.put o.dst v = a') (h : wpCls P ops C Q' rest a') : wpCls P ops C Q' (o :: rest) a := by
 subst ha
 unfold wpCls at *
 rw [wpQuiet, if_pos hw]
 refine ⟨v, fun w hw' => ?_, h⟩
 unfold Oper.quietAt
 rw [hv w hw']
 exact ⟨rfl, rfl⟩
theorem quiet_skip {C : World → Prop} {Q' : Act → Prop} {o : Oper} {rest : List Oper} {a a' : Act} (hw : Region.wanted o (yielded ops a.tmps) = false) (ha : a.put o.dst undef = a') (h : wpCls P ops C Q' rest a') : wpCls P ops C Q' (o :: rest) a := by
 subst ha; unfold wpCls at *; rw [wpQuiet, if_neg (by rw [hw]; exact Bool.false_ne_true)]; exact h
theorem quiet_call {C : World → Prop} {Q' : Act → Prop} {o : Oper} {rest : List Oper} {a a' : Act} {v : Value} (f : FuncId) (args : Array Value) (hw : Region.wanted o (yielded ops a.tmps) = true)
  (hv : ∀ w, C w → (execOp a.eval o).run P w = .ok (.enter f args) w) (hc : ∀ w, C w → Calls P f args w fun e w' => e = .returned v ∧ C w')
  (ha : a.put o.dst v = a') (h : wpCls P ops C Q' rest a') : wpCls P ops C Q' (o :: rest) a := by
 subst ha
 unfold wpCls at *
 rw [wpQuiet, if_pos hw]
 refine ⟨v, fun w hw' => ?_, h⟩
 unfold Oper.quietAt
 rw [hv w hw']
 exact ⟨rfl, hc w hw'⟩
theorem quiet_below {wx : World} {Q' : Act → Prop} {o : Oper} {rest : List Oper} {a a' : Act} {v : Value} (f : FuncId) (args : Array Value) (hw : Region.wanted o (yielded ops a.tmps) = true)
  (hv : ∀ w, Below wx.heap.size wx w → (execOp a.eval o).run P w = .ok (.enter f args) w) (hc : ∀ w, Below wx.heap.size wx w → Calls P f args w fun e w' => e = .returned v ∧ Below w.heap.size w w')
  (ha : a.put o.dst v = a') (h : wpCls P ops (fun w' => Below wx.heap.size wx w') Q' rest a') : wpCls P ops (fun w' => Below wx.heap.size wx w') Q' (o :: rest) a :=
 quiet_call f args hw hv (fun w hw => (hc w hw).mono fun _ _ ⟨he, hb⟩ => ⟨he, hw.trans (hb.mono hw.size)⟩) ha h
theorem quiet_same {wx : World} {Q' : Act → Prop} {o : Oper} {rest : List Oper} {a a' : Act} {v : Value} (f : FuncId) (args : Array Value) (hw : Region.wanted o (yielded ops a.tmps) = true)
  (hv : ∀ w, Below wx.heap.size wx w → (execOp a.eval o).run P w = .ok (.enter f args) w) (hc : ∀ w, Below wx.heap.size wx w → Calls P f args w fun e w' => e = .returned v ∧ w = w')
  (ha : a.put o.dst v = a') (h : wpCls P ops (fun w' => Below wx.heap.size wx w') Q' rest a') : wpCls P ops (fun w' => Below wx.heap.size wx w') Q' (o :: rest) a :=
 quiet_call f args hw hv (fun w hw => (hc w hw).mono fun _ _ ⟨he, hb⟩ => ⟨he, by rw [← hb]; exact hw⟩) ha h
theorem quiet_nil {C : World → Prop} {Q' : Act → Prop} {a : Act} (h : Q' a) : wpCls P ops C Q' [] a := h
end
attribute [irreducible] wpCls wpTake wpThen Mid
open Go.RowKit
def arity (k : Int) : Int :=
 if k = 1 then 0 else if k = 2 then 0 else if k = 6 then 0 else if k = 7 then 0 else if k = 8 then 1 else if k = 11 then 1 else if k = 15 then 1 else if k = 16 then 1 else
 if k = 3 then 2 else if k = 4 then 2 else if k = 5 then 2 else if k = 13 then 2 else if k = 10 then 3 else if k = 12 then 3 else if k = 14 then 3 else if k = 9 then 4 else -1
def mostN (k : Int) : Int := if k = 1 then 20 else if k = 2 then 3 else 0
set_option maxHeartbeats 400000 in
theorem within_any (n lo hi : Int) (w : World) :
  Calls Try.prog 37 #[.int .i64 n, .int .i64 lo, .int .i64 hi] w fun e w' => e = .returned (.bool (decide (lo ≤ n) && decide (n ≤ hi))) ∧ w = w' := by
 go_enter Try.func37, Try.ntmps37
 go_wp2
 all_goals go_ret
 all_goals refine ⟨ret_bool ?_, rfl⟩
 ·have h : lo ≤ n := by assumption
  simp [h]
 ·have h : n < lo := by assumption
  simp [show ¬ lo ≤ n from by omega]
set_option maxRecDepth 100000 in
set_option maxHeartbeats 1000000 in
theorem l1Kids_any (k : Int) (w : World) : Calls Try.prog 58 #[.int .i64 k] w fun e w' => e = .returned (.int .i64 (arity k)) ∧ w = w' := by
 go_enter Try.func58, Try.ntmps58
 go_wp2
 all_goals go_ret
 all_goals refine ⟨ret_int ?_, rfl⟩
 all_goals simp_all [arity]
set_option maxHeartbeats 400000 in
theorem l1Most_any (k : Int) (w : World) : Calls Try.prog 59 #[.int .i64 k] w fun e w' => e = .returned (.int .i64 (mostN k)) ∧ w = w' := by
 go_enter Try.func59, Try.ntmps59
 go_wp2
 all_goals go_ret
 all_goals refine ⟨ret_int ?_, rfl⟩
 all_goals simp_all [mostN]
set_option maxHeartbeats 400000 in
theorem most_any (k : Int) (w : World) : Calls Try.prog 45 #[.int .i64 k] w fun e w' => e = .returned (.int .i64 (mostN k)) ∧ w = w' := by
 go_enter Try.func45, Try.ntmps45
 go_wp2
 all_goals go_ret
 all_goals refine ⟨ret_int ?_, rfl⟩
 all_goals simp_all [mostN]
set_option maxRecDepth 100000 in
set_option maxHeartbeats 2000000 in
theorem operands_any (k : Int) (w : World) : Calls Try.prog 44 #[.int .i64 k] w fun e w' => e = .returned (.int .i64 (arity k)) ∧ Below w.heap.size w w' := by
 by_cases hk : 1 ≤ k ∧ k ≤ 16
 ·have hc : k = 1 ∨ k = 2 ∨ k = 3 ∨ k = 4 ∨ k = 5 ∨ k = 6 ∨ k = 7 ∨ k = 8 ∨ k = 9 ∨ k = 10 ∨ k = 11 ∨ k = 12 ∨ k = 13 ∨ k = 14 ∨ k = 15 ∨ k = 16 := by omega
  have hx : (#[Value.int .i64 0, Value.int .i64 0, Value.int .i64 2, Value.int .i64 2, Value.int .i64 2, Value.int .i64 0, Value.int .i64 0, Value.int .i64 1, Value.int .i64 4, Value.int .i64 3, Value.int .i64 1, Value.int .i64 3, Value.int .i64 2, Value.int .i64 3, Value.int .i64 1, Value.int .i64 1] : Array Value)[k.toNat - 1]? = some (.int .i64 (arity k)) := by
   rcases hc with rfl | rfl | rfl | rfl | rfl | rfl | rfl | rfl | rfl | rfl | rfl | rfl | rfl | rfl | rfl | rfl <;> rfl
  obtain ⟨h1, h2⟩ := hk
  have hb : (decide (1 ≤ k) && decide (k ≤ 16)) = true := by simp [h1, h2]
  clear hc
  go_enter Try.func44, Try.ntmps44
  go_wp2_with (go_at_call 37; refine (within_any _ _ _ _).mono ?_; rintro e w' ⟨rfl, rfl⟩)
  go_ret
  exact ⟨rfl, (Below.refl _ _).alloc (Nat.le_refl _) _⟩
 ·have hb : (decide (1 ≤ k) && decide (k ≤ 16)) = false := by
   rw [Bool.and_eq_false_iff, decide_eq_false_iff_not, decide_eq_false_iff_not]; omega
  have hH := hide hk
  clear hk
  go_enter Try.func44, Try.ntmps44
  go_wp2_with (go_at_call 37; refine (within_any _ _ _ _).mono ?_; rintro e w' ⟨rfl, rfl⟩)
  go_ret
  exact ⟨ret_int (by have := hH.out; unfold arity; repeat (rw [if_neg (by omega)])), Below.refl _ _⟩
open Go.RowKit
def shape : Nat → Tm → Bool
 | 0, _ => false
 | d + 1, .mk k n ks => arity k == (ks.length : Int) && decide (0 ≤ n) && decide (n ≤ mostN k) && ks.all (shape d)
theorem shape_split (d : Nat) (k n : Int) (ks : List Tm) : shape (d + 1) (.mk k n ks) = true ↔ arity k = (ks.length : Int) ∧ 0 ≤ n ∧ n ≤ mostN k ∧ ∀ t, t ∈ ks → shape d t = true := by
 simp only [shape, Bool.and_eq_true, beq_iff_eq, decide_eq_true_eq, List.all_eq_true, and_assoc]
theorem shape_no (d : Nat) (k n : Int) (ks : List Tm) (h : ¬ (arity k = (ks.length : Int) ∧ 0 ≤ n ∧ n ≤ mostN k)) : shape (d + 1) (.mk k n ks) = false := by
 cases e : shape (d + 1) (.mk k n ks) with
 | false => rfl
 | true => have := (shape_split d k n ks).1 e; exact absurd ⟨this.1, this.2.1, this.2.2.1⟩ h
set_option maxRecDepth 100000 in
set_option maxHeartbeats 1000000 in
theorem l1Shape_any (d : Nat) : ∀ (k n : Int) (ks : List Tm) (A : Option Addr) (c : Nat) (w : World), d ≤ 1000 → ks.length ≤ 9223372036854775807 → Rd w A 0 ks →
  Calls Try.prog 47 #[.agg #[.int .i64 k, .int .i64 n, .slice A ks.length c], .int .i64 d] w fun e w' => e = .returned (.bool (shape d (.mk k n ks))) ∧ Below w.heap.size w w' := by
 induction d with
 | zero =>
  intro k n ks A c w hd hl hr
  go_enter Try.func47, Try.ntmps47
  go_wp2_with fail
  refine name_world ?_
  intro wx hwx
  have hb0 : Below w.heap.size w wx := by rw [hwx]; exact (Below.refl _ _).alloc (Nat.le_refl _) _
  clear hwx
  refine wp_region_class (fun w' => Below wx.heap.size wx w') (by kernel_rfl) (by kernel_rfl) (Below.refl _ _).drew ?_
  repeat (first | ((refine quiet_skip (a' := ?_) ?_ ?_ ?_); (rotate_left); (· (simp [Region.wanted, yielded]; done)); (· (simp only [Act.put, List.setIfInBounds_toArray, List.set_cons_zero, List.set_cons_succ]; exact rfl))) | ((refine quiet_one (v := ?_) (a' := ?_) ?_ ?_ ?_ ?_); (rotate_left 2); (· (simp [Region.wanted, yielded]; done)); (· (intro w' hS'; go_simp; try (with_reducible rfl))); (· (simp only [Act.put, List.setIfInBounds_toArray, List.set_cons_zero, List.set_cons_succ]; exact rfl))))
  refine quiet_nil ?_
  intro w2 hb2
  go_wp2_with fail
  go_ret
  exact ⟨rfl, hb0.trans (hb2.mono hb0.size)⟩
 | succ d ih =>
  intro k n ks A c w hd hl hr
  have hz := hide (shape_split d k n ks)
  rw [show ((d + 1 : Nat) : Int) = (d : Int) + 1 from by omega]
  have q0 : decide ((d : Int) + 1 < 1) = false := by simp; omega
  by_cases h1 : arity k = (ks.length : Int)
  ·have q1 : (arity k != (ks.length : Int)) = false := by simpa using h1
   by_cases h2 : 0 ≤ n
   ·by_cases h3 : n ≤ mostN k
    ·have H := hide (And.intro h1 (And.intro h2 h3))
     have q2 : decide (n < 0) = false := by simp; omega
     have q3 : decide (mostN k < n) = false := by simp; omega
     clear h1
     go_enter Try.func47, Try.ntmps47
     go_wp2_with fail
     refine name_world ?_
     intro wx hwx
     have hb0 : Below w.heap.size w wx := by rw [hwx]; exact (Below.refl _ _).alloc (Nat.le_refl _) _
     have hB : Blk wx w.heap.size #[.int .i64 k, .int .i64 n, .slice A ks.length c] := by rw [hwx]; exact Blk.new _ _ _
     have hrx : Rd wx A 0 ks := by rw [hwx]; exact hr.alloc _
     have r0 := hB.rule (i := 0) rfl
     have r1 := hB.rule (i := 1) rfl
     have r2 := hB.rule (i := 2) rfl
     clear hwx
     refine wp_region_class (fun w' => Below wx.heap.size wx w') (by kernel_rfl) (by kernel_rfl) (Below.refl _ _).drew ?_
     repeat (first | ((refine quiet_skip (a' := ?_) ?_ ?_ ?_); (rotate_left); (· (simp [Region.wanted, yielded]; done)); (· (simp only [Act.put, List.setIfInBounds_toArray, List.set_cons_zero, List.set_cons_succ]; exact rfl))) | ((refine quiet_one (v := ?_) (a' := ?_) ?_ ?_ ?_ ?_); (rotate_left 2); (· (simp [Region.wanted, yielded]; done)); (· (intro w' hS'; go_simp; try (with_reducible rfl))); (· (simp only [Act.put, List.setIfInBounds_toArray, List.set_cons_zero, List.set_cons_succ]; exact rfl))) | ((refine quiet_same (v := ?_) (a' := ?_) 58 ?_ ?_ ?_ ?_ ?_ ?_); (rotate_left 3); (· (simp [Region.wanted, yielded]; done)); (· (intro w' hS'; go_simp; try (with_reducible rfl))); (· (intro w' hS'; exact l1Kids_any _ _)); (· (simp only [Act.put, List.setIfInBounds_toArray, List.set_cons_zero, List.set_cons_succ]; exact rfl))) | ((refine quiet_same (v := ?_) (a' := ?_) 59 ?_ ?_ ?_ ?_ ?_ ?_); (rotate_left 3); (· (simp [Region.wanted, yielded]; done)); (· (intro w' hS'; go_simp; try (with_reducible rfl))); (· (intro w' hS'; exact l1Most_any _ _)); (· (simp only [Act.put, List.setIfInBounds_toArray, List.set_cons_zero, List.set_cons_succ]; exact rfl))))
     refine quiet_nil ?_
     intro w2 hb2
     replace hB := hB.keep hb2
     replace hrx := hrx.below hb2
     replace hb0 := hb0.trans (hb2.mono hb0.size)
     clear r0 r1 r2 hb2
     go_wp2_with fail
     go_loopw [5] (fun i wr => ∃ j : Nat, j ≤ ks.length ∧ i = .int .i64 j ∧ Hid (∀ t, t ∈ ks.take j → shape d t = true) ∧ Below w2.heap.size w2 wr) (fun i _ => ks.length - (intOf i).toNat)
     case atStart => exact ⟨0, Nat.zero_le _, rfl, hide (by simp), Below.refl _ _⟩
     case round =>
      obtain ⟨j, hj, rfl, hall, hb⟩ := hrel
      replace hB := hB.keep hb
      have c2 := hB.at_ (i := 2) rfl
      by_cases hlt : j < ks.length
      ·obtain ⟨b, off, k1, n1, ks1, A1, c1, rfl, hkj, hc1, hc2, hc3, hl1, hr1⟩ := (hrx.below hb).at_ hlt
       have H3 := hide hkj
       clear hkj
       go_wp2_with (go_at_call 47; refine (ih k1 n1 ks1 A1 c1 _ (by omega) hl1 hr1).mono ?_; rintro e w3 ⟨rfl, hb3⟩)
       ·go_ret
        have hne : (!shape d (.mk k1 n1 ks1)) = true := by assumption
        refine ⟨ret_bool ?_, hb0.trans ((hb.trans (hb3.mono hb.size)).mono hb0.size)⟩
        cases e : shape (d + 1) (.mk k n ks) with
        | false => rfl
        | true =>
         have := (hz.out.1 e).2.2.2 ks[j] (List.getElem_mem hlt)
         rw [H3.out] at this
         rw [this] at hne
         cases hne
       ·have hne : (!shape d (.mk k1 n1 ks1)) = false := by assumption
        go_roundw
        case rel =>
         refine ⟨j + 1, by omega, by go_num, hide ?_, hb.trans (hb3.mono hb.size)⟩
         rw [List.take_succ_eq_append_getElem hlt, H3.out]
         intro t ht
         rcases List.mem_append.1 ht with ht | ht
         ·exact hall.out t ht
         ·simp only [List.mem_singleton] at ht
          subst ht
          simpa using hne
        case measure => simp [intOf]; omega
      ·go_wp2_with fail
       go_ret
       have hjl : j = ks.length := by omega
       have hall' := hall.out
       rw [hjl, List.take_length] at hall'
       exact ⟨ret_bool (hz.out.2 ⟨H.out.1, H.out.2.1, H.out.2.2, hall'⟩).symm, hb0.trans (hb.mono hb0.size)⟩
    ·have H := hide h3
     have q2 : decide (n < 0) = false := by simp; omega
     have q3 : decide (mostN k < n) = true := by simp; omega
     clear h1
     go_enter Try.func47, Try.ntmps47
     go_wp2_with fail
     refine name_world ?_
     intro wx hwx
     have hb0 : Below w.heap.size w wx := by rw [hwx]; exact (Below.refl _ _).alloc (Nat.le_refl _) _
     have hB : Blk wx w.heap.size #[.int .i64 k, .int .i64 n, .slice A ks.length c] := by rw [hwx]; exact Blk.new _ _ _
     have hrx : Rd wx A 0 ks := by rw [hwx]; exact hr.alloc _
     have r0 := hB.rule (i := 0) rfl
     have r1 := hB.rule (i := 1) rfl
     have r2 := hB.rule (i := 2) rfl
     clear hwx
     refine wp_region_class (fun w' => Below wx.heap.size wx w') (by kernel_rfl) (by kernel_rfl) (Below.refl _ _).drew ?_
     repeat (first | ((refine quiet_skip (a' := ?_) ?_ ?_ ?_); (rotate_left); (· (simp [Region.wanted, yielded]; done)); (· (simp only [Act.put, List.setIfInBounds_toArray, List.set_cons_zero, List.set_cons_succ]; exact rfl))) | ((refine quiet_one (v := ?_) (a' := ?_) ?_ ?_ ?_ ?_); (rotate_left 2); (· (simp [Region.wanted, yielded]; done)); (· (intro w' hS'; go_simp; try (with_reducible rfl))); (· (simp only [Act.put, List.setIfInBounds_toArray, List.set_cons_zero, List.set_cons_succ]; exact rfl))) | ((refine quiet_same (v := ?_) (a' := ?_) 58 ?_ ?_ ?_ ?_ ?_ ?_); (rotate_left 3); (· (simp [Region.wanted, yielded]; done)); (· (intro w' hS'; go_simp; try (with_reducible rfl))); (· (intro w' hS'; exact l1Kids_any _ _)); (· (simp only [Act.put, List.setIfInBounds_toArray, List.set_cons_zero, List.set_cons_succ]; exact rfl))) | ((refine quiet_same (v := ?_) (a' := ?_) 59 ?_ ?_ ?_ ?_ ?_ ?_); (rotate_left 3); (· (simp [Region.wanted, yielded]; done)); (· (intro w' hS'; go_simp; try (with_reducible rfl))); (· (intro w' hS'; exact l1Most_any _ _)); (· (simp only [Act.put, List.setIfInBounds_toArray, List.set_cons_zero, List.set_cons_succ]; exact rfl))))
     refine quiet_nil ?_
     intro w2 hb2
     replace hB := hB.keep hb2
     replace hrx := hrx.below hb2
     replace hb0 := hb0.trans (hb2.mono hb0.size)
     clear r0 r1 r2 hb2
     go_wp2_with fail
     go_ret
     exact ⟨ret_bool (shape_no _ _ _ _ (by have := H.out; omega)).symm, hb0⟩
   ·have H := hide h2
    have q2 : decide (n < 0) = true := by simp; omega
    clear h1
    go_enter Try.func47, Try.ntmps47
    go_wp2_with fail
    refine name_world ?_
    intro wx hwx
    have hb0 : Below w.heap.size w wx := by rw [hwx]; exact (Below.refl _ _).alloc (Nat.le_refl _) _
    have hB : Blk wx w.heap.size #[.int .i64 k, .int .i64 n, .slice A ks.length c] := by rw [hwx]; exact Blk.new _ _ _
    have hrx : Rd wx A 0 ks := by rw [hwx]; exact hr.alloc _
    have r0 := hB.rule (i := 0) rfl
    have r1 := hB.rule (i := 1) rfl
    have r2 := hB.rule (i := 2) rfl
    clear hwx
    refine wp_region_class (fun w' => Below wx.heap.size wx w') (by kernel_rfl) (by kernel_rfl) (Below.refl _ _).drew ?_
    repeat (first | ((refine quiet_skip (a' := ?_) ?_ ?_ ?_); (rotate_left); (· (simp [Region.wanted, yielded]; done)); (· (simp only [Act.put, List.setIfInBounds_toArray, List.set_cons_zero, List.set_cons_succ]; exact rfl))) | ((refine quiet_one (v := ?_) (a' := ?_) ?_ ?_ ?_ ?_); (rotate_left 2); (· (simp [Region.wanted, yielded]; done)); (· (intro w' hS'; go_simp; try (with_reducible rfl))); (· (simp only [Act.put, List.setIfInBounds_toArray, List.set_cons_zero, List.set_cons_succ]; exact rfl))) | ((refine quiet_same (v := ?_) (a' := ?_) 58 ?_ ?_ ?_ ?_ ?_ ?_); (rotate_left 3); (· (simp [Region.wanted, yielded]; done)); (· (intro w' hS'; go_simp; try (with_reducible rfl))); (· (intro w' hS'; exact l1Kids_any _ _)); (· (simp only [Act.put, List.setIfInBounds_toArray, List.set_cons_zero, List.set_cons_succ]; exact rfl))) | ((refine quiet_same (v := ?_) (a' := ?_) 59 ?_ ?_ ?_ ?_ ?_ ?_); (rotate_left 3); (· (simp [Region.wanted, yielded]; done)); (· (intro w' hS'; go_simp; try (with_reducible rfl))); (· (intro w' hS'; exact l1Most_any _ _)); (· (simp only [Act.put, List.setIfInBounds_toArray, List.set_cons_zero, List.set_cons_succ]; exact rfl))))
    refine quiet_nil ?_
    intro w2 hb2
    replace hB := hB.keep hb2
    replace hrx := hrx.below hb2
    replace hb0 := hb0.trans (hb2.mono hb0.size)
    clear r0 r1 r2 hb2
    go_wp2_with fail
    go_ret
    exact ⟨ret_bool (shape_no _ _ _ _ (by have := H.out; omega)).symm, hb0⟩
  ·have q1 : (arity k != (ks.length : Int)) = true := by simpa using h1
   have H := hide h1
   clear h1
   go_enter Try.func47, Try.ntmps47
   go_wp2_with fail
   refine name_world ?_
   intro wx hwx
   have hb0 : Below w.heap.size w wx := by rw [hwx]; exact (Below.refl _ _).alloc (Nat.le_refl _) _
   have hB : Blk wx w.heap.size #[.int .i64 k, .int .i64 n, .slice A ks.length c] := by rw [hwx]; exact Blk.new _ _ _
   have hrx : Rd wx A 0 ks := by rw [hwx]; exact hr.alloc _
   have r0 := hB.rule (i := 0) rfl
   have r1 := hB.rule (i := 1) rfl
   have r2 := hB.rule (i := 2) rfl
   clear hwx
   refine wp_region_class (fun w' => Below wx.heap.size wx w') (by kernel_rfl) (by kernel_rfl) (Below.refl _ _).drew ?_
   repeat (first | ((refine quiet_skip (a' := ?_) ?_ ?_ ?_); (rotate_left); (· (simp [Region.wanted, yielded]; done)); (· (simp only [Act.put, List.setIfInBounds_toArray, List.set_cons_zero, List.set_cons_succ]; exact rfl))) | ((refine quiet_one (v := ?_) (a' := ?_) ?_ ?_ ?_ ?_); (rotate_left 2); (· (simp [Region.wanted, yielded]; done)); (· (intro w' hS'; go_simp; try (with_reducible rfl))); (· (simp only [Act.put, List.setIfInBounds_toArray, List.set_cons_zero, List.set_cons_succ]; exact rfl))) | ((refine quiet_same (v := ?_) (a' := ?_) 58 ?_ ?_ ?_ ?_ ?_ ?_); (rotate_left 3); (· (simp [Region.wanted, yielded]; done)); (· (intro w' hS'; go_simp; try (with_reducible rfl))); (· (intro w' hS'; exact l1Kids_any _ _)); (· (simp only [Act.put, List.setIfInBounds_toArray, List.set_cons_zero, List.set_cons_succ]; exact rfl))) | ((refine quiet_same (v := ?_) (a' := ?_) 59 ?_ ?_ ?_ ?_ ?_ ?_); (rotate_left 3); (· (simp [Region.wanted, yielded]; done)); (· (intro w' hS'; go_simp; try (with_reducible rfl))); (· (intro w' hS'; exact l1Most_any _ _)); (· (simp only [Act.put, List.setIfInBounds_toArray, List.set_cons_zero, List.set_cons_succ]; exact rfl))))
   refine quiet_nil ?_
   intro w2 hb2
   replace hB := hB.keep hb2
   replace hrx := hrx.below hb2
   replace hb0 := hb0.trans (hb2.mono hb0.size)
   clear r0 r1 r2 hb2
   go_wp2_with fail
   go_ret
   exact ⟨ret_bool (shape_no _ _ _ _ (by have := H.out; omega)).symm, hb0⟩
end Go.Proofs.Ytddkehjdjfmhmaa
