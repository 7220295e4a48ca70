/-
  A region that draws its order, where operations that are taken first may be calls that leave the world as it is. No condition.
-/
import Derived.Test.YtefifcmieicnlaaReg
namespace Go.Proofs.Ytefifcmieicnlaa
open Go.RowKit
set_option linter.unusedSimpArgs false
set_option linter.unusedVariables false

section
variable {P : Program} {ops : Array Oper} {Q : Exit → Act → World → Prop} {S : World → Prop} {need : Nat → Bool}

/-- one operation yields one value, or calls what hands back one value and leaves the world, in every world that meets S -/
def OneV (P : Program) (o : Oper) (a : Act) (S : World → Prop) (v : Value) : Prop :=
  (∀ w, S w → (execOp a.eval o).run P w = .ok (.value v) w) ∨
  ∃ f args, (∀ w, S w → (execOp a.eval o).run P w = .ok (.enter f args) w) ∧ ∀ w, S w → Calls P f args w fun e w' => e = .returned v ∧ w = w'
def YIf (P : Program) (ops : Array Oper) (S : World → Prop) (o : Oper) (v : Value) (a : Act) : Prop :=
  (Region.wanted o (yielded ops a.tmps) = true ∧ OneV P o a S v) ∨ (Region.wanted o (yielded ops a.tmps) = false ∧ v = undef) ∨ False
theorem OneV.yif {o : Oper} {v : Value} {a : Act} (h : OneV P o a S v) (hw : Region.wanted o (yielded ops a.tmps) = true) : YIf P ops S o v a := .inl ⟨hw, h⟩
theorem YIf.wpOp {i : Nat} {o : Oper} {v : Value} {a : Act} (hi : ops[i]? = some o) (hy : YIf P ops S o v a)
    {K : Act → World → Prop} {w : World} (hS : S w) (h : K (a.put o.dst v) w) : wpOp P ops Q i K a w := by
  unfold Go.wpOp
  simp only [hi]
  rcases hy with ⟨hw, hv | ⟨f, args, hv, hc⟩⟩ | ⟨hw, rfl⟩ | hF
  · simp only [hw, if_true, Oper.wp, hv w hS, Oper.upon]; exact .inl h
  · simp only [hw, if_true, Oper.wp, hv w hS, Oper.upon]
    refine .inl ((hc w hS).mono fun e w' ⟨he, hww⟩ => ?_)
    subst he
    subst hww
    exact h
  · simp only [hw, Bool.false_eq_true, if_false]; exact h
  · exact hF.elim
theorem YIf.of_same {o : Oper} {v : Value} {a a' : Act} (hy : YIf P ops S o v a) (he : execOp a'.eval o = execOp a.eval o)
    (hw : Region.wanted o (yielded ops a'.tmps) = Region.wanted o (yielded ops a.tmps)) : YIf P ops S o v a' := by
  unfold YIf OneV at *
  rw [he, hw]
  exact hy
theorem wpOp_putY {j : Nat} {oi oj : Oper} {v : Value} (hj : ops[j]? = some oj) (hap : oi.apart ops oj = true)
    (hsi : ∀ cs b, oi.op ≠ .select cs b) (hsj : ∀ cs b, oj.op ≠ .select cs b)
    (hQ : ∀ c a w, Q (.panic c) (a.put oi.dst v) w → Q (.panic c) a w) {K : Act → World → Prop} {a : Act} {w : World}
    (hy : YIf P ops S oi v a) (h : wpOp P ops Q j K (a.put oi.dst v) w) :
    wpOp P ops Q j (fun a' w' => YIf P ops S oi v a' ∧ K (a'.put oi.dst v) w') a w := by
  obtain ⟨h1, h2, h3⟩ := Oper.apart_spec hap
  have keep : ∀ (a : Act), YIf P ops S oi v a → ∀ u, YIf P ops S oi v (a.put oj.dst u) := fun a hy u =>
    hy.of_same (execOp_put oi hsi a oj.dst u h3) (wanted_put oi a oj.dst u h3)
  have keepD : ∀ d, YIf P ops S oi v { a with defers := d :: a.defers } := fun d => hy.of_same rfl rfl
  unfold wpOp at *
  simp only [hj] at *
  rw [wanted_put oj a oi.dst v h1] at h
  split
  · rename_i hw
    simp only [hw, if_true] at h
    rcases h with h | ⟨hasks, hlets⟩
    case inr => exact .inr ⟨by unfold Oper.asks at *; rw [execOp_put oj hsj a oi.dst v h1] at hasks; exact hasks, hlets⟩
    refine .inl ?_
    unfold Oper.wp at *
    rw [execOp_put oj hsj a oi.dst v h1] at h
    generalize (execOp a.eval oj).run P w = r at *
    cases r with
    | ok n w' =>
      cases n <;> simp only [Oper.upon] at h ⊢
      case value u => exact ⟨keep a hy u, by rw [← Act.put_comm a v u h2]; exact h⟩
      case skip => exact ⟨keep a hy _, by rw [← Act.put_comm a v undef h2]; exact h⟩
      case defer d =>
        refine ⟨keep _ (keepD d) _, ?_⟩
        rw [← Act.put_comm _ v undef h2, ← Act.put_defers]
        exact h
      case enter f args =>
        refine Calls.mono h fun e w'' he => ?_
        cases e with
        | returned u => exact ⟨keep a hy u, by rw [← Act.put_comm a v u h2]; exact he⟩
        | panicked c => exact hQ _ _ _ he
        | outgrown => exact he
      case row row args => exact Rows.mono h fun u w'' he => ⟨keep a hy u, by rw [← Act.put_comm a v u h2]; exact he⟩
    | halt x w' =>
      cases x <;> simp only [Oper.upon] at h ⊢
      case panic u => exact hQ _ _ _ h
  · rename_i hw
    simp only [hw] at h
    exact ⟨keep a hy _, by rw [← Act.put_comm a v undef h2]; exact h⟩

theorem wpAnyN_firstY {i : Nat} {oi : Oper} {v : Value} (hi : ops[i]? = some oi) (hsel : ∀ (j : Nat) (o : Oper) cs b, ops[j]? = some o → o.op ≠ .select cs b)
    (hQ : ∀ c a w, Q (.panic c) (a.put oi.dst v) w → Q (.panic c) a w)
    (hneed : ∀ listed, Closed ops listed → i ∈ Region.ready .any ops listed → ∀ j, j ∈ Region.ready .any ops listed → j ≠ i → need j = true) :
    ∀ (fuel : Nat) (listed : Array Bool) (a : Act) (w : World), Closed ops listed →
      (∀ j oj, ops[j]? = some oj → j ≠ i → listed.getD j true = false → (∀ e ∈ oj.after, Region.binds .any e = true → e.on ≠ i) → oi.apart ops oj = true) →
      i ∈ Region.ready .any ops listed → YIf P ops S oi v a → S w →
      wpAnyN P ops Q S need fuel (listed.setIfInBounds i true) (a.put oi.dst v) w → wpAnyN P ops Q S need (fuel + 1) listed a w := by
  intro fuel
  induction fuel with
  | zero =>
    intro listed a w hcl _ hr hy hS H
    refine ⟨fun h => (by rw [h] at hr; cases hr), fun j hj => ?_⟩
    by_cases hji : j = i
    · subst hji; exact hy.wpOp hi hS ⟨fun _ => hS, H⟩
    · have := ready_mono hj hji
      rw [H.1] at this
      cases this
  | succ fuel ih =>
    intro listed a w hcl hfree hr hy hS H
    refine ⟨fun h => (by rw [h] at hr; cases hr), fun j hj => ?_⟩
    by_cases hji : j = i
    · subst hji; exact hy.wpOp hi hS ⟨fun _ => hS, H⟩
    · have h1 := H.2 j (ready_mono hj hji)
      have hnj := hneed listed hcl hr j hj hji
      obtain ⟨hjun, oj, hoj, hall⟩ := mem_ready.1 hj
      have hnot : ∀ e ∈ oj.after, Region.binds .any e = true → e.on ≠ i := fun e he hb heq => by
        have h1 := hall e he hb
        have h0 := (mem_ready.1 hr).1
        rw [heq] at h1
        rcases Nat.lt_or_ge i listed.size with h' | h'
        · simp [h'] at h0 h1; rw [h0] at h1; cases h1
        · simp [Array.getElem?_eq_none h'] at h1
      have h2 := wpOp_putY hoj (hfree j oj hoj hji hjun hnot) (fun cs b => hsel i oi cs b hi) (fun cs b => hsel j oj cs b hoj) hQ hy h1
      have hfree' : ∀ k ok, ops[k]? = some ok → k ≠ i → (listed.setIfInBounds j true).getD k true = false →
          (∀ e ∈ ok.after, Region.binds .any e = true → e.on ≠ i) → oi.apart ops ok = true := fun k ok hk hki hun hno => by
        refine hfree k ok hk hki ?_ hno
        by_cases hjk : j = k
        · subst hjk; exact hjun
        · rw [getD_set_ne true hjk] at hun; exact hun
      refine wpOp_mono (fun a' w' h3 => ⟨h3.2.1, ih (listed.setIfInBounds j true) a' w' (hcl.step hj) hfree' (ready_mono hr (Ne.symm hji)) h3.1 (h3.2.1 hnj) ?_⟩) h2
      rw [Array.setIfInBounds_comm _ _ hji]
      exact h3.2.2


/-- operations that are taken first, one behind the other -/
def wpTakeY (P : Program) (ops : Array Oper) (S : World → Prop) (K : Act → Prop) : List Oper → Act → Prop
  | [], a => K a
  | o :: rest, a => if Region.wanted o (yielded ops a.tmps) then ∃ v, OneV P o a S v ∧ wpTakeY P ops S K rest (a.put o.dst v) else wpTakeY P ops S K rest (a.put o.dst undef)

theorem takesY_ok (hsel : Region.noSelect ops = true) (hQ : ∀ c (a : Act) d v w, Q (.panic c) (a.put d v) w → Q (.panic c) a w) {w : World} (hS : S w) : ∀ (T : List Nat) (fuel : Nat) (listed l' : Array Bool) (a : Act),
    (∀ i, i ∈ T → ∀ listed, Closed ops listed → i ∈ Region.ready .any ops listed → ∀ j, j ∈ Region.ready .any ops listed → j ≠ i → need j = true) →
    Closed ops listed → simT ops T listed = some l' → wpTakeY P ops S (fun a' => Closed ops l' → wpAnyN P ops Q S need fuel l' a' w) (sel ops T) a → wpAnyN P ops Q S need (T.length + fuel) listed a w := by
  intro T
  induction T with
  | nil =>
    intro fuel listed l' a _ hcl hs h
    simp only [simT, Option.some.injEq] at hs
    subst hs
    rw [List.length_nil, Nat.zero_add]
    exact (by simpa [sel, wpTakeY] using h : Closed ops listed → _) hcl
  | cons i T ih =>
    intro fuel listed l' a hn hcl hs h
    rw [simT] at hs
    split at hs
    case isFalse => cases hs
    rename_i hc
    rw [Bool.and_eq_true] at hc
    have hm : i ∈ Region.ready .any ops listed := by simpa using hc.1
    obtain ⟨_, o, ho, _⟩ := mem_ready.1 hm
    rw [sel_cons ho, wpTakeY] at h
    rw [List.length_cons, Nat.add_right_comm]
    split at h
    · rename_i hw
      obtain ⟨v, hv, hnext⟩ := h
      exact wpAnyN_firstY ho (Region.noSelect_spec hsel) (fun c a w hh => hQ c a _ _ w hh) (hn i (by simp)) _ _ _ _ hcl (Region.free_spec ho hc.2) hm (hv.yif hw) hS
        (ih _ _ _ _ (fun k hk => hn k (by simp [hk])) (hcl.step hm) hs hnext)
    · rename_i hw
      exact wpAnyN_firstY ho (Region.noSelect_spec hsel) (fun c a w hh => hQ c a _ _ w hh) (hn i (by simp)) _ _ _ _ hcl (Region.free_spec ho hc.2) hm (.inr (.inl ⟨by simpa using hw, rfl⟩)) hS
        (ih _ _ _ _ (fun k hk => hn k (by simp [hk])) (hcl.step hm) hs h)

theorem wpTakeY_mono {K K' : Act → Prop} (hK : ∀ a, K a → K' a) : ∀ (l : List Oper) (a : Act), wpTakeY P ops S K l a → wpTakeY P ops S K' l a
  | [], a, h => hK a h
  | o :: r, a, h => by
    rw [wpTakeY] at h ⊢
    split
    · rename_i hw
      simp only [hw, if_true] at h
      obtain ⟨v, hv, hn⟩ := h
      exact ⟨v, hv, wpTakeY_mono hK r _ hn⟩
    · rename_i hw
      simp only [hw] at h
      exact wpTakeY_mono hK r _ h

/-- **a region that draws its order**: the operations T first, each of which yields one value in every world that meets S; then A, behind each of which S holds; then B -/
theorem wp_region_firstY {id : Nat} {a : Act} {w : World} (S : World → Prop) (T A B : List Nat) (lT lA lB : List Oper) (hm : P.follows .mixedOrders = true) (hk : firstOk ops T A B = true)
    (hT : sel ops T = lT) (hA : sel ops A = lA) (hB : sel ops B = lB) (hQ : ∀ c (a : Act) d v w, Q (.panic c) (a.put d v) w → Q (.panic c) a w) (hS : S w.drew)
    (h : wpTakeY P ops S (fun a' => wpThen P ops Q S lA lB a' w.drew) lT a) : (Code.region id ops true).wp P Q a w := by
  subst hT hA hB
  refine wp_region_any hm (wpAny_of_N (S := S) (need := fun j => !B.contains j) _ _ _ _ ?_)
  simp only [firstOk, Bool.and_eq_true, beq_iff_eq] at hk
  obtain ⟨⟨⟨⟨hsel, hsim⟩, hpre⟩, hAB⟩, hlen⟩ := hk
  cases hl : simT ops T (Array.replicate ops.size false) with
  | none => rw [hl] at hsim; cases hsim
  | some l' =>
  rw [hl] at hsim
  rw [show ops.size = T.length + (A.length + B.length) from hlen.symm]
  rw [show Array.replicate (T.length + (A.length + B.length)) false = Array.replicate ops.size false from by rw [hlen]]
  refine takesY_ok hsel hQ (w := w.drew) hS T _ _ l' a (fun i hi listed hcl hr j hj hne => ?_) Closed.start hl (wpTakeY_mono (fun a' h' _ => rest_ok (fun j hj => ?_) A _ _ _ _ (Nat.le_refl _) hsim h') _ _ h)
  · rw [Bool.not_eq_true', List.contains_eq_mem, decide_eq_false_iff_not]
    intro hjB
    have h1 := List.all_eq_true.1 (List.all_eq_true.1 hpre j hjB) i hi
    have h2 := hcl.ready hj h1
    have h3 := (mem_ready.1 hr).1
    rcases Nat.lt_or_ge i listed.size with h' | h'
    · simp [h'] at h2 h3; rw [h3] at h2; cases h2
    · simp [Array.getElem?_eq_none h'] at h2
  · simp [hj]


theorem takeY_step {o : Oper} {rest : List Oper} {a a' : Act} {K : Act → Prop} {v : Value} (hw : Region.wanted o (yielded ops a.tmps) = true) (hv : ∀ w, S w → (execOp a.eval o).run P w = .ok (.value v) w)
    (ha : a.put o.dst v = a') (h : wpTakeY P ops S K rest a') : wpTakeY P ops S K (o :: rest) a := by
  subst ha; rw [wpTakeY, if_pos hw]; exact ⟨v, .inl hv, h⟩
theorem takeY_call {o : Oper} {rest : List Oper} {a a' : Act} {K : Act → Prop} {v : Value} (f : FuncId) (args : Array Value) (hw : Region.wanted o (yielded ops a.tmps) = true)
    (hv : ∀ w, S w → (execOp a.eval o).run P w = .ok (.enter f args) w) (hc : ∀ w, S w → Calls P f args w fun e w' => e = .returned v ∧ w = w')
    (ha : a.put o.dst v = a') (h : wpTakeY P ops S K rest a') : wpTakeY P ops S K (o :: rest) a := by
  subst ha; rw [wpTakeY, if_pos hw]; exact ⟨v, .inr ⟨f, args, hv, hc⟩, h⟩
theorem takeY_skip {o : Oper} {rest : List Oper} {a a' : Act} {K : Act → Prop} (hw : Region.wanted o (yielded ops a.tmps) = false) (ha : a.put o.dst undef = a') (h : wpTakeY P ops S K rest a') : wpTakeY P ops S K (o :: rest) a := by
  subst ha; rw [wpTakeY, if_neg (by rw [hw]; exact Bool.false_ne_true)]; exact h
theorem takeY_nil {a : Act} {K : Act → Prop} (h : K a) : wpTakeY P ops S K [] a := h
end
attribute [irreducible] wpTakeY
end Go.Proofs.Ytefifcmieicnlaa
