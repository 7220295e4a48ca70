/-
  Contracts of the functions that the law reaches, and plain lemmas. No condition.
-/
import Derived.Test.YthgmofdfecioaaaGreatDoorK1
import Derived.Test.YthgmofdfecioaaaGreatDoorK4
import Derived.Test.YthgmofdfecioaaaGreatDoorK6
import Derived.Test.YthgmofdfecioaaaGreatDoorK14
namespace Go.Proofs.YthgmofdfecioaaaGreatDoor
set_option linter.unusedSimpArgs false
set_option linter.unusedVariables false
open Go.RowKit
section
variable {P : Program} {ops : Array Oper} {Q : Exit → Act → World → Prop} {S : World → Prop} {need : Nat → Bool}
theorem mid_out {K : Act → World → Prop} {a : Act} {w : World} (h : Mid S K Q .normal a w) : S w ∧ K a w := by unfold Mid at h; exact h
theorem mid_else {K : Act → World → Prop} {e : Exit} {a : Act} {w : World} (he : e ≠ .normal) (h : Mid S K Q e a w) : Q e a w := by
  unfold Mid at h
  cases e <;> first | exact absurd rfl he | exact h
/-- so many operations in any order, behind each of them S; then B -/
def wpAnyA (P : Program) (ops : Array Oper) (Q : Exit → Act → World → Prop) (S : World → Prop) (B : List Nat) : Nat → Array Bool → Act → World → Prop
  | 0, l, a, w => simR ops B l = true ∧ wpList P ops Q (sel ops B) a w
  | n + 1, l, a, w => Region.ready .any ops l ≠ [] ∧ ∀ i ∈ Region.ready .any ops l, ∀ o, ops[i]? = some o → wpList P ops (Mid S (wpAnyA P ops Q S B n (l.setIfInBounds i true)) Q) [o] a w
end
attribute [irreducible] wpAnyA
open Go.RowKit
section
variable {P : Program} {ops : Array Oper} {Q : Exit → Act → World → Prop} {S : World → Prop} {B : List Nat}
/-- what is left of the region: f operations and more, in whatever order; S behind each that is not of B -/
def gC (P : Program) (ops : Array Oper) (Q : Exit → Act → World → Prop) (S : World → Prop) (B : List Nat) (f : Nat) (l : Array Bool) (a : Act) (w : World) : Prop :=
  Closed ops l → wpAnyN P ops Q S (fun j => !B.contains j) f l a w
theorem gC_start {id : Nat} {a : Act} {w : World} (S : World → Prop) (B : List Nat) (f : Nat) (hm : P.follows .mixedOrders = true) (hf : ops.size = f) (h : gC P ops Q S B f (Array.replicate f false) a w.drew) : (Code.region id ops true).wp P Q a w := by
  subst hf
  exact wp_region_any hm (wpAny_of_N (S := S) (need := fun j => !B.contains j) _ _ _ _ (h Closed.start))
theorem gC_take {l l' : Array Bool} {a : Act} {w : World} {f F : Nat} (T : List Nat) {lT : List Oper} (hS : S w) (hF : F = T.length + f) (hsel : Region.noSelect ops = true) (hl : simT ops T l = some l') (hpre : (B.all fun j => T.all fun i => pre ops ops.size j i) = true) (hT : sel ops T = lT)
    (hQ : ∀ c (a : Act) d v w, Q (.panic c) (a.put d v) w → Q (.panic c) a w)
    (h : wpTakeY P ops S (fun a' => gC P ops Q S B f l' a' w) lT a) : gC P ops Q S B F l a w := by
  subst hT hF
  intro hcl
  refine takesY_ok hsel hQ hS T _ _ l' a (fun i hi listed hcl hr j hj hne => ?_) hcl hl h
  rw [Bool.not_eq_true', List.contains_eq_mem, decide_eq_false_iff_not]
  intro hjB
  have h1 := List.all_eq_true.1 (List.all_eq_true.1 hpre j hjB) i hi
  have h2 := hcl.ready hj h1
  have h3 := (mem_ready.1 hr).1
  rcases Nat.lt_or_ge i listed.size with h' | h'
  · simp [h'] at h2 h3; rw [h3] at h2; cases h2
  · simp [Array.getElem?_eq_none h'] at h2
theorem wpAnyN_firstT {need : Nat → Bool} {i : Nat} {oi : Oper} {v : Value} (hi : ops[i]? = some oi) (hsel : ∀ (j : Nat) (o : Oper) cs b, ops[j]? = some o → o.op ≠ .select cs b)
    (hQ : ∀ c a w, Q (.panic c) (a.put oi.dst v) w → Q (.panic c) a w) (hni : need i = false) :
    ∀ (fuel : Nat) (listed : Array Bool) (a : Act) (w : World), Closed ops listed →
      (∀ j oj, ops[j]? = some oj → j ≠ i → listed.getD j true = false → (∀ e ∈ oj.after, Region.binds .any e = true → e.on ≠ i) → oi.apart ops oj = true) →
      i ∈ Region.ready .any ops listed → YIf P ops (fun _ => True) oi v a →
      wpAnyN P ops Q S need fuel (listed.setIfInBounds i true) (a.put oi.dst v) w → wpAnyN P ops Q S need (fuel + 1) listed a w := by
  intro fuel
  induction fuel with
  | zero =>
    intro listed a w hcl _ hr hy H
    refine ⟨fun h => (by rw [h] at hr; cases hr), fun j hj => ?_⟩
    by_cases hji : j = i
    · subst hji; exact hy.wpOp hi trivial ⟨fun h => (by rw [hni] at h; cases h), H⟩
    · have := ready_mono hj hji
      rw [H.1] at this
      cases this
  | succ fuel ih =>
    intro listed a w hcl hfree hr hy H
    refine ⟨fun h => (by rw [h] at hr; cases hr), fun j hj => ?_⟩
    by_cases hji : j = i
    · subst hji; exact hy.wpOp hi trivial ⟨fun h => (by rw [hni] at h; cases h), H⟩
    · have h1 := H.2 j (ready_mono hj hji)
      obtain ⟨hjun, oj, hoj, hall⟩ := mem_ready.1 hj
      have hnot : ∀ e ∈ oj.after, Region.binds .any e = true → e.on ≠ i := fun e he hb heq => by
        have h1 := hall e he hb
        have h0 := (mem_ready.1 hr).1
        rw [heq] at h1
        rcases Nat.lt_or_ge i listed.size with h' | h'
        · simp [h'] at h0 h1; rw [h0] at h1; cases h1
        · simp [Array.getElem?_eq_none h'] at h1
      have h2 := wpOp_putY hoj (hfree j oj hoj hji hjun hnot) (fun cs b => hsel i oi cs b hi) (fun cs b => hsel j oj cs b hoj) hQ hy h1
      have hfree' : ∀ k ok, ops[k]? = some ok → k ≠ i → (listed.setIfInBounds j true).getD k true = false →
          (∀ e ∈ ok.after, Region.binds .any e = true → e.on ≠ i) → oi.apart ops ok = true := fun k ok hk hki hun hno => by
        refine hfree k ok hk hki ?_ hno
        by_cases hjk : j = k
        · subst hjk; exact hjun
        · rw [getD_set_ne true hjk] at hun; exact hun
      refine wpOp_mono (fun a' w' h3 => ⟨h3.2.1, ih (listed.setIfInBounds j true) a' w' (hcl.step hj) hfree' (ready_mono hr (Ne.symm hji)) h3.1 ?_⟩) h2
      rw [Array.setIfInBounds_comm _ _ hji]
      exact h3.2.2
theorem takesT_ok {need : Nat → Bool} (hsel : Region.noSelect ops = true) (hQ : ∀ c (a : Act) d v w, Q (.panic c) (a.put d v) w → Q (.panic c) a w) {w : World} : ∀ (T : List Nat) (fuel : Nat) (listed l' : Array Bool) (a : Act),
    (∀ i, i ∈ T → need i = false) →
    Closed ops listed → simT ops T listed = some l' → wpTakeY P ops (fun _ => True) (fun a' => Closed ops l' → wpAnyN P ops Q S need fuel l' a' w) (sel ops T) a → wpAnyN P ops Q S need (T.length + fuel) listed a w := by
  intro T
  induction T with
  | nil =>
    intro fuel listed l' a _ hcl hs h
    simp only [simT, Option.some.injEq] at hs
    subst hs
    rw [List.length_nil, Nat.zero_add]
    rw [sel, List.filterMap_nil, wpTakeY] at h
    exact h hcl
  | cons i T ih =>
    intro fuel listed l' a hn hcl hs h
    rw [simT] at hs
    split at hs
    case isFalse => cases hs
    rename_i hc
    rw [Bool.and_eq_true] at hc
    have hm : i ∈ Region.ready .any ops listed := by simpa using hc.1
    obtain ⟨_, o, ho, _⟩ := mem_ready.1 hm
    rw [sel_cons ho, wpTakeY] at h
    rw [List.length_cons, Nat.add_right_comm]
    split at h
    · rename_i hw
      obtain ⟨v, hv, hnext⟩ := h
      exact wpAnyN_firstT ho (Region.noSelect_spec hsel) (fun c a w hh => hQ c a _ _ w hh) (hn i (by simp)) _ _ _ _ hcl (Region.free_spec ho hc.2) hm (hv.yif hw)
        (ih _ _ _ _ (fun k hk => hn k (by simp [hk])) (hcl.step hm) hs hnext)
    · rename_i hw
      exact wpAnyN_firstT ho (Region.noSelect_spec hsel) (fun c a w hh => hQ c a _ _ w hh) (hn i (by simp)) _ _ _ _ hcl (Region.free_spec ho hc.2) hm (.inr (.inl ⟨by simpa using hw, rfl⟩))
        (ih _ _ _ _ (fun k hk => hn k (by simp [hk])) (hcl.step hm) hs h)
/-- operations of B that read no memory, taken as soon as they come up -/
theorem gC_takeT {l l' : Array Bool} {a : Act} {w : World} {f F : Nat} (T : List Nat) {lT : List Oper} (hF : F = T.length + f) (hsel : Region.noSelect ops = true) (hl : simT ops T l = some l') (hTB : (T.all fun i => B.contains i) = true) (hT : sel ops T = lT)
    (hQ : ∀ c (a : Act) d v w, Q (.panic c) (a.put d v) w → Q (.panic c) a w)
    (h : wpTakeY P ops (fun _ => True) (fun a' => gC P ops Q S B f l' a' w) lT a) : gC P ops Q S B F l a w := by
  subst hT hF
  intro hcl
  exact takesT_ok hsel hQ T _ _ l' a (fun i hi => by have := List.all_eq_true.1 hTB i hi; simpa using this) hcl hl h
theorem gC_any {l : Array Bool} {a : Act} {w : World} {f : Nat} (hne : Region.ready .any ops l ≠ [])
    (h : ∀ i ∈ Region.ready .any ops l, ∀ o, ops[i]? = some o → wpList P ops (Mid S (gC P ops Q S B f (l.setIfInBounds i true)) Q) [o] a w) : gC P ops Q S B (f + 1) l a w := by
  intro hcl
  refine ⟨fun h0 => absurd h0 hne, fun i hi => ?_⟩
  obtain ⟨_, o, ho, _⟩ := mem_ready.1 hi
  exact wpOp_of_list ho (fun a w hh => ⟨fun _ => (mid_out hh).1, (mid_out hh).2 (hcl.step hi)⟩) (fun e a w he hh => mid_else he hh) (h i hi o ho)
theorem gC_one {i : Nat} {l : Array Bool} {a : Act} {w : World} {f : Nat} {o : Oper} (hr : Region.ready .any ops l = [i]) (ho : ops[i]? = some o)
    (h : wpList P ops (Mid S (gC P ops Q S B f (l.setIfInBounds i true)) Q) [o] a w) : gC P ops Q S B (f + 1) l a w := by
  refine gC_any (by rw [hr]; simp) fun i' hi o' ho' => ?_
  rw [hr] at hi
  obtain rfl : i' = i := by simpa using hi
  rw [ho] at ho'
  injection ho' with ho'
  subst ho'
  exact h
theorem gC_two {i j : Nat} {l : Array Bool} {a : Act} {w : World} {f : Nat} {o o2 : Oper} (hr : Region.ready .any ops l = [i, j]) (ho : ops[i]? = some o) (ho2 : ops[j]? = some o2)
    (h : wpList P ops (Mid S (gC P ops Q S B f (l.setIfInBounds i true)) Q) [o] a w) (h2 : wpList P ops (Mid S (gC P ops Q S B f (l.setIfInBounds j true)) Q) [o2] a w) : gC P ops Q S B (f + 1) l a w := by
  refine gC_any (by rw [hr]; simp) fun i' hi o' ho' => ?_
  rw [hr] at hi
  simp only [List.mem_cons, List.not_mem_nil, or_false] at hi
  rcases hi with rfl | rfl
  · rw [ho] at ho'
    injection ho' with ho'
    subst ho'
    exact h
  · rw [ho2] at ho'
    injection ho' with ho'
    subst ho'
    exact h2
theorem gC_end {l : Array Bool} {a : Act} {w : World} {f : Nat} (R : List Nat) {lB : List Oper} (hf : R.length ≤ f) (hRB : (R.all fun j => B.contains j) = true) (hk : simR ops R l = true) (hB : sel ops R = lB) (h : wpList P ops Q lB a w) : gC P ops Q S B f l a w := by
  subst hB
  intro _
  exact rest_ok (S := S) (fun j hj => by have := List.all_eq_true.1 hRB j hj; simpa using this) [] f l a w (by simpa using hf) hk (by rw [sel, List.filterMap_nil, wpThen]; exact h)
end
attribute [irreducible] gC
open Go.RowKit
theorem own_rdp {w : World} {P : Nat → Prop} : (∀ t xs fp, OwT w t xs fp → (∀ b, b ∈ fp → P b) → ∀ g off i, P g → (∀ j u, xs[j]? = some u → w.cell? ⟨g, off + i * 3 + j, none⟩ = some u) → RdPC P w g off i t) ∧
    (∀ ts xs fp, OwX w ts xs fp → (∀ b, b ∈ fp → P b) → ∀ g off i, P g → (∀ j u, xs[j]? = some u → w.cell? ⟨g, off + i * 3 + j, none⟩ = some u) → RdP P w (some ⟨g, off, none⟩) i ts) := by
  refine Tm.ind2 (fun k n ks ih xs fp h hP g off i hg hc => ?_) (fun xs fp h hP g off i hg hc => RdP.nil) (fun t ts h1 h2 xs fp h hP g off i hg hc => ?_)
  · obtain ⟨A, c, rfl, hl, h⟩ := OwT.iff.1 h
    refine RdPC.iff.2 ⟨hg, hc 0 _ rfl, hc 1 _ rfl, A, c, hc 2 _ rfl, hl, ?_⟩
    rcases h with ⟨rfl, rfl⟩ | ⟨g', cur, e, f, hne, rfl, hg', rfl, hx⟩
    · exact RdP.nil
    · refine ih _ _ hx (fun b hb => hP b (by simp [hb])) g' 0 0 (hP g' (by simp)) fun j u hu => ?_
      have e0 : 0 + 0 * 3 + j = j := by omega
      rw [e0, cell_of_row w g' j cur e (0, 0) hg']
      rw [List.getElem?_take] at hu
      split at hu
      · simpa using hu
      · cases hu
  · obtain ⟨x1, x2, f1, f2, rfl, rfl, ht, hx⟩ := OwX.cons_iff.1 h
    have hl := ht.length
    refine RdP.cons_iff.2 ⟨⟨g, off, rfl, h1 _ _ ht (fun b hb => hP b (by simp [hb])) g off i hg fun j u hu => hc j u ?_⟩, h2 _ _ hx (fun b hb => hP b (by simp [hb])) g off (i + 1) hg fun j u hu => ?_⟩
    · rw [List.getElem?_append_left (by have := (List.getElem?_eq_some_iff.1 hu).1; omega)]; exact hu
    · have := hc (3 + j) u (by rw [List.getElem?_append_right (by omega), hl]; simpa using hu)
      rw [show off + (i + 1) * 3 + j = off + i * 3 + (3 + j) from by omega]; exact this
/-- what lies in blocks of its own lies in blocks from B on that are there -/
theorem Fresh.rdp {B : Nat} {w : World} {A : Option Addr} {ks : List Tm} (h : Fresh B w A ks) : RdP (fun b => B ≤ b ∧ b < w.heap.size) w A 0 ks := by
  obtain ⟨fp, h, hn, hge⟩ := h
  have hlt := h.lt
  rcases h with ⟨rfl, rfl⟩ | ⟨g, cur, e, f, hne, rfl, hg, rfl, hx⟩
  · exact RdP.nil
  · refine own_rdp.2 _ _ _ hx (fun b hb => ⟨hge b (by simp [hb]), hlt b (by simp [hb])⟩) g 0 0 ⟨hge g (by simp), hlt g (by simp)⟩ fun j u hu => ?_
    have e0 : 0 + 0 * 3 + j = j := by omega
    rw [e0, cell_of_row w g j cur e (0, 0) hg]
    rw [List.getElem?_take] at hu
    split at hu
    · simpa using hu
    · cases hu
open Go.RowKit
theorem gotP_at {w : World} {o : Option Tm} {e : Ending} {w' : World} (h : GotP w o e w') {k n : Int} {ks : List Tm} (ht : o.getD (.mk 0 0 []) = .mk k n ks) {b : Bool} (hb : o.isSome = b) :
    ∃ A c, e = .returned (.tuple #[.agg #[.int .i64 k, .int .i64 n, .slice A ks.length c], .bool b]) ∧ ks.length ≤ 9223372036854775807 ∧ Fresh w.heap.size w' A ks ∧ Below w.heap.size w w' := by
  obtain ⟨k', n', ks', A, c, hk, rfl, hl, hf, hw⟩ := h
  rw [ht] at hk
  injection hk with h1 h2 h3
  subst h1 h2 h3 hb
  exact ⟨A, c, rfl, hl, hf, hw⟩
theorem thm_size {o : Option Tm} {B : List UInt8} (h : (∃ t, o = some t ∧ Good t B) ∨ (o = none ∧ B = [])) {k n : Int} {ks : List Tm} (ht : o.getD (.mk 0 0 []) = .mk k n ks) : sizes ks ≤ 400 := by
  rcases h with ⟨t, rfl, h⟩ | ⟨rfl, _⟩
  · rw [Option.getD_some] at ht
    subst ht
    exact validT_size' h.2.1
  · injection ht with _ _ h3; subst h3; simp [sizes]
end Go.Proofs.YthgmofdfecioaaaGreatDoor
