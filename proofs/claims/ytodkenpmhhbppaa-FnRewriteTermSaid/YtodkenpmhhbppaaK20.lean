/-
  Contracts of the functions that the law reaches, and plain lemmas. No condition.
-/
import Derived.Test.YtodkenpmhhbppaaK4
import Derived.Test.YtodkenpmhhbppaaK7
import Derived.Test.YtodkenpmhhbppaaK9
import Derived.Test.YtodkenpmhhbppaaK15
import Derived.Test.YtodkenpmhhbppaaK17
namespace Go.Proofs.Ytodkenpmhhbppaa
set_option linter.unusedSimpArgs false
set_option linter.unusedVariables false
open Go.RowKit
/-- a term that can be read, where p says or in new blocks -/
def GotR (p : Nat → Prop) (w : World) (k n : Int) (ks : List Tm) (e : Ending) (w' : World) : Prop :=
  ∃ A c, e = .returned (.agg #[.int .i64 k, .int .i64 n, .slice A ks.length c]) ∧ ks.length ≤ 9223372036854775807 ∧ RdP (fun b => p b ∨ w.heap.size ≤ b) w' A 0 ks ∧ Below w.heap.size w w'
set_option maxHeartbeats 2000000 in
set_option maxRecDepth 100000 in
theorem sWith_any {p : Nat → Prop} (k n : Int) (ks : List Tm) (A : Option Addr) (c : Nat) (i : Nat) (ku nu : Int) (us : List Tm) (U : Option Addr) (cu : Nat) (L : List Tm) (hL : L.length = ks.length) (hi : ∀ (j : Nat) (t : Tm), ks[j]? = some t → L[j]? = some (if j = i then .mk ku nu us else t)) (w : World) (hM : sizes ks ≤ 1000000) (hlu : us.length ≤ 9223372036854775807) (hr : Rd w A 0 ks) (hru : RdP p w U 0 us) (hpw : ∀ b, p b → b < w.heap.size) :
    Calls Try.prog 140 #[.agg #[.int .i64 k, .int .i64 n, .slice A ks.length c], .int .i64 i, .agg #[.int .i64 ku, .int .i64 nu, .slice U us.length cu]] w (GotR p w k n L) := by
  have hlen := length_le_sizes ks
  have hL' := hide hL
  have hi' := hide hi
  clear hi hL
  go_enter Try.func140, Try.ntmps140
  go_wp2_with fail
  go_loopw [8] (fun jv wr => ∃ (j : Nat) (v : Value), j ≤ ks.length ∧ jv = .int .i64 j ∧ PartR p (w.heap.size + 4) wr v (L.take j) ∧ Blk wr (w.heap.size + 1 + 1 + 1) #[.int .i64 k, .int .i64 n, v] ∧ Blk wr (w.heap.size + 1 + 1) #[.int .i64 0, .int .i64 0, .slice none 0 0] ∧ Blk wr (w.heap.size + 1) #[.int .i64 ku, .int .i64 nu, .slice U us.length cu] ∧ Blk wr w.heap.size #[.int .i64 k, .int .i64 n, .slice A ks.length c] ∧ Below w.heap.size w wr)
    (fun jv _ => ks.length - (intOf jv).toNat)
  case atStart => exact ⟨0, _, Nat.zero_le _, rfl, PartR.nil, Blk.new_ _ _ _ (by simp), (Blk.new_ _ _ _ (by simp)).alloc _, ((Blk.new_ _ _ _ (by simp)).alloc _).alloc _, (((Blk.new_ _ _ _ rfl).alloc _).alloc _).alloc _, ((((Below.refl _ _).alloc (by simp) _).alloc (by simp) _).alloc (by simp; omega) _).alloc (by simp; omega) _⟩
  case round =>
    obtain ⟨j, v, hj, rfl, hp, hB3, hB2, hBu, hB1, hb⟩ := hrel
    have c12 := hB1.at_ (i := 2) rfl
    have hz := hB3.lt
    have sr := hb.size
    by_cases hlt : j < ks.length
    · have hlL : j < L.length := by have := hL'.out; omega
      have htk := hide (List.take_succ_eq_append_getElem hlL)
      have hte := hide (show L[j] = if j = i then .mk ku nu us else ks[j] from by have := hi'.out j ks[j] (List.getElem?_eq_getElem hlt); rw [List.getElem?_eq_getElem hlL] at this; injection this)
      have htl : (L.take j).length = j := by rw [List.length_take]; omega
      by_cases hji : j = i
      · have q0 : ((j : Int) == (i : Int)) = true := by rw [hji]; simp
        have hte2 := hide (hte.out.trans (if_pos hji))
        clear hji
        obtain ⟨u0, u1, u2⟩ := hBu.three
        have c32 := hB3.at_ (i := 2) rfl
        have z3 := hB3.frozen 2
        go_wp2_with (at_builtin; refine wpList_append_rd (lo := p) (B := w.heap.size + 4) (m := j) (k := ku) (n := nu) (ks := us) (A := U) (c := cu) (q := p) hp (by omega) (hru.below hb) (fun b hb => ⟨.inl hb, by have := hpw b hb; omega, fun e => by obtain ⟨xs, h1, _⟩ := hp; have := (h1.lt b e).1; have := hpw b hb; omega⟩) hlu htl (by omega) rfl _ _ rfl rfl (by show Value.slice (some ⟨wr.heap.size, 0, none⟩) 1 1 = _; simp) ?_; intro A2 c2 w2 hp2 hb2 hg2; have q3 : Blk w2 (w.heap.size + 1 + 1 + 1) #[.int .i64 k, .int .i64 n, v] := hB3.below hb2 (by omega); have q2 : Blk w2 (w.heap.size + 1 + 1) #[.int .i64 0, .int .i64 0, .slice none 0 0] := hB2.below hb2 (by omega); have qu : Blk w2 (w.heap.size + 1) #[.int .i64 ku, .int .i64 nu, .slice U us.length cu] := hBu.below hb2 (by omega); have q1' : Blk w2 w.heap.size #[.int .i64 k, .int .i64 n, .slice A ks.length c] := hB1.below hb2 (by omega); have c3 : w2.cell? ⟨w.heap.size + 1 + 1 + 1, 2, none⟩ = some v := q3.at_ rfl; clear z3; have z3 := q3.frozen 2; have hbf : Below w.heap.size w w2 := hb.trans (hb2.mono (by omega)))
        go_roundw
        case rel => exact ⟨j + 1, _, by omega, by go_num, by rw [htk.out, hte2.out]; exact hp2.setCell ⟨fun h => by have h1 := hpw _ h; simp at h1; omega, by simp⟩ _, q3.set_ 2 _, q2.far (by simp) _, qu.far (by simp) _, q1'.far (by simp; omega) _, hbf.setCell (by simp; omega) _⟩
        case measure => simp [intOf]; omega
      · have q0 : ((j : Int) == (i : Int)) = false := beq_eq_false_iff_ne.2 (by omega)
        have hte2 := hide (hte.out.trans (if_neg hji))
        clear hji
        obtain ⟨b, off, k', n', ks', A', c', rfl, hkj, hc1, hc2, hc3, hl', hr'⟩ := (hr.below hb).at_ hlt
        have hsz := sizes_le (List.getElem_mem hlt)
        rw [hkj] at hsz
        simp only [Tm.size] at hsz
        have H3 := hide hkj
        clear hkj
        go_wp2_with fail
        have x2 := hB3.rule (i := 2) rfl
        have b2 := hB1.rule (i := 2) rfl
        have y0 := rule_of hc1
        have y1 := rule_of hc2
        have y2 := rule_of hc3
        refine wp_region_firstY (fun w' => Below wr.heap.size wr w') [0, 1, 2, 3, 4, 5, 6] [7, 8] [9, 10, 11] [_, _, _, _, _, _, _] [_, _] [_, _, _] (by kernel_rfl) (by kernel_rfl) rfl rfl rfl (fun _ _ d _ _ h => by cases d <;> exact h) (Below.refl _ _).drew ?_
        repeat (first | ((refine takeY_skip (a' := ?_) ?_ ?_ ?_); (rotate_left); (· (simp [Region.wanted, yielded]; done)); (· (simp only [List.getElem_toArray, List.getElem_cons_zero, List.getElem_cons_succ, Act.put, List.setIfInBounds_toArray, List.set_cons_zero, List.set_cons_succ]; exact rfl))) | ((refine takeY_step (v := ?_) (a' := ?_) ?_ ?_ ?_ ?_); (rotate_left 2); (· (simp [Region.wanted, yielded]; done)); (· (intro w' hS'; go_simp; try (with_reducible rfl))); (· (simp only [List.getElem_toArray, List.getElem_cons_zero, List.getElem_cons_succ, Act.put, List.setIfInBounds_toArray, List.set_cons_zero, List.set_cons_succ]; exact rfl))))
        refine takeY_nil (then_cons ?_)
        go_wp2_with (go_at_call 99; refine (sCopy_any _ k' n' ks' A' c' _ (Nat.lt_succ_self _) (by omega) hr'.drew).mono ?_; rintro e w1 ⟨A1, c1, rfl, hl1, hf1, hb1⟩)
        have hx1 : Below wr.heap.size wr w1 := (Below.refl _ _).drew.trans hb1
        have hpx := hp.below hx1
        refine mid_intro hx1 (then_cons ?_)
        go_wp2_with fail
        refine mid_intro (hx1.alloc hx1.size _) (then_nil ?_)
        have hf1 : Fresh wr.heap.size w1 A1 ks' := hf1
        refine wpList_append_rd (lo := p) (B := w.heap.size + 4) (m := j) (q := fun b => wr.heap.size ≤ b ∧ b < w1.heap.size) hpx (by have := hx1.size; omega) (Fresh.rdp hf1) (fun b hb => ⟨.inr (by omega), hb.2, fun e => by obtain ⟨xs, h1, _⟩ := hp; have := (h1.lt b e).2; omega⟩) hl1 htl (by omega) rfl (.tmp 31) (.tmp 38) rfl rfl rfl ?_
        intro A2 c2 w2 hp2 hb2 hg2
        have q3 : Blk w2 (w.heap.size + 1 + 1 + 1) #[.int .i64 k, .int .i64 n, v] := (hB3.below hx1 (by omega)).below hb2 (by omega)
        have q2 : Blk w2 (w.heap.size + 1 + 1) #[.int .i64 0, .int .i64 0, .slice none 0 0] := (hB2.below hx1 (by omega)).below hb2 (by omega)
        have qu : Blk w2 (w.heap.size + 1) #[.int .i64 ku, .int .i64 nu, .slice U us.length cu] := (hBu.below hx1 (by omega)).below hb2 (by omega)
        have q1' : Blk w2 w.heap.size #[.int .i64 k, .int .i64 n, .slice (some ⟨b, off, none⟩) ks.length c] := (hB1.below hx1 (by omega)).below hb2 (by omega)
        have c3 : w2.cell? ⟨w.heap.size + 1 + 1 + 1, 2, none⟩ = some v := q3.at_ rfl
        have z3 := q3.frozen 2
        have hbf : Below w.heap.size w w2 := (hb.trans (hx1.mono (by omega))).trans (hb2.mono (by omega))
        clear x2 y0 y1 y2 b2
        go_wp2_with fail
        go_roundw
        case rel => exact ⟨j + 1, _, by omega, by go_num, by rw [htk.out, hte2.out, H3.out]; exact hp2.setCell ⟨fun h => by have h1 := hpw _ h; simp at h1; omega, by simp⟩ _, q3.set_ 2 _, q2.far (by simp) _, qu.far (by simp) _, q1'.far (by simp; omega) _, hbf.setCell (by simp; omega) _⟩
        case measure => simp [intOf]; omega
    · have hjl : j = L.length := by have := hL'.out; omega
      have hjk : j = ks.length := by omega
      rw [hjl, List.take_length] at hp
      subst hjk
      obtain ⟨Ar, cr, rfl, hfr⟩ := hp.rd
      obtain ⟨c0, c1, c2⟩ := hB3.three
      obtain ⟨d0, d1, d2⟩ := hB2.three
      have e0 := hB2.frozen 0
      have e1 := hB2.frozen 1
      have e2 := hB2.frozen 2
      clear hjl
      have hzz : ¬ (p (w.heap.size + 1 + 1) ∨ w.heap.size + 4 ≤ w.heap.size + 1 + 1) := fun h => h.elim (fun h => by have := hpw _ h; omega) (fun h => by omega)
      go_wp2_with fail
      refine bodyPost_ret (v := .agg #[.int .i64 k, .int .i64 n, .slice Ar L.length cr]) (by simp [results, Try.results140, go_sem, d0, d1, d2]) rfl ⟨Ar, cr, rfl, by have := hL'.out; omega, ?_, ?_⟩
      · exact (((hfr.setCell hzz _).setCell hzz _).setCell hzz _).mono (fun b hb => hb.imp id (fun h => by omega))
      · exact ((hb.setCell (by simp; omega) _).setCell (by simp; omega) _).setCell (by simp; omega) _
open Go.RowKit
section
variable {P : Program} {ops : Array Oper} {Q : Exit → Act → World → Prop} {S : World → Prop} {need : Nat → Bool}
theorem mid_out {K : Act → World → Prop} {a : Act} {w : World} (h : Mid S K Q .normal a w) : S w ∧ K a w := by unfold Mid at h; exact h
theorem mid_else {K : Act → World → Prop} {e : Exit} {a : Act} {w : World} (he : e ≠ .normal) (h : Mid S K Q e a w) : Q e a w := by
  unfold Mid at h
  cases e <;> first | exact absurd rfl he | exact h
/-- so many operations in any order, behind each of them S; then B -/
def wpAnyA (P : Program) (ops : Array Oper) (Q : Exit → Act → World → Prop) (S : World → Prop) (B : List Nat) : Nat → Array Bool → Act → World → Prop
  | 0, l, a, w => simR ops B l = true ∧ wpList P ops Q (sel ops B) a w
  | n + 1, l, a, w => Region.ready .any ops l ≠ [] ∧ ∀ i ∈ Region.ready .any ops l, ∀ o, ops[i]? = some o → wpList P ops (Mid S (wpAnyA P ops Q S B n (l.setIfInBounds i true)) Q) [o] a w
end
attribute [irreducible] wpAnyA
open Go.RowKit
section
variable {P : Program} {ops : Array Oper} {Q : Exit → Act → World → Prop} {S : World → Prop} {B : List Nat}
/-- what is left of the region: f operations and more, in whatever order; S behind each that is not of B -/
def gC (P : Program) (ops : Array Oper) (Q : Exit → Act → World → Prop) (S : World → Prop) (B : List Nat) (f : Nat) (l : Array Bool) (a : Act) (w : World) : Prop :=
  Closed ops l → wpAnyN P ops Q S (fun j => !B.contains j) f l a w
theorem gC_start {id : Nat} {a : Act} {w : World} (S : World → Prop) (B : List Nat) (f : Nat) (hm : P.follows .mixedOrders = true) (hf : ops.size = f) (h : gC P ops Q S B f (Array.replicate f false) a w.drew) : (Code.region id ops true).wp P Q a w := by
  subst hf
  exact wp_region_any hm (wpAny_of_N (S := S) (need := fun j => !B.contains j) _ _ _ _ (h Closed.start))
theorem gC_take {l l' : Array Bool} {a : Act} {w : World} {f F : Nat} (T : List Nat) {lT : List Oper} (hS : S w) (hF : F = T.length + f) (hsel : Region.noSelect ops = true) (hl : simT ops T l = some l') (hpre : (B.all fun j => T.all fun i => pre ops ops.size j i) = true) (hT : sel ops T = lT)
    (hQ : ∀ c (a : Act) d v w, Q (.panic c) (a.put d v) w → Q (.panic c) a w)
    (h : wpTakeY P ops S (fun a' => gC P ops Q S B f l' a' w) lT a) : gC P ops Q S B F l a w := by
  subst hT hF
  intro hcl
  refine takesY_ok hsel hQ hS T _ _ l' a (fun i hi listed hcl hr j hj hne => ?_) hcl hl h
  rw [Bool.not_eq_true', List.contains_eq_mem, decide_eq_false_iff_not]
  intro hjB
  have h1 := List.all_eq_true.1 (List.all_eq_true.1 hpre j hjB) i hi
  have h2 := hcl.ready hj h1
  have h3 := (mem_ready.1 hr).1
  rcases Nat.lt_or_ge i listed.size with h' | h'
  · simp [h'] at h2 h3; rw [h3] at h2; cases h2
  · simp [Array.getElem?_eq_none h'] at h2
theorem wpAnyN_firstT {need : Nat → Bool} {i : Nat} {oi : Oper} {v : Value} (hi : ops[i]? = some oi) (hsel : ∀ (j : Nat) (o : Oper) cs b, ops[j]? = some o → o.op ≠ .select cs b)
    (hQ : ∀ c a w, Q (.panic c) (a.put oi.dst v) w → Q (.panic c) a w) (hni : need i = false) :
    ∀ (fuel : Nat) (listed : Array Bool) (a : Act) (w : World), Closed ops listed →
      (∀ j oj, ops[j]? = some oj → j ≠ i → listed.getD j true = false → (∀ e ∈ oj.after, Region.binds .any e = true → e.on ≠ i) → oi.apart ops oj = true) →
      i ∈ Region.ready .any ops listed → YIf P ops (fun _ => True) oi v a →
      wpAnyN P ops Q S need fuel (listed.setIfInBounds i true) (a.put oi.dst v) w → wpAnyN P ops Q S need (fuel + 1) listed a w := by
  intro fuel
  induction fuel with
  | zero =>
    intro listed a w hcl _ hr hy H
    refine ⟨fun h => (by rw [h] at hr; cases hr), fun j hj => ?_⟩
    by_cases hji : j = i
    · subst hji; exact hy.wpOp hi trivial ⟨fun h => (by rw [hni] at h; cases h), H⟩
    · have := ready_mono hj hji
      rw [H.1] at this
      cases this
  | succ fuel ih =>
    intro listed a w hcl hfree hr hy H
    refine ⟨fun h => (by rw [h] at hr; cases hr), fun j hj => ?_⟩
    by_cases hji : j = i
    · subst hji; exact hy.wpOp hi trivial ⟨fun h => (by rw [hni] at h; cases h), H⟩
    · have h1 := H.2 j (ready_mono hj hji)
      obtain ⟨hjun, oj, hoj, hall⟩ := mem_ready.1 hj
      have hnot : ∀ e ∈ oj.after, Region.binds .any e = true → e.on ≠ i := fun e he hb heq => by
        have h1 := hall e he hb
        have h0 := (mem_ready.1 hr).1
        rw [heq] at h1
        rcases Nat.lt_or_ge i listed.size with h' | h'
        · simp [h'] at h0 h1; rw [h0] at h1; cases h1
        · simp [Array.getElem?_eq_none h'] at h1
      have h2 := wpOp_putY hoj (hfree j oj hoj hji hjun hnot) (fun cs b => hsel i oi cs b hi) (fun cs b => hsel j oj cs b hoj) hQ hy h1
      have hfree' : ∀ k ok, ops[k]? = some ok → k ≠ i → (listed.setIfInBounds j true).getD k true = false →
          (∀ e ∈ ok.after, Region.binds .any e = true → e.on ≠ i) → oi.apart ops ok = true := fun k ok hk hki hun hno => by
        refine hfree k ok hk hki ?_ hno
        by_cases hjk : j = k
        · subst hjk; exact hjun
        · rw [_root_.Go.getD_set_ne true hjk] at hun; exact hun
      refine wpOp_mono (fun a' w' h3 => ⟨h3.2.1, ih (listed.setIfInBounds j true) a' w' (hcl.step hj) hfree' (ready_mono hr (Ne.symm hji)) h3.1 ?_⟩) h2
      rw [Array.setIfInBounds_comm _ _ hji]
      exact h3.2.2
theorem takesT_ok {need : Nat → Bool} (hsel : Region.noSelect ops = true) (hQ : ∀ c (a : Act) d v w, Q (.panic c) (a.put d v) w → Q (.panic c) a w) {w : World} : ∀ (T : List Nat) (fuel : Nat) (listed l' : Array Bool) (a : Act),
    (∀ i, i ∈ T → need i = false) →
    Closed ops listed → simT ops T listed = some l' → wpTakeY P ops (fun _ => True) (fun a' => Closed ops l' → wpAnyN P ops Q S need fuel l' a' w) (sel ops T) a → wpAnyN P ops Q S need (T.length + fuel) listed a w := by
  intro T
  induction T with
  | nil =>
    intro fuel listed l' a _ hcl hs h
    simp only [simT, Option.some.injEq] at hs
    subst hs
    rw [List.length_nil, Nat.zero_add]
    rw [sel, List.filterMap_nil, wpTakeY] at h
    exact h hcl
  | cons i T ih =>
    intro fuel listed l' a hn hcl hs h
    rw [simT] at hs
    split at hs
    case isFalse => cases hs
    rename_i hc
    rw [Bool.and_eq_true] at hc
    have hm : i ∈ Region.ready .any ops listed := by simpa using hc.1
    obtain ⟨_, o, ho, _⟩ := mem_ready.1 hm
    rw [sel_cons ho, wpTakeY] at h
    rw [List.length_cons, Nat.add_right_comm]
    split at h
    · rename_i hw
      obtain ⟨v, hv, hnext⟩ := h
      exact wpAnyN_firstT ho (Region.noSelect_spec hsel) (fun c a w hh => hQ c a _ _ w hh) (hn i (by simp)) _ _ _ _ hcl (Region.free_spec ho hc.2) hm (hv.yif hw)
        (ih _ _ _ _ (fun k hk => hn k (by simp [hk])) (hcl.step hm) hs hnext)
    · rename_i hw
      exact wpAnyN_firstT ho (Region.noSelect_spec hsel) (fun c a w hh => hQ c a _ _ w hh) (hn i (by simp)) _ _ _ _ hcl (Region.free_spec ho hc.2) hm (.inr (.inl ⟨by simpa using hw, rfl⟩))
        (ih _ _ _ _ (fun k hk => hn k (by simp [hk])) (hcl.step hm) hs h)
/-- operations of B that read no memory, taken as soon as they come up -/
theorem gC_takeT {l l' : Array Bool} {a : Act} {w : World} {f F : Nat} (T : List Nat) {lT : List Oper} (hF : F = T.length + f) (hsel : Region.noSelect ops = true) (hl : simT ops T l = some l') (hTB : (T.all fun i => B.contains i) = true) (hT : sel ops T = lT)
    (hQ : ∀ c (a : Act) d v w, Q (.panic c) (a.put d v) w → Q (.panic c) a w)
    (h : wpTakeY P ops (fun _ => True) (fun a' => gC P ops Q S B f l' a' w) lT a) : gC P ops Q S B F l a w := by
  subst hT hF
  intro hcl
  exact takesT_ok hsel hQ T _ _ l' a (fun i hi => by have := List.all_eq_true.1 hTB i hi; simpa using this) hcl hl h
theorem gC_any {l : Array Bool} {a : Act} {w : World} {f : Nat} (hne : Region.ready .any ops l ≠ [])
    (h : ∀ i ∈ Region.ready .any ops l, ∀ o, ops[i]? = some o → wpList P ops (Mid S (gC P ops Q S B f (l.setIfInBounds i true)) Q) [o] a w) : gC P ops Q S B (f + 1) l a w := by
  intro hcl
  refine ⟨fun h0 => absurd h0 hne, fun i hi => ?_⟩
  obtain ⟨_, o, ho, _⟩ := mem_ready.1 hi
  exact wpOp_of_list ho (fun a w hh => ⟨fun _ => (mid_out hh).1, (mid_out hh).2 (hcl.step hi)⟩) (fun e a w he hh => mid_else he hh) (h i hi o ho)
theorem gC_one {i : Nat} {l : Array Bool} {a : Act} {w : World} {f : Nat} {o : Oper} (hr : Region.ready .any ops l = [i]) (ho : ops[i]? = some o)
    (h : wpList P ops (Mid S (gC P ops Q S B f (l.setIfInBounds i true)) Q) [o] a w) : gC P ops Q S B (f + 1) l a w := by
  refine gC_any (by rw [hr]; simp) fun i' hi o' ho' => ?_
  rw [hr] at hi
  obtain rfl : i' = i := by simpa using hi
  rw [ho] at ho'
  injection ho' with ho'
  subst ho'
  exact h
theorem gC_two {i j : Nat} {l : Array Bool} {a : Act} {w : World} {f : Nat} {o o2 : Oper} (hr : Region.ready .any ops l = [i, j]) (ho : ops[i]? = some o) (ho2 : ops[j]? = some o2)
    (h : wpList P ops (Mid S (gC P ops Q S B f (l.setIfInBounds i true)) Q) [o] a w) (h2 : wpList P ops (Mid S (gC P ops Q S B f (l.setIfInBounds j true)) Q) [o2] a w) : gC P ops Q S B (f + 1) l a w := by
  refine gC_any (by rw [hr]; simp) fun i' hi o' ho' => ?_
  rw [hr] at hi
  simp only [List.mem_cons, List.not_mem_nil, or_false] at hi
  rcases hi with rfl | rfl
  · rw [ho] at ho'
    injection ho' with ho'
    subst ho'
    exact h
  · rw [ho2] at ho'
    injection ho' with ho'
    subst ho'
    exact h2
theorem gC_end {l : Array Bool} {a : Act} {w : World} {f : Nat} (R : List Nat) {lB : List Oper} (hf : R.length ≤ f) (hRB : (R.all fun j => B.contains j) = true) (hk : simR ops R l = true) (hB : sel ops R = lB) (h : wpList P ops Q lB a w) : gC P ops Q S B f l a w := by
  subst hB
  intro _
  exact rest_ok (S := S) (fun j hj => by have := List.all_eq_true.1 hRB j hj; simpa using this) [] f l a w (by simpa using hf) hk (by rw [sel, List.filterMap_nil, wpThen]; exact h)
end
attribute [irreducible] gC
end Go.Proofs.Ytodkenpmhhbppaa
