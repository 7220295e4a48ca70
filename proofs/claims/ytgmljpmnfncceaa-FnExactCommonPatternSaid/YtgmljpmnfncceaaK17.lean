/-
  Texts that are common to the laws: RowX. No condition.
-/
import Derived.Test.YtgmljpmnfncceaaK1

namespace Go.Proofs.Ytgmljpmnfncceaa
open Go.RowKit
set_option linter.unusedSimpArgs false
set_option linter.unusedVariables false

/-- the cells of a row of terms that can be read in some blocks -/
def RdX (p : Nat → Prop) (w : World) : List Tm → List Value → Prop
  | [], xs => xs = []
  | .mk k n ks :: ts, xs => ∃ A c ys, xs = .int .i64 k :: .int .i64 n :: .slice A ks.length c :: ys ∧ ks.length ≤ 9223372036854775807 ∧ RdP p w A 0 ks ∧ RdX p w ts ys
theorem RdX.keep {p q : Nat → Prop} {w w' : World} (hq : ∀ b, p b → q b) (hk : ∀ b, p b → b < w.heap.size → w'.heap[b]? = w.heap[b]?) : ∀ {ts : List Tm} {xs : List Value}, RdX p w ts xs → RdX q w' ts xs
  | [], xs, h => h
  | .mk k n ks :: ts, xs, h => by
    obtain ⟨A, c, ys, e, hl, hr, hx⟩ := h
    exact ⟨A, c, ys, e, hl, (hr.blocks hk).mono hq, hx.keep hq hk⟩
theorem RdX.append {p : Nat → Prop} {w : World} {us : List Tm} {y : List Value} (hu : RdX p w us y) : ∀ {ts : List Tm} {xs : List Value}, RdX p w ts xs → RdX p w (ts ++ us) (xs ++ y)
  | [], xs, h => by have h : xs = [] := h; subst h; exact hu
  | .mk k n ks :: ts, xs, h => by
    obtain ⟨A, c, ys, rfl, hl, hr, hx⟩ := h
    exact ⟨A, c, ys ++ y, rfl, hl, hr, RdX.append hu hx⟩
theorem RdX.length {p : Nat → Prop} {w : World} : ∀ {ts : List Tm} {xs : List Value}, RdX p w ts xs → xs.length = ts.length * 3
  | [], xs, h => by have h : xs = [] := h; subst h; rfl
  | .mk k n ks :: ts, xs, h => by
    obtain ⟨A, c, ys, rfl, hl, hr, hx⟩ := h
    have := hx.length
    simp only [List.length_cons]
    omega
theorem RdX.rd {p : Nat → Prop} {w : World} {g off : Nat} : ∀ {ts : List Tm} {xs : List Value} {i : Nat}, RdX p w ts xs → (∀ j u, xs[j]? = some u → w.cell? ⟨g, off + i * 3 + j, none⟩ = some u) → Rd w (some ⟨g, off, none⟩) i ts
  | [], xs, i, _, _ => Rd.nil
  | .mk k n ks :: ts, xs, i, h, hc => by
    obtain ⟨A, c, ys, rfl, hl, hr, hx⟩ := h
    refine Rd.cons_iff.2 ⟨⟨g, off, rfl, RdC.iff.2 ⟨hc 0 _ rfl, hc 1 _ rfl, A, c, hc 2 _ rfl, hl, hr.rd⟩⟩, hx.rd fun j u hu => ?_⟩
    have := hc (j + 3) u (by simpa using hu)
    rw [← this]
    congr 2
    omega
theorem RdX.rdp {p : Nat → Prop} {w : World} {g off : Nat} (hg : p g) : ∀ {ts : List Tm} {xs : List Value} {i : Nat}, RdX p w ts xs → (∀ j u, xs[j]? = some u → w.cell? ⟨g, off + i * 3 + j, none⟩ = some u) → RdP p w (some ⟨g, off, none⟩) i ts
  | [], xs, i, _, _ => RdP.nil
  | .mk k n ks :: ts, xs, i, h, hc => by
    obtain ⟨A, c, ys, rfl, hl, hr, hx⟩ := h
    refine RdP.cons_iff.2 ⟨⟨g, off, rfl, RdPC.iff.2 ⟨hg, hc 0 _ rfl, hc 1 _ rfl, A, c, hc 2 _ rfl, hl, hr⟩⟩, hx.rdp hg fun j u hu => ?_⟩
    have := hc (j + 3) u (by simpa using hu)
    rw [← this]
    congr 2
    omega
/-- where the terms of a slice that grows may lie: where p says, or from B on, not in the row itself -/
def PB (lo : Nat → Prop) (B : Nat) (w : World) (v : Value) (b : Nat) : Prop := (lo b ∨ B ≤ b) ∧ b < w.heap.size ∧ v.ownBlock ≠ some b
/-- a slice of terms that grows: its own row lies from B on -/
def PartR (lo : Nat → Prop) (B : Nat) (w : World) (v : Value) (ts : List Tm) : Prop :=
  ∃ xs, w.ownsRow B 28 3 v ts.length xs ∧ RdX (PB lo B w v) w ts xs
section
variable {lo : Nat → Prop} {B : Nat} {w w' : World} {v : Value} {ts : List Tm}
theorem PartR.nil : PartR lo B w (.slice none 0 0) [] := ⟨[], World.ownsRow_nil _ _ _ _, rfl⟩
theorem PartR.below (h : PartR lo B w v ts) (hk : Below w.heap.size w w') : PartR lo B w' v ts := by
  obtain ⟨xs, h1, h2⟩ := h
  refine ⟨xs, ⟨h1.1, ?_⟩, h2.keep (fun b hb => ⟨hb.1, Nat.lt_of_lt_of_le hb.2.1 hk.size, hb.2.2⟩) fun b hb hl => hk.block b hl⟩
  rcases h1.2 with hn | ⟨g, cap, cur, rfl, hb, hg, r⟩
  · exact .inl hn
  · exact .inr ⟨g, cap, cur, rfl, hb, (hk.block g (Array.getElem?_eq_some_iff.1 hg).1).trans hg, r⟩
theorem PartR.alloc (h : PartR lo B w v ts) (o : Obj) : PartR lo B (w.alloc o) v ts := h.below ((Below.refl _ _).alloc (Nat.le_refl _) _)
theorem PartR.drew (h : PartR lo B w v ts) : PartR lo B w.drew v ts := h.below (Below.refl _ _).drew
theorem PartR.setCell (h : PartR lo B w v ts) {a : Addr} (ha : ¬ lo a.block ∧ a.block < B) (u : Value) : PartR lo B (w.setCell a u) v ts := by
  obtain ⟨xs, h1, h2⟩ := h
  refine ⟨xs, ⟨h1.1, ?_⟩, h2.keep (fun b hb => ⟨hb.1, by simpa using hb.2.1, hb.2.2⟩) fun b hb hl => Below.heap_setCell w a u b (fun e => by subst e; exact hb.1.elim ha.1 (fun h => by omega))⟩
  rcases h1.2 with hn | ⟨g, cap, cur, rfl, hb, hg, r⟩
  · exact .inl hn
  · exact .inr ⟨g, cap, cur, rfl, hb, (Below.heap_setCell w a u g (by omega)).trans hg, r⟩
/-- at the end: the slice's shape, and that its terms can be read -/
theorem PartR.rd (h : PartR lo B w v ts) : ∃ A c, v = .slice A ts.length c ∧ RdP (fun b => lo b ∨ B ≤ b) w A 0 ts := by
  obtain ⟨xs, h1, h2⟩ := h
  rcases h1.2 with ⟨rfl, h0⟩ | ⟨g, cap, cur, rfl, hb, hg, _, _, _, htk⟩
  · have : ts = [] := List.eq_nil_of_length_eq_zero h0
    subst this
    exact ⟨none, 0, rfl, RdP.nil⟩
  · refine ⟨_, _, rfl, RdX.rdp (.inr hb) (h2.keep (fun b hb => hb.1) fun _ _ _ => rfl) fun j u hu => ?_⟩
    rw [show 0 + 0 * 3 + j = j by omega, cell_of_row w g j cur 28 (0, 0) hg]
    have h3 := htk
    rw [← h3, List.getElem?_take] at hu
    split at hu
    · simpa using hu
    · cases hu
theorem PartR.shape (h : PartR lo B w v ts) : ∃ A c, v = .slice A ts.length c := by
  obtain ⟨A, c, hv, _⟩ := h.rd; exact ⟨A, c, hv⟩
end
section
variable {lo : Nat → Prop} {B : Nat} {w : World} {v : Value} {ts : List Tm} {k n : Int} {ks : List Tm} {A : Option Addr} {c : Nat} {q : Nat → Prop}
/-- append of one term that can be read -/
theorem run_append_rd (hp : PartR lo B w v ts) (hB : B ≤ w.heap.size) (hr : RdP q w A 0 ks) (hq : ∀ b, q b → PB lo B w v b) (hl : ks.length ≤ 9223372036854775807) (hlen : ts.length ≤ 1099511627776) (ty : TypeId) :
    ∃ v' w', (Builtin.append_ #[26, 26] ty #[v, .slice (some ⟨w.heap.size, 0, none⟩) 1 1]).run Try.prog (w.alloc (.cells #[.int .i64 k, .int .i64 n, .slice A ks.length c] 28)) = .ok v' w' ∧
      PartR lo B w' v' (ts ++ [.mk k n ks]) ∧ Below B w w' ∧ w.grownBy w' v.ownBlock := by
  obtain ⟨i, hi, hz, hz1, hz2⟩ := info_parts tm_info
  obtain ⟨xs, k1, h2⟩ := hp.alloc (.cells #[.int .i64 k, .int .i64 n, .slice A ks.length c] 28)
  have hge : ∀ g, v.ownBlock = some g → B ≤ g := fun g hg => (k1.lt g hg).1
  obtain ⟨v', w', hrun, hown, hg, _, hat⟩ := run_append_own_at (P := Try.prog) (w.alloc (.cells #[.int .i64 k, .int .i64 n, .slice A ks.length c] 28)) B 26 ty 28 i _ 3 40 Try.underlying26 hi hz hz1 hz2 rfl (by simp) v ts.length xs k1 ⟨w.heap.size, 0, none⟩ 1 1 [.int .i64 k, .int .i64 n, .slice A ks.length c] rfl (by
    intro j u hj
    match j, hj with
    | 0, hj => simp only [List.getElem?_cons_zero, Option.some.injEq] at hj; subst hj; simp [Addr.add]
    | 1, hj => simp only [List.getElem?_cons_succ, List.getElem?_cons_zero, Option.some.injEq] at hj; subst hj; simp [Addr.add]
    | 2, hj => simp only [List.getElem?_cons_succ, List.getElem?_cons_zero, Option.some.injEq] at hj; subst hj; simp [Addr.add]) (by
    intro u hu
    simp only [List.mem_cons, List.not_mem_nil, or_false] at hu
    rcases hu with rfl | rfl | rfl <;> rfl) (by simp only [maxLen]; omega) (by omega) (by simp; omega)
  have hsz : w.heap.size + 1 ≤ w'.heap.size := by have := hg.size; simpa using this
  have hne : ∀ b, b < (w.alloc (.cells #[.int .i64 k, .int .i64 n, .slice A ks.length c] 28)).heap.size → v.ownBlock ≠ some b → v'.ownBlock ≠ some b := by
    intro b hb hv e
    rcases hat with e' | e'
    · exact hv (e'.symm.trans e)
    · rw [e'] at e; injection e with e; omega
  have hst : ∀ b, PB lo B (w.alloc (.cells #[.int .i64 k, .int .i64 n, .slice A ks.length c] 28)) v b → PB lo B w' v' b := fun b hb => ⟨hb.1, by have := hb.2.1; have := hg.size; omega, hne b hb.2.1 hb.2.2⟩
  have hkp : ∀ b, PB lo B (w.alloc (.cells #[.int .i64 k, .int .i64 n, .slice A ks.length c] 28)) v b → b < (w.alloc (.cells #[.int .i64 k, .int .i64 n, .slice A ks.length c] 28)).heap.size → w'.heap[b]? = (w.alloc (.cells #[.int .i64 k, .int .i64 n, .slice A ks.length c] 28)).heap[b]? := fun b hb hl => hg.block b hl (fun e => hb.2.2 e.symm)
  have hr' : RdP (PB lo B w' v') w' A 0 ks := (((hr.alloc (.cells #[.int .i64 k, .int .i64 n, .slice A ks.length c] 28)).mono (q := PB lo B (w.alloc (.cells #[.int .i64 k, .int .i64 n, .slice A ks.length c] 28)) v) (fun b hb => ⟨(hq b hb).1, by have := (hq b hb).2.1; simp; omega, (hq b hb).2.2⟩)).blocks hkp).mono hst
  refine ⟨v', w', hrun, ⟨xs ++ [.int .i64 k, .int .i64 n, .slice A ks.length c], by simpa using hown, RdX.append (show RdX (PB lo B w' v') w' [.mk k n ks] _ from ⟨A, c, [], rfl, hl, hr', rfl⟩) (h2.keep hst hkp)⟩, ?_, grownBy_trans (grownBy_alloc_ (World.grownBy.refl _ _) _) hg⟩
  exact ((Below.refl _ _).alloc hB _).trans ⟨hg.os, hg.tape, hg.output, hg.size, fun k hk => hg.block k (by simp; omega) (fun e => by have := hge k e.symm; omega)⟩
/-- in a plain region -/
theorem wpList_append_rd (hp : PartR lo B w v ts) (hB : B ≤ w.heap.size) (hr : RdP q w A 0 ks) (hq : ∀ b, q b → PB lo B w v b) (hl : ks.length ≤ 9223372036854775807) {m : Nat} (hm : ts.length = m) (hlen : m ≤ 1099511627776)
    {ops : Array Oper} {rest : List Oper} {o : Oper} {a : Act} {Q : Exit → Act → World → Prop} (hgd : o.guard = none) (s x : Operand)
    (ho : o.op = .call { callee := .builtin .append, args := #[s, x], argTypes := #[26, 26] }) (hse : a.eval s = v) (hx : a.eval x = .slice (some ⟨w.heap.size, 0, none⟩) 1 1)
    (h : ∀ A' c' w', PartR lo B w' (.slice A' (m + 1) c') (ts ++ [.mk k n ks]) → Below B w w' → w.grownBy w' v.ownBlock → wpList Try.prog ops Q rest (a.put o.dst (.slice A' (m + 1) c')) w') :
    wpList Try.prog ops Q (o :: rest) a (w.alloc (.cells #[.int .i64 k, .int .i64 n, .slice A ks.length c] 28)) := by
  subst hm
  refine wpList_plain hgd fun K hK => ?_
  obtain ⟨v', w', hrun, h2, h3, h4⟩ := run_append_rd (k := k) (n := n) (c := c) hp hB hr hq hl hlen o.type
  unfold Oper.wp execOp
  simp only [ho, resolve, invoke, builtin, Sem.run_bind, Sem.run_pure, Result.andThen_ok, List.map_toArray, List.map_cons, List.map_nil, hse, hx, hrun]
  obtain ⟨A', c', rfl⟩ := h2.shape
  rw [List.length_append] at h2 ⊢
  exact hK _ _ (h A' c' w' h2 h3 h4)
end
end Go.Proofs.Ytgmljpmnfncceaa
