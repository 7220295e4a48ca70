/-
  Contracts of the functions that the law reaches, and plain lemmas. No condition.
-/
import Derived.Test.YtodkpgkefjegnaaGreatDoorK1
import Derived.OrdersHeld
import Derived.Deep.Quiet
import Derived.Tactics
import Derived.Tactics2
namespace Go.Proofs.YtodkpgkefjegnaaGreatDoor
set_option linter.unusedSimpArgs false
set_option linter.unusedVariables false
open Go.RowKit
/-- what append of one term does, at a world in which the term's three cells lie at an address -/
theorem run_append_tmG {B : Nat} {w0 w : World} {v : Value} {ts : List Tm} {t : Tm} {x1 : List Value} {f1 : List Nat} (hp : Part B w0 v ts) (hb : ∀ b, B ≤ b → b < w0.heap.size → w.heap[b]? = w0.heap[b]?) (hsz : w0.heap.size ≤ w.heap.size) (hB : B ≤ w0.heap.size)
    (ht : OwT w t x1 f1) (hn : f1.Nodup) (hf : ∀ b, b ∈ f1 → w0.heap.size ≤ b) (hlen : ts.length ≤ 1099511627776) (ad : Addr) (c : Nat) (hc : ∀ j u, x1[j]? = some u → w.cell? (ad.add j) = some u) (ty : TypeId) :
    ∃ v' w', (Builtin.append_ #[23, 23] ty #[v, .slice (some ad) 1 c]).run Tryz.prog w = .ok v' w' ∧ Part B w' v' (ts ++ [t]) ∧ Below B w w' ∧ w.grownBy w' v.ownBlock := by
  obtain ⟨i, hi, hz, hz1, hz2⟩ := info_parts tm_info
  obtain ⟨xs, f, h1, h2, h3, h4, h5⟩ := hp
  have hlt : ∀ g, v.ownBlock = some g → g < w0.heap.size := fun g hg => (h1.lt g hg).2
  have hge : ∀ g, v.ownBlock = some g → B ≤ g := fun g hg => (h1.lt g hg).1
  have hfl := h2.lt
  have k1 : w.ownsRow B 25 3 v ts.length xs := by
    refine ⟨h1.1, ?_⟩
    rcases h1.2 with hn | ⟨g, cap, cur, rfl, hb', hg, r⟩
    · exact .inl hn
    · exact .inr ⟨g, cap, cur, rfl, hb', (hb g hb' (hlt g rfl)).trans hg, r⟩
  have k2 : OwX w ts xs f := h2.frame fun b hbf => hb b (h4 b hbf) (hfl b hbf)
  obtain ⟨v', w', hrun, hown, hg, _, hat⟩ := run_append_own_at (P := Tryz.prog) w B 23 ty 25 i _ 3 40 Tryz.underlying23 hi hz hz1 hz2 rfl (by omega) v ts.length xs k1 ad 1 c x1 ht.length hc ht.oneCell
    (by simp only [maxLen]; omega) (by omega) (by omega)
  have e1 : ∀ b, b ∈ f → w'.heap[b]? = w.heap[b]? := fun b hbf => hg.block b (by have := hfl b hbf; omega) (fun e => h5 b e.symm hbf)
  have e2 : ∀ b, b ∈ f1 → w'.heap[b]? = w.heap[b]? := fun b hbf => hg.block b (ht.lt b hbf) (fun e => by have := hlt b e.symm; have := hf b hbf; omega)
  refine ⟨v', w', hrun, ⟨xs ++ x1, f ++ f1, by simpa using hown, (k2.frame e1).append (OwX.one (ht.frame e2)), ?_, ?_, ?_⟩, ⟨hg.os, hg.tape, hg.output, hg.size, fun k hk => hg.block k (by omega) (fun e => by have := hge k e.symm; omega)⟩, hg⟩
  · refine List.nodup_append.2 ⟨h3, hn, fun x hx y hy e => ?_⟩
    have := hfl x hx; have := hf y hy; omega
  · intro b hbm
    rcases List.mem_append.1 hbm with hbm | hbm
    · exact h4 b hbm
    · have := hf b hbm; omega
  · intro g hgo hgm
    rcases hat with e | e <;> rw [e] at hgo
    · rcases List.mem_append.1 hgm with hgm | hgm
      · exact h5 g hgo hgm
      · have := hlt g hgo; have := hf g hgm; omega
    · injection hgo with hgo
      subst hgo
      rcases List.mem_append.1 hgm with hgm | hgm
      · have := hfl _ hgm; omega
      · have := ht.lt _ hgm; omega
section
variable {B : Nat} {w0 w1 : World} {v : Value} {ts : List Tm} {k n : Int} {ks : List Tm} {A : Option Addr} {c : Nat}
/-- the same behind the one-element slice that the translation lays for the term -/
theorem run_append_builtG (hp : Part B w0 v ts) (hb : ∀ b, B ≤ b → b < w0.heap.size → w1.heap[b]? = w0.heap[b]?) (hs : w0.heap.size ≤ w1.heap.size) (hB : B ≤ w0.heap.size) (hfr : Fresh w0.heap.size w1 A ks) (hl : ks.length ≤ 9223372036854775807) (hlen : ts.length ≤ 1099511627776) (ty : TypeId) :
    ∃ v' w', (Builtin.append_ #[23, 23] ty #[v, .slice (some ⟨w1.heap.size, 0, none⟩) 1 1]).run Tryz.prog (w1.alloc (.cells #[.int .i64 k, .int .i64 n, .slice A ks.length c] 25)) = .ok v' w' ∧
      Part B w' v' (ts ++ [.mk k n ks]) ∧ Below B w1 w' ∧ w1.grownBy w' v.ownBlock := by
  obtain ⟨fp, h1, h2, h3⟩ := (hfr.alloc (.cells #[.int .i64 k, .int .i64 n, .slice A ks.length c] 25))
  obtain ⟨v', w', r1, r2, r3, r4⟩ := run_append_tmG (t := .mk k n ks) (x1 := [.int .i64 k, .int .i64 n, .slice A ks.length c]) (f1 := fp) (c := 1) (ty := ty) hp (fun b h1 h2 => (Below.heap_alloc w1 _ b (by omega)).trans (hb b h1 h2)) (by simp; omega) hB (OwT.iff.2 ⟨A, c, rfl, hl, h1⟩) h2 h3 hlen ⟨w1.heap.size, 0, none⟩ (by
    intro j u hj
    match j, hj with
    | 0, hj => simp only [List.getElem?_cons_zero, Option.some.injEq] at hj; subst hj; simp [Addr.add]
    | 1, hj => simp only [List.getElem?_cons_succ, List.getElem?_cons_zero, Option.some.injEq] at hj; subst hj; simp [Addr.add]
    | 2, hj => simp only [List.getElem?_cons_succ, List.getElem?_cons_zero, Option.some.injEq] at hj; subst hj; simp [Addr.add])
  exact ⟨v', w', r1, r2, ((Below.refl _ _).alloc (by omega) _).trans r3, grownBy_trans (grownBy_alloc_ (World.grownBy.refl _ _) _) r4⟩
/-- in a plain region -/
theorem wpList_append_builtG (hp : Part B w0 v ts) (hb : ∀ b, B ≤ b → b < w0.heap.size → w1.heap[b]? = w0.heap[b]?) (hs : w0.heap.size ≤ w1.heap.size) (hB : B ≤ w0.heap.size) (hfr : Fresh w0.heap.size w1 A ks) (hl : ks.length ≤ 9223372036854775807) {m : Nat} (hm : ts.length = m) (hlen : m ≤ 1099511627776)
    {ops : Array Oper} {rest : List Oper} {o : Oper} {a : Act} {Q : Exit → Act → World → Prop} (hgd : o.guard = none) (s x : Operand)
    (ho : o.op = .call { callee := .builtin .append, args := #[s, x], argTypes := #[23, 23] }) (hse : a.eval s = v) (hx : a.eval x = .slice (some ⟨w1.heap.size, 0, none⟩) 1 1)
    (h : ∀ A' c' w', Part B w' (.slice A' (m + 1) c') (ts ++ [.mk k n ks]) → Below B w1 w' → w1.grownBy w' v.ownBlock → wpList Tryz.prog ops Q rest (a.put o.dst (.slice A' (m + 1) c')) w') :
    wpList Tryz.prog ops Q (o :: rest) a (w1.alloc (.cells #[.int .i64 k, .int .i64 n, .slice A ks.length c] 25)) := by
  subst hm
  refine wpList_plain hgd fun K hK => ?_
  obtain ⟨v', w', hrun, h2, h3, h4⟩ := run_append_builtG (k := k) (n := n) (c := c) hp hb hs hB hfr hl hlen o.type
  unfold Oper.wp execOp
  simp only [ho, resolve, invoke, builtin, Sem.run_bind, Sem.run_pure, Result.andThen_ok, List.map_toArray, List.map_cons, List.map_nil, hse, hx, hrun]
  obtain ⟨A', c', rfl⟩ := h2.shape
  rw [List.length_append] at h2 ⊢
  exact hK _ _ (h A' c' w' h2 h3 h4)
end
open Go.RowKit
/-- the cells of a row of terms that can be read in some blocks -/
def RdX (p : Nat → Prop) (w : World) : List Tm → List Value → Prop
  | [], xs => xs = []
  | .mk k n ks :: ts, xs => ∃ A c ys, xs = .int .i64 k :: .int .i64 n :: .slice A ks.length c :: ys ∧ ks.length ≤ 9223372036854775807 ∧ RdP p w A 0 ks ∧ RdX p w ts ys
theorem RdX.keep {p q : Nat → Prop} {w w' : World} (hq : ∀ b, p b → q b) (hk : ∀ b, p b → b < w.heap.size → w'.heap[b]? = w.heap[b]?) : ∀ {ts : List Tm} {xs : List Value}, RdX p w ts xs → RdX q w' ts xs
  | [], xs, h => h
  | .mk k n ks :: ts, xs, h => by
    obtain ⟨A, c, ys, e, hl, hr, hx⟩ := h
    exact ⟨A, c, ys, e, hl, (hr.blocks hk).mono hq, hx.keep hq hk⟩
theorem RdX.append {p : Nat → Prop} {w : World} {us : List Tm} {y : List Value} (hu : RdX p w us y) : ∀ {ts : List Tm} {xs : List Value}, RdX p w ts xs → RdX p w (ts ++ us) (xs ++ y)
  | [], xs, h => by have h : xs = [] := h; subst h; exact hu
  | .mk k n ks :: ts, xs, h => by
    obtain ⟨A, c, ys, rfl, hl, hr, hx⟩ := h
    exact ⟨A, c, ys ++ y, rfl, hl, hr, RdX.append hu hx⟩
theorem RdX.length {p : Nat → Prop} {w : World} : ∀ {ts : List Tm} {xs : List Value}, RdX p w ts xs → xs.length = ts.length * 3
  | [], xs, h => by have h : xs = [] := h; subst h; rfl
  | .mk k n ks :: ts, xs, h => by
    obtain ⟨A, c, ys, rfl, hl, hr, hx⟩ := h
    have := hx.length
    simp only [List.length_cons]
    omega
theorem RdX.rd {p : Nat → Prop} {w : World} {g off : Nat} : ∀ {ts : List Tm} {xs : List Value} {i : Nat}, RdX p w ts xs → (∀ j u, xs[j]? = some u → w.cell? ⟨g, off + i * 3 + j, none⟩ = some u) → Rd w (some ⟨g, off, none⟩) i ts
  | [], xs, i, _, _ => Rd.nil
  | .mk k n ks :: ts, xs, i, h, hc => by
    obtain ⟨A, c, ys, rfl, hl, hr, hx⟩ := h
    refine Rd.cons_iff.2 ⟨⟨g, off, rfl, RdC.iff.2 ⟨hc 0 _ rfl, hc 1 _ rfl, A, c, hc 2 _ rfl, hl, hr.rd⟩⟩, hx.rd fun j u hu => ?_⟩
    have := hc (j + 3) u (by simpa using hu)
    rw [← this]
    congr 2
    omega
theorem RdX.rdp {p : Nat → Prop} {w : World} {g off : Nat} (hg : p g) : ∀ {ts : List Tm} {xs : List Value} {i : Nat}, RdX p w ts xs → (∀ j u, xs[j]? = some u → w.cell? ⟨g, off + i * 3 + j, none⟩ = some u) → RdP p w (some ⟨g, off, none⟩) i ts
  | [], xs, i, _, _ => RdP.nil
  | .mk k n ks :: ts, xs, i, h, hc => by
    obtain ⟨A, c, ys, rfl, hl, hr, hx⟩ := h
    refine RdP.cons_iff.2 ⟨⟨g, off, rfl, RdPC.iff.2 ⟨hg, hc 0 _ rfl, hc 1 _ rfl, A, c, hc 2 _ rfl, hl, hr⟩⟩, hx.rdp hg fun j u hu => ?_⟩
    have := hc (j + 3) u (by simpa using hu)
    rw [← this]
    congr 2
    omega
/-- where the terms of a slice that grows may lie: where p says, or from B on, not in the row itself -/
def PB (lo : Nat → Prop) (B : Nat) (w : World) (v : Value) (b : Nat) : Prop := (lo b ∨ B ≤ b) ∧ b < w.heap.size ∧ v.ownBlock ≠ some b
/-- a slice of terms that grows: its own row lies from B on -/
def PartR (lo : Nat → Prop) (B : Nat) (w : World) (v : Value) (ts : List Tm) : Prop :=
  ∃ xs, w.ownsRow B 25 3 v ts.length xs ∧ RdX (PB lo B w v) w ts xs
section
variable {lo : Nat → Prop} {B : Nat} {w w' : World} {v : Value} {ts : List Tm}
theorem PartR.nil : PartR lo B w (.slice none 0 0) [] := ⟨[], World.ownsRow_nil _ _ _ _, rfl⟩
theorem PartR.below (h : PartR lo B w v ts) (hk : Below w.heap.size w w') : PartR lo B w' v ts := by
  obtain ⟨xs, h1, h2⟩ := h
  refine ⟨xs, ⟨h1.1, ?_⟩, h2.keep (fun b hb => ⟨hb.1, Nat.lt_of_lt_of_le hb.2.1 hk.size, hb.2.2⟩) fun b hb hl => hk.block b hl⟩
  rcases h1.2 with hn | ⟨g, cap, cur, rfl, hb, hg, r⟩
  · exact .inl hn
  · exact .inr ⟨g, cap, cur, rfl, hb, (hk.block g (Array.getElem?_eq_some_iff.1 hg).1).trans hg, r⟩
theorem PartR.alloc (h : PartR lo B w v ts) (o : Obj) : PartR lo B (w.alloc o) v ts := h.below ((Below.refl _ _).alloc (Nat.le_refl _) _)
theorem PartR.drew (h : PartR lo B w v ts) : PartR lo B w.drew v ts := h.below (Below.refl _ _).drew
theorem PartR.setCell (h : PartR lo B w v ts) {a : Addr} (ha : ¬ lo a.block ∧ a.block < B) (u : Value) : PartR lo B (w.setCell a u) v ts := by
  obtain ⟨xs, h1, h2⟩ := h
  refine ⟨xs, ⟨h1.1, ?_⟩, h2.keep (fun b hb => ⟨hb.1, by simpa using hb.2.1, hb.2.2⟩) fun b hb hl => Below.heap_setCell w a u b (fun e => by subst e; exact hb.1.elim ha.1 (fun h => by omega))⟩
  rcases h1.2 with hn | ⟨g, cap, cur, rfl, hb, hg, r⟩
  · exact .inl hn
  · exact .inr ⟨g, cap, cur, rfl, hb, (Below.heap_setCell w a u g (by omega)).trans hg, r⟩
/-- at the end: the slice's shape, and that its terms can be read -/
theorem PartR.rd (h : PartR lo B w v ts) : ∃ A c, v = .slice A ts.length c ∧ RdP (fun b => lo b ∨ B ≤ b) w A 0 ts := by
  obtain ⟨xs, h1, h2⟩ := h
  rcases h1.2 with ⟨rfl, h0⟩ | ⟨g, cap, cur, rfl, hb, hg, _, _, _, htk⟩
  · have : ts = [] := List.eq_nil_of_length_eq_zero h0
    subst this
    exact ⟨none, 0, rfl, RdP.nil⟩
  · refine ⟨_, _, rfl, RdX.rdp (.inr hb) (h2.keep (fun b hb => hb.1) fun _ _ _ => rfl) fun j u hu => ?_⟩
    rw [show 0 + 0 * 3 + j = j by omega, cell_of_row w g j cur 25 (0, 0) hg]
    have h3 := htk
    rw [← h3, List.getElem?_take] at hu
    split at hu
    · simpa using hu
    · cases hu
theorem PartR.shape (h : PartR lo B w v ts) : ∃ A c, v = .slice A ts.length c := by
  obtain ⟨A, c, hv, _⟩ := h.rd; exact ⟨A, c, hv⟩
end
section
variable {lo : Nat → Prop} {B : Nat} {w : World} {v : Value} {ts : List Tm} {k n : Int} {ks : List Tm} {A : Option Addr} {c : Nat} {q : Nat → Prop}
/-- append of one term that can be read -/
theorem run_append_rd (hp : PartR lo B w v ts) (hB : B ≤ w.heap.size) (hr : RdP q w A 0 ks) (hq : ∀ b, q b → PB lo B w v b) (hl : ks.length ≤ 9223372036854775807) (hlen : ts.length ≤ 1099511627776) (ty : TypeId) :
    ∃ v' w', (Builtin.append_ #[23, 23] ty #[v, .slice (some ⟨w.heap.size, 0, none⟩) 1 1]).run Tryz.prog (w.alloc (.cells #[.int .i64 k, .int .i64 n, .slice A ks.length c] 25)) = .ok v' w' ∧
      PartR lo B w' v' (ts ++ [.mk k n ks]) ∧ Below B w w' ∧ w.grownBy w' v.ownBlock := by
  obtain ⟨i, hi, hz, hz1, hz2⟩ := info_parts tm_info
  obtain ⟨xs, k1, h2⟩ := hp.alloc (.cells #[.int .i64 k, .int .i64 n, .slice A ks.length c] 25)
  have hge : ∀ g, v.ownBlock = some g → B ≤ g := fun g hg => (k1.lt g hg).1
  obtain ⟨v', w', hrun, hown, hg, _, hat⟩ := run_append_own_at (P := Tryz.prog) (w.alloc (.cells #[.int .i64 k, .int .i64 n, .slice A ks.length c] 25)) B 23 ty 25 i _ 3 40 Tryz.underlying23 hi hz hz1 hz2 rfl (by simp) v ts.length xs k1 ⟨w.heap.size, 0, none⟩ 1 1 [.int .i64 k, .int .i64 n, .slice A ks.length c] rfl (by
    intro j u hj
    match j, hj with
    | 0, hj => simp only [List.getElem?_cons_zero, Option.some.injEq] at hj; subst hj; simp [Addr.add]
    | 1, hj => simp only [List.getElem?_cons_succ, List.getElem?_cons_zero, Option.some.injEq] at hj; subst hj; simp [Addr.add]
    | 2, hj => simp only [List.getElem?_cons_succ, List.getElem?_cons_zero, Option.some.injEq] at hj; subst hj; simp [Addr.add]) (by
    intro u hu
    simp only [List.mem_cons, List.not_mem_nil, or_false] at hu
    rcases hu with rfl | rfl | rfl <;> rfl) (by simp only [maxLen]; omega) (by omega) (by simp; omega)
  have hsz : w.heap.size + 1 ≤ w'.heap.size := by have := hg.size; simpa using this
  have hne : ∀ b, b < (w.alloc (.cells #[.int .i64 k, .int .i64 n, .slice A ks.length c] 25)).heap.size → v.ownBlock ≠ some b → v'.ownBlock ≠ some b := by
    intro b hb hv e
    rcases hat with e' | e'
    · exact hv (e'.symm.trans e)
    · rw [e'] at e; injection e with e; omega
  have hst : ∀ b, PB lo B (w.alloc (.cells #[.int .i64 k, .int .i64 n, .slice A ks.length c] 25)) v b → PB lo B w' v' b := fun b hb => ⟨hb.1, by have := hb.2.1; have := hg.size; omega, hne b hb.2.1 hb.2.2⟩
  have hkp : ∀ b, PB lo B (w.alloc (.cells #[.int .i64 k, .int .i64 n, .slice A ks.length c] 25)) v b → b < (w.alloc (.cells #[.int .i64 k, .int .i64 n, .slice A ks.length c] 25)).heap.size → w'.heap[b]? = (w.alloc (.cells #[.int .i64 k, .int .i64 n, .slice A ks.length c] 25)).heap[b]? := fun b hb hl => hg.block b hl (fun e => hb.2.2 e.symm)
  have hr' : RdP (PB lo B w' v') w' A 0 ks := (((hr.alloc (.cells #[.int .i64 k, .int .i64 n, .slice A ks.length c] 25)).mono (q := PB lo B (w.alloc (.cells #[.int .i64 k, .int .i64 n, .slice A ks.length c] 25)) v) (fun b hb => ⟨(hq b hb).1, by have := (hq b hb).2.1; simp; omega, (hq b hb).2.2⟩)).blocks hkp).mono hst
  refine ⟨v', w', hrun, ⟨xs ++ [.int .i64 k, .int .i64 n, .slice A ks.length c], by simpa using hown, RdX.append (show RdX (PB lo B w' v') w' [.mk k n ks] _ from ⟨A, c, [], rfl, hl, hr', rfl⟩) (h2.keep hst hkp)⟩, ?_, grownBy_trans (grownBy_alloc_ (World.grownBy.refl _ _) _) hg⟩
  exact ((Below.refl _ _).alloc hB _).trans ⟨hg.os, hg.tape, hg.output, hg.size, fun k hk => hg.block k (by simp; omega) (fun e => by have := hge k e.symm; omega)⟩
/-- in a plain region -/
theorem wpList_append_rd (hp : PartR lo B w v ts) (hB : B ≤ w.heap.size) (hr : RdP q w A 0 ks) (hq : ∀ b, q b → PB lo B w v b) (hl : ks.length ≤ 9223372036854775807) {m : Nat} (hm : ts.length = m) (hlen : m ≤ 1099511627776)
    {ops : Array Oper} {rest : List Oper} {o : Oper} {a : Act} {Q : Exit → Act → World → Prop} (hgd : o.guard = none) (s x : Operand)
    (ho : o.op = .call { callee := .builtin .append, args := #[s, x], argTypes := #[23, 23] }) (hse : a.eval s = v) (hx : a.eval x = .slice (some ⟨w.heap.size, 0, none⟩) 1 1)
    (h : ∀ A' c' w', PartR lo B w' (.slice A' (m + 1) c') (ts ++ [.mk k n ks]) → Below B w w' → w.grownBy w' v.ownBlock → wpList Tryz.prog ops Q rest (a.put o.dst (.slice A' (m + 1) c')) w') :
    wpList Tryz.prog ops Q (o :: rest) a (w.alloc (.cells #[.int .i64 k, .int .i64 n, .slice A ks.length c] 25)) := by
  subst hm
  refine wpList_plain hgd fun K hK => ?_
  obtain ⟨v', w', hrun, h2, h3, h4⟩ := run_append_rd (k := k) (n := n) (c := c) hp hB hr hq hl hlen o.type
  unfold Oper.wp execOp
  simp only [ho, resolve, invoke, builtin, Sem.run_bind, Sem.run_pure, Result.andThen_ok, List.map_toArray, List.map_cons, List.map_nil, hse, hx, hrun]
  obtain ⟨A', c', rfl⟩ := h2.shape
  rw [List.length_append] at h2 ⊢
  exact hK _ _ (h A' c' w' h2 h3 h4)
end
open Go.RowKit
section
variable {P : Program} {ops : Array Oper} {Q : Exit → Act → World → Prop} {S : World → Prop} {need : Nat → Bool}
/-- an edge leads, in one step or more, from j to i -/
def pre (ops : Array Oper) : Nat → Nat → Nat → Bool
  | 0, _, _ => false
  | n + 1, j, i => match ops[j]? with
    | some o => o.after.any fun e => Region.binds .any e && (e.on == i || pre ops n e.on i)
    | none => false
/-- what has come up has come up behind all that it waits for -/
def Closed (ops : Array Oper) (listed : Array Bool) : Prop :=
  ∀ k ok, ops[k]? = some ok → listed.getD k true = true → ∀ e ∈ ok.after, Region.binds .any e = true → listed.getD e.on false = true
theorem Closed.start : Closed ops (Array.replicate ops.size false) := by
  intro k ok hk hl
  have := (Array.getElem?_eq_some_iff.1 hk).1
  simp [this] at hl
theorem Closed.step {listed : Array Bool} {j : Nat} (h : Closed ops listed) (hj : j ∈ Region.ready .any ops listed) : Closed ops (listed.setIfInBounds j true) := by
  intro k ok hk hl e he hb
  obtain ⟨_, oj, hoj, hall⟩ := mem_ready.1 hj
  by_cases hkj : k = j
  · subst hkj
    rw [hoj] at hk
    injection hk with hk
    subst hk
    exact getD_set_true (hall e he hb)
  · rw [getD_set_ne true (Ne.symm hkj)] at hl
    exact getD_set_true (h k ok hk hl e he hb)
theorem Closed.pre {listed : Array Bool} (h : Closed ops listed) {i : Nat} : ∀ (n j : Nat), listed.getD j false = true → pre ops n j i = true → listed.getD i false = true := by
  intro n
  induction n with
  | zero => intro j _ hp; cases hp
  | succ n ih =>
    intro j hl hp
    rw [Go.Proofs.YtodkpgkefjegnaaGreatDoor.pre] at hp
    cases ho : ops[j]? with
    | none => rw [ho] at hp; cases hp
    | some o =>
      rw [ho] at hp
      obtain ⟨e, he, hb⟩ := Array.any_eq_true'.1 hp
      simp only [Bool.and_eq_true, Bool.or_eq_true, beq_iff_eq] at hb
      have hl' : listed.getD j true = true := by
        rcases Nat.lt_or_ge j listed.size with hlt | hge
        · simp [hlt] at hl ⊢; exact hl
        · simp [Array.getElem?_eq_none hge] at hl
      have h1 := h j o ho hl' e he hb.1
      rcases hb.2 with hb2 | hb2
      · rw [← hb2]; exact h1
      · exact ih _ h1 hb2
theorem Closed.ready {listed : Array Bool} (h : Closed ops listed) {i j n : Nat} (hj : j ∈ Region.ready .any ops listed) (hp : Go.Proofs.YtodkpgkefjegnaaGreatDoor.pre ops n j i = true) : listed.getD i false = true := by
  obtain ⟨_, oj, hoj, hall⟩ := mem_ready.1 hj
  cases n with
  | zero => cases hp
  | succ n =>
    rw [Go.Proofs.YtodkpgkefjegnaaGreatDoor.pre, hoj] at hp
    obtain ⟨e, he, hb⟩ := Array.any_eq_true'.1 hp
    simp only [Bool.and_eq_true, Bool.or_eq_true, beq_iff_eq] at hb
    have h1 := hall e he hb.1
    rcases hb.2 with hb2 | hb2
    · rw [← hb2]; exact h1
    · exact h.pre _ _ h1 hb2
/-- whatever order is picked, and S holds behind each operation that is named -/
def wpAnyN (P : Program) (ops : Array Oper) (Q : Exit → Act → World → Prop) (S : World → Prop) (need : Nat → Bool) : Nat → Array Bool → Act → World → Prop
  | 0, listed, a, w => Region.ready .any ops listed = [] ∧ Q .normal a w
  | fuel + 1, listed, a, w =>
    (Region.ready .any ops listed = [] → Q .normal a w) ∧
    ∀ i ∈ Region.ready .any ops listed, wpOp P ops Q i (fun a' w' => (need i = true → S w') ∧ wpAnyN P ops Q S need fuel (listed.setIfInBounds i true) a' w') a w
theorem wpAny_of_N : ∀ (fuel : Nat) (listed : Array Bool) (a : Act) (w : World), wpAnyN P ops Q S need fuel listed a w → wpAny P .any ops Q fuel listed a w
  | 0, _, _, _, h => h
  | fuel + 1, _, _, _, h => ⟨h.1, fun i hi => wpOp_mono (fun a' w' h' => wpAny_of_N fuel _ a' w' h'.2) (h.2 i hi)⟩
theorem wpAnyN_first {i : Nat} {oi : Oper} {v : Value} (hi : ops[i]? = some oi) (hsel : ∀ (j : Nat) (o : Oper) cs b, ops[j]? = some o → o.op ≠ .select cs b)
    (hQ : ∀ c a w, Q (.panic c) (a.put oi.dst v) w → Q (.panic c) a w)
    (hneed : ∀ listed, Closed ops listed → i ∈ Region.ready .any ops listed → ∀ j, j ∈ Region.ready .any ops listed → j ≠ i → need j = true) :
    ∀ (fuel : Nat) (listed : Array Bool) (a : Act) (w : World), Closed ops listed →
      (∀ j oj, ops[j]? = some oj → j ≠ i → listed.getD j true = false → (∀ e ∈ oj.after, Region.binds .any e = true → e.on ≠ i) → oi.apart ops oj = true) →
      i ∈ Region.ready .any ops listed → YieldsIf P ops S oi v a → S w →
      wpAnyN P ops Q S need fuel (listed.setIfInBounds i true) (a.put oi.dst v) w → wpAnyN P ops Q S need (fuel + 1) listed a w := by
  intro fuel
  induction fuel with
  | zero =>
    intro listed a w hcl _ hr hy hS H
    refine ⟨fun h => (by rw [h] at hr; cases hr), fun j hj => ?_⟩
    by_cases hji : j = i
    · subst hji; exact hy.wpOp hi hS ⟨fun _ => hS, H⟩
    · have := ready_mono hj hji
      rw [H.1] at this
      cases this
  | succ fuel ih =>
    intro listed a w hcl hfree hr hy hS H
    refine ⟨fun h => (by rw [h] at hr; cases hr), fun j hj => ?_⟩
    by_cases hji : j = i
    · subst hji; exact hy.wpOp hi hS ⟨fun _ => hS, H⟩
    · have h1 := H.2 j (ready_mono hj hji)
      have hnj := hneed listed hcl hr j hj hji
      obtain ⟨hjun, oj, hoj, hall⟩ := mem_ready.1 hj
      have hnot : ∀ e ∈ oj.after, Region.binds .any e = true → e.on ≠ i := fun e he hb heq => by
        have h1 := hall e he hb
        have h0 := (mem_ready.1 hr).1
        rw [heq] at h1
        rcases Nat.lt_or_ge i listed.size with h' | h'
        · simp [h'] at h0 h1; rw [h0] at h1; cases h1
        · simp [Array.getElem?_eq_none h'] at h1
      have h2 := wpOp_putIf hoj (hfree j oj hoj hji hjun hnot) (fun cs b => hsel i oi cs b hi) (fun cs b => hsel j oj cs b hoj) hQ hy h1
      have hfree' : ∀ k ok, ops[k]? = some ok → k ≠ i → (listed.setIfInBounds j true).getD k true = false →
          (∀ e ∈ ok.after, Region.binds .any e = true → e.on ≠ i) → oi.apart ops ok = true := fun k ok hk hki hun hno => by
        refine hfree k ok hk hki ?_ hno
        by_cases hjk : j = k
        · subst hjk; exact hjun
        · rw [getD_set_ne true hjk] at hun; exact hun
      refine wpOp_mono (fun a' w' h3 => ⟨h3.2.1, ih (listed.setIfInBounds j true) a' w' (hcl.step hj) hfree' (ready_mono hr (Ne.symm hji)) h3.1 (h3.2.1 hnj) ?_⟩) h2
      rw [Array.setIfInBounds_comm _ _ hji]
      exact h3.2.2
/-- one operation yields one value in every world that meets S -/
def Oper.takes (P : Program) (o : Oper) (a : Act) (S : World → Prop) (next : Act → Prop) : Prop := ∃ v, (∀ w, S w → (execOp a.eval o).run P w = .ok (.value v) w) ∧ next (a.put o.dst v)
/-- operations that are taken first, one behind the other -/
def wpTake (P : Program) (ops : Array Oper) (S : World → Prop) (K : Act → Prop) : List Oper → Act → Prop
  | [], a => K a
  | o :: rest, a => if Region.wanted o (yielded ops a.tmps) then Oper.takes P o a S (wpTake P ops S K rest) else wpTake P ops S K rest (a.put o.dst undef)
/-- behind an operation: S, and what follows -/
def Mid (S : World → Prop) (K : Act → World → Prop) (Q : Exit → Act → World → Prop) : Exit → Act → World → Prop
  | .normal, a, w => S w ∧ K a w
  | e, a, w => Q e a w
/-- operations in a row, behind each of the first S -/
def wpThen (P : Program) (ops : Array Oper) (Q : Exit → Act → World → Prop) (S : World → Prop) : List Oper → List Oper → Act → World → Prop
  | [], lB, a, w => wpList P ops Q lB a w
  | o :: r, lB, a, w => wpList P ops (Mid S (wpThen P ops Q S r lB) Q) [o] a w
def sel (ops : Array Oper) (l : List Nat) : List Oper := l.filterMap fun i => ops[i]?
def simT (ops : Array Oper) : List Nat → Array Bool → Option (Array Bool)
  | [], l => some l
  | i :: T, l => if (Region.ready .any ops l).contains i && Region.free .any ops l i then simT ops T (l.setIfInBounds i true) else none
def simR (ops : Array Oper) : List Nat → Array Bool → Bool
  | [], l => (Region.ready .any ops l).isEmpty
  | j :: R, l => Region.ready .any ops l == [j] && simR ops R (l.setIfInBounds j true)
def firstOk (ops : Array Oper) (T A B : List Nat) : Bool :=
  Region.noSelect ops && (match simT ops T (Array.replicate ops.size false) with | some l => simR ops (A ++ B) l | none => false) &&
  B.all (fun j => T.all fun i => pre ops ops.size j i) && A.all (fun j => !B.contains j) && (T.length + (A.length + B.length) == ops.size)
theorem wpOp_of_list {j : Nat} {o : Oper} (ho : ops[j]? = some o) {K : Act → World → Prop} {Q' : Exit → Act → World → Prop} (h1 : ∀ a w, Q' .normal a w → K a w) (h2 : ∀ e a w, e ≠ .normal → Q' e a w → Q e a w)
    {a : Act} {w : World} (h : wpList P ops Q' [o] a w) : wpOp P ops Q j K a w := by
  have conv : ∀ {K1 : Act → World → Prop} {a : Act} {w : World}, o.wp P a w K1 Q' → (∀ a w, K1 a w → K a w) → o.wp P a w K Q := by
    intro K1 a w hh hk
    unfold Oper.wp at *
    generalize (execOp a.eval o).run P w = r at *
    cases r with
    | ok n w' =>
      cases n <;> simp only [Oper.upon] at hh ⊢ <;>
        first
          | exact hk _ _ hh
          | (refine Calls.mono hh fun e w'' he => ?_
             cases e with
             | returned u => exact hk _ _ he
             | panicked c => exact h2 _ _ _ (by simp) he
             | outgrown => obtain ⟨a0, w0, h0⟩ := he; exact ⟨a0, w0, h2 _ _ _ (by simp) h0⟩)
          | exact Rows.mono hh fun u w'' he => hk _ _ he
    | halt x w' => cases x <;> simp only [Oper.upon] at hh ⊢ <;> exact h2 _ _ _ (by simp) hh
  unfold wpOp
  simp only [ho]
  rw [wpList] at h
  split
  · rename_i hw
    simp only [hw, if_true] at h
    rcases h with h | ⟨hasks, a0, w0, h0⟩
    · exact .inl (conv h fun a w hh => h1 _ _ (by simpa [wpList] using hh))
    · exact .inr ⟨hasks, a0, w0, h2 _ _ _ (by simp) h0⟩
  · rename_i hw
    simp only [hw] at h
    exact h1 _ _ (by simpa [wpList] using h)
theorem wpList_cons_iff {o : Oper} {r : List Oper} {a : Act} {w : World} (h : wpList P ops Q (o :: r) a w) : wpList P ops (fun e a w => match e with | .normal => wpList P ops Q r a w | e => Q e a w) [o] a w := by
  have conv : ∀ {a : Act} {w : World}, o.wp P a w (wpList P ops Q r) Q → o.wp P a w (wpList P ops (fun e a w => match e with | .normal => wpList P ops Q r a w | e => Q e a w) []) (fun e a w => match e with | .normal => wpList P ops Q r a w | e => Q e a w) := by
    intro a w hh
    unfold Oper.wp at *
    generalize (execOp a.eval o).run P w = r at *
    cases r with
    | ok n w' =>
      cases n <;> simp only [Oper.upon] at hh ⊢ <;>
        first
          | exact hh
          | (refine Calls.mono hh fun e w'' he => ?_
             cases e with
             | returned u => exact he
             | panicked c => exact he
             | outgrown => obtain ⟨a0, w0, h0⟩ := he; exact ⟨a0, w0, h0⟩)
    | halt x w' => cases x <;> simp only [Oper.upon] at hh ⊢ <;> exact hh
  rw [wpList] at h ⊢
  split
  · rename_i hw
    simp only [hw, if_true] at h
    rcases h with h | ⟨hasks, a0, w0, h0⟩
    · exact .inl (conv h)
    · exact .inr ⟨hasks, a0, w0, h0⟩
  · rename_i hw
    simp only [hw] at h
    exact h
theorem sel_cons {j : Nat} {o : Oper} {R : List Nat} (ho : ops[j]? = some o) : sel ops (j :: R) = o :: sel ops R := by
  simp only [sel, List.filterMap_cons, ho]
theorem rest_ok {B : List Nat} (hneed : ∀ j, j ∈ B → need j = false) : ∀ (A : List Nat) (fuel : Nat) (listed : Array Bool) (a : Act) (w : World), A.length + B.length ≤ fuel → simR ops (A ++ B) listed = true →
    wpThen P ops Q S (sel ops A) (sel ops B) a w → wpAnyN P ops Q S need fuel listed a w := by
  have tail : ∀ (B' : List Nat) (fuel : Nat) (listed : Array Bool) (a : Act) (w : World), (∀ j, j ∈ B' → need j = false) → B'.length ≤ fuel → simR ops B' listed = true →
      wpList P ops Q (sel ops B') a w → wpAnyN P ops Q S need fuel listed a w := by
    intro B'
    induction B' with
    | nil =>
      intro fuel listed a w _ _ hs h
      have hr : Region.ready .any ops listed = [] := by simpa [simR] using hs
      have h' : Q .normal a w := by simpa [sel, wpList] using h
      cases fuel with
      | zero => exact ⟨hr, h'⟩
      | succ f => exact ⟨fun _ => h', by rw [hr]; simp⟩
    | cons j B' ih =>
      intro fuel listed a w hn hf hs h
      rw [simR, Bool.and_eq_true] at hs
      have hr : Region.ready .any ops listed = [j] := by simpa using hs.1
      cases fuel with
      | zero => simp at hf
      | succ f =>
        refine ⟨fun h0 => (by rw [h0] at hr; cases hr), ?_⟩
        rw [hr]
        intro i hi
        obtain rfl : i = j := by simpa using hi
        have hm : i ∈ Region.ready .any ops listed := by rw [hr]; simp
        obtain ⟨_, o, ho, _⟩ := mem_ready.1 hm
        rw [sel_cons ho] at h
        refine wpOp_of_list ho (fun a w hh => ⟨fun hni => (by rw [hn i (by simp)] at hni; cases hni), ih f _ a w (fun j hj => hn j (by simp [hj])) (by simpa using hf) hs.2 hh⟩) (fun e a w he hh => ?_) (wpList_cons_iff h)
        cases e <;> first | exact hh | exact absurd rfl he
  intro A
  induction A with
  | nil => intro fuel listed a w hf hs h; exact tail B fuel listed a w hneed (by simpa using hf) hs h
  | cons j A ih =>
    intro fuel listed a w hf hs h
    rw [List.cons_append, simR, Bool.and_eq_true] at hs
    have hr : Region.ready .any ops listed = [j] := by simpa using hs.1
    cases fuel with
    | zero => simp at hf
    | succ f =>
      refine ⟨fun h0 => (by rw [h0] at hr; cases hr), ?_⟩
      rw [hr]
      intro i hi
      obtain rfl : i = j := by simpa using hi
      have hm : i ∈ Region.ready .any ops listed := by rw [hr]; simp
      obtain ⟨_, o, ho, _⟩ := mem_ready.1 hm
      rw [sel_cons ho, wpThen] at h
      refine wpOp_of_list ho (fun a w hh => ⟨fun _ => hh.1, ih f _ a w (by simp only [List.length_cons] at hf; omega) hs.2 hh.2⟩) (fun e a w he hh => ?_) h
      cases e <;> first | exact hh | exact absurd rfl he
theorem takes_ok (hsel : Region.noSelect ops = true) (hQ : ∀ c (a : Act) d v w, Q (.panic c) (a.put d v) w → Q (.panic c) a w) {w : World} (hS : S w) : ∀ (T : List Nat) (fuel : Nat) (listed l' : Array Bool) (a : Act),
    (∀ i, i ∈ T → ∀ listed, Closed ops listed → i ∈ Region.ready .any ops listed → ∀ j, j ∈ Region.ready .any ops listed → j ≠ i → need j = true) →
    Closed ops listed → simT ops T listed = some l' → wpTake P ops S (fun a' => Closed ops l' → wpAnyN P ops Q S need fuel l' a' w) (sel ops T) a → wpAnyN P ops Q S need (T.length + fuel) listed a w := by
  intro T
  induction T with
  | nil =>
    intro fuel listed l' a _ hcl hs h
    simp only [simT, Option.some.injEq] at hs
    subst hs
    rw [List.length_nil, Nat.zero_add]
    exact (by simpa [sel, wpTake] using h : Closed ops listed → _) hcl
  | cons i T ih =>
    intro fuel listed l' a hn hcl hs h
    rw [simT] at hs
    split at hs
    case isFalse => cases hs
    rename_i hc
    rw [Bool.and_eq_true] at hc
    have hm : i ∈ Region.ready .any ops listed := by simpa using hc.1
    obtain ⟨_, o, ho, _⟩ := mem_ready.1 hm
    rw [sel_cons ho, wpTake] at h
    rw [List.length_cons, Nat.add_right_comm]
    split at h
    · rename_i hw
      obtain ⟨v, hv, hnext⟩ := h
      exact wpAnyN_first ho (Region.noSelect_spec hsel) (fun c a w hh => hQ c a _ _ w hh) (hn i (by simp)) _ _ _ _ hcl (Region.free_spec ho hc.2) hm (.inl ⟨hw, hv⟩) hS
        (ih _ _ _ _ (fun k hk => hn k (by simp [hk])) (hcl.step hm) hs hnext)
    · rename_i hw
      exact wpAnyN_first ho (Region.noSelect_spec hsel) (fun c a w hh => hQ c a _ _ w hh) (hn i (by simp)) _ _ _ _ hcl (Region.free_spec ho hc.2) hm (.inr ⟨by simpa using hw, rfl⟩) hS
        (ih _ _ _ _ (fun k hk => hn k (by simp [hk])) (hcl.step hm) hs h)
theorem wpTake_mono {K K' : Act → Prop} (hK : ∀ a, K a → K' a) : ∀ (l : List Oper) (a : Act), wpTake P ops S K l a → wpTake P ops S K' l a
  | [], a, h => hK a h
  | o :: r, a, h => by
    rw [wpTake] at h ⊢
    split
    · rename_i hw
      simp only [hw, if_true] at h
      obtain ⟨v, hv, hn⟩ := h
      exact ⟨v, hv, wpTake_mono hK r _ hn⟩
    · rename_i hw
      simp only [hw] at h
      exact wpTake_mono hK r _ h
/-- **a region that draws its order**: the operations T first, each of which yields one value in every world that meets S; then A, behind each of which S holds; then B -/
theorem wp_region_first {id : Nat} {a : Act} {w : World} (S : World → Prop) (T A B : List Nat) (lT lA lB : List Oper) (hm : P.follows .mixedOrders = true) (hk : firstOk ops T A B = true)
    (hT : sel ops T = lT) (hA : sel ops A = lA) (hB : sel ops B = lB) (hQ : ∀ c (a : Act) d v w, Q (.panic c) (a.put d v) w → Q (.panic c) a w) (hS : S w.drew)
    (h : wpTake P ops S (fun a' => wpThen P ops Q S lA lB a' w.drew) lT a) : (Code.region id ops true).wp P Q a w := by
  subst hT hA hB
  refine wp_region_any hm (wpAny_of_N (S := S) (need := fun j => !B.contains j) _ _ _ _ ?_)
  simp only [firstOk, Bool.and_eq_true, beq_iff_eq] at hk
  obtain ⟨⟨⟨⟨hsel, hsim⟩, hpre⟩, hAB⟩, hlen⟩ := hk
  cases hl : simT ops T (Array.replicate ops.size false) with
  | none => rw [hl] at hsim; cases hsim
  | some l' =>
  rw [hl] at hsim
  rw [show ops.size = T.length + (A.length + B.length) from hlen.symm]
  rw [show Array.replicate (T.length + (A.length + B.length)) false = Array.replicate ops.size false from by rw [hlen]]
  refine takes_ok hsel hQ (w := w.drew) hS T _ _ l' a (fun i hi listed hcl hr j hj hne => ?_) Closed.start hl (wpTake_mono (fun a' h' _ => rest_ok (fun j hj => ?_) A _ _ _ _ (Nat.le_refl _) hsim h') _ _ h)
  · rw [Bool.not_eq_true', List.contains_eq_mem, decide_eq_false_iff_not]
    intro hjB
    have h1 := List.all_eq_true.1 (List.all_eq_true.1 hpre j hjB) i hi
    have h2 := hcl.ready hj h1
    have h3 := (mem_ready.1 hr).1
    rcases Nat.lt_or_ge i listed.size with h' | h'
    · simp [h'] at h2 h3; rw [h3] at h2; cases h2
    · simp [Array.getElem?_eq_none h'] at h2
  · simp [hj]
theorem take_step {o : Oper} {rest : List Oper} {a a' : Act} {K : Act → Prop} {v : Value} (hw : Region.wanted o (yielded ops a.tmps) = true) (hv : ∀ w, S w → (execOp a.eval o).run P w = .ok (.value v) w)
    (ha : a.put o.dst v = a') (h : wpTake P ops S K rest a') : wpTake P ops S K (o :: rest) a := by
  subst ha; rw [wpTake, if_pos hw]; exact ⟨v, hv, h⟩
theorem take_skip {o : Oper} {rest : List Oper} {a a' : Act} {K : Act → Prop} (hw : Region.wanted o (yielded ops a.tmps) = false) (ha : a.put o.dst undef = a') (h : wpTake P ops S K rest a') : wpTake P ops S K (o :: rest) a := by
  subst ha; rw [wpTake, if_neg (by rw [hw]; exact Bool.false_ne_true)]; exact h
theorem take_nil {a : Act} {K : Act → Prop} (h : K a) : wpTake P ops S K [] a := h
theorem then_cons {o : Oper} {r lB : List Oper} {a : Act} {w : World} (h : wpList P ops (Mid S (wpThen P ops Q S r lB) Q) [o] a w) : wpThen P ops Q S (o :: r) lB a w := by rw [wpThen]; exact h
theorem then_nil {lB : List Oper} {a : Act} {w : World} (h : wpList P ops Q lB a w) : wpThen P ops Q S [] lB a w := by rw [wpThen]; exact h
theorem mid_intro {a : Act} {w : World} {K : Act → World → Prop} (h1 : S w) (h2 : K a w) : Mid S K Q .normal a w := ⟨h1, h2⟩
/-- the kit's lexical walk behind a name that is not laid open -/
def wpCls (P : Program) (ops : Array Oper) (C : World → Prop) (Q : Act → Prop) (l : List Oper) (a : Act) : Prop := wpQuiet P ops C Q l a
/-- a region all of whose operations and callees yield one value in every world of a class -/
theorem wp_region_class {id : Nat} {a : Act} {w : World} {l : List Oper} (C : World → Prop) (hm : P.follows .mixedOrders = true) (hB : Region.lexB .any l.toArray = true) (hC : C w.drew)
    (h : wpCls P l.toArray C (fun a' => ∀ w', C w' → Q .normal a' w') l a) : (Code.region id l.toArray true).wp P Q a w :=
  wp_region_quiet (C := C) hm hB hC (by simpa [wpCls] using h)
theorem quiet_one {C : World → Prop} {Q' : Act → Prop} {o : Oper} {rest : List Oper} {a a' : Act} {v : Value} (hw : Region.wanted o (yielded ops a.tmps) = true) (hv : ∀ w, C w → (execOp a.eval o).run P w = .ok (.value v) w)
    (ha : a.put o.dst v = a') (h : wpCls P ops C Q' rest a') : wpCls P ops C Q' (o :: rest) a := by
  subst ha
  unfold wpCls at *
  rw [wpQuiet, if_pos hw]
  refine ⟨v, fun w hw' => ?_, h⟩
  unfold Oper.quietAt
  rw [hv w hw']
  exact ⟨rfl, rfl⟩
theorem quiet_skip {C : World → Prop} {Q' : Act → Prop} {o : Oper} {rest : List Oper} {a a' : Act} (hw : Region.wanted o (yielded ops a.tmps) = false) (ha : a.put o.dst undef = a') (h : wpCls P ops C Q' rest a') : wpCls P ops C Q' (o :: rest) a := by
  subst ha; unfold wpCls at *; rw [wpQuiet, if_neg (by rw [hw]; exact Bool.false_ne_true)]; exact h
theorem quiet_call {C : World → Prop} {Q' : Act → Prop} {o : Oper} {rest : List Oper} {a a' : Act} {v : Value} (f : FuncId) (args : Array Value) (hw : Region.wanted o (yielded ops a.tmps) = true)
    (hv : ∀ w, C w → (execOp a.eval o).run P w = .ok (.enter f args) w) (hc : ∀ w, C w → Calls P f args w fun e w' => e = .returned v ∧ C w')
    (ha : a.put o.dst v = a') (h : wpCls P ops C Q' rest a') : wpCls P ops C Q' (o :: rest) a := by
  subst ha
  unfold wpCls at *
  rw [wpQuiet, if_pos hw]
  refine ⟨v, fun w hw' => ?_, h⟩
  unfold Oper.quietAt
  rw [hv w hw']
  exact ⟨rfl, hc w hw'⟩
theorem quiet_below {wx : World} {Q' : Act → Prop} {o : Oper} {rest : List Oper} {a a' : Act} {v : Value} (f : FuncId) (args : Array Value) (hw : Region.wanted o (yielded ops a.tmps) = true)
    (hv : ∀ w, Below wx.heap.size wx w → (execOp a.eval o).run P w = .ok (.enter f args) w) (hc : ∀ w, Below wx.heap.size wx w → Calls P f args w fun e w' => e = .returned v ∧ Below w.heap.size w w')
    (ha : a.put o.dst v = a') (h : wpCls P ops (fun w' => Below wx.heap.size wx w') Q' rest a') : wpCls P ops (fun w' => Below wx.heap.size wx w') Q' (o :: rest) a :=
  quiet_call f args hw hv (fun w hw => (hc w hw).mono fun _ _ ⟨he, hb⟩ => ⟨he, hw.trans (hb.mono hw.size)⟩) ha h
theorem quiet_same {wx : World} {Q' : Act → Prop} {o : Oper} {rest : List Oper} {a a' : Act} {v : Value} (f : FuncId) (args : Array Value) (hw : Region.wanted o (yielded ops a.tmps) = true)
    (hv : ∀ w, Below wx.heap.size wx w → (execOp a.eval o).run P w = .ok (.enter f args) w) (hc : ∀ w, Below wx.heap.size wx w → Calls P f args w fun e w' => e = .returned v ∧ w = w')
    (ha : a.put o.dst v = a') (h : wpCls P ops (fun w' => Below wx.heap.size wx w') Q' rest a') : wpCls P ops (fun w' => Below wx.heap.size wx w') Q' (o :: rest) a :=
  quiet_call f args hw hv (fun w hw => (hc w hw).mono fun _ _ ⟨he, hb⟩ => ⟨he, by rw [← hb]; exact hw⟩) ha h
theorem quiet_nil {C : World → Prop} {Q' : Act → Prop} {a : Act} (h : Q' a) : wpCls P ops C Q' [] a := h
end
attribute [irreducible] wpCls wpTake wpThen Mid
end Go.Proofs.YtodkpgkefjegnaaGreatDoor
