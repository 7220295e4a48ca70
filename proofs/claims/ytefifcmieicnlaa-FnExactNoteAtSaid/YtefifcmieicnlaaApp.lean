/-
  The law of append of one term onto a list of terms in blocks of their own. No condition.
-/
import Derived.Test.YtefifcmieicnlaaOwn
namespace Go.Proofs.Ytefifcmieicnlaa
open Go.RowKit
set_option linter.unusedSimpArgs false
set_option linter.unusedVariables false

theorem grownBy_alloc_ {a w : World} {row : Option Nat} (h : a.grownBy w row) (o : Obj) : a.grownBy (w.alloc o) row :=
  ⟨h.os, h.tape, h.output, Nat.le_trans h.size (by simp), fun i hi hne => (Below.heap_alloc w o i (Nat.lt_of_lt_of_le hi h.size)).trans (h.block i hi hne)⟩
theorem grownBy_drew {a w : World} {row : Option Nat} (h : a.grownBy w row) : a.grownBy w.drew row := ⟨h.os, h.tape, h.output, h.size, h.block⟩
theorem grownBy_trans {a w w' : World} {row : Option Nat} (h : a.grownBy w row) (k : w.grownBy w' row) : a.grownBy w' row :=
  ⟨k.os.trans h.os, k.tape.trans h.tape, k.output.trans h.output, Nat.le_trans h.size k.size, fun i hi hne => (k.block i (Nat.lt_of_lt_of_le hi h.size) hne).trans (h.block i hi hne)⟩
theorem grownBy_below {a w w' : World} {row : Option Nat} (h : a.grownBy w row) (k : Below w.heap.size w w') : a.grownBy w' row :=
  ⟨k.os.trans h.os, k.tape.trans h.tape, k.output.trans h.output, Nat.le_trans h.size k.size, fun i hi hne => (k.block i (Nat.lt_of_lt_of_le hi h.size)).trans (h.block i hi hne)⟩
theorem grownBy_cell {a w : World} {row : Option Nat} (h : a.grownBy w row) {b o : Nat} {u : Value} (hc : a.cell? ⟨b, o, none⟩ = some u) (hne : row ≠ some b) : w.cell? ⟨b, o, none⟩ = some u :=
  h.cell hc (fun e => hne e.symm)
theorem grownBy_frozen {a w : World} {row : Option Nat} (h : a.grownBy w row) {b o : Nat} {u : Value} (hc : a.cell? ⟨b, o, none⟩ = some u) (hz : a.frozen? ⟨b, o, none⟩ = false) (hne : row ≠ some b) : w.frozen? ⟨b, o, none⟩ = false :=
  (World.frozen?_of_block (h.block b (World.block_lt_of_cell? a _ hc) (fun e => hne e.symm))).trans hz
theorem Part.other {B : Nat} {w : World} {v : Value} {ts : List Tm} (h : Part B w v ts) {b : Nat} (hb : b < B ∨ w.heap.size ≤ b) : v.ownBlock ≠ some b := by
  obtain ⟨_, _, h1, _⟩ := h
  intro e
  have := h1.lt b e
  omega

theorem tm_info : (Try.prog.info? 29).map (fun i => (i.zero, i.size, i.bytes)) = some (some (.agg #[.int .i64 0, .int .i64 0, .slice none 0 0]), 3, 40) := by kernel_rfl

/-- make of so many terms -/
theorem mk_terms (n : Nat) (hn : n ≤ 1099511627776) (W : World) : (Instr.makeSlice 27 (.int .i64 (n : Int)) (.int .i64 (n : Int))).run Try.prog W = .ok (.slice (some ⟨W.heap.size, 0, none⟩) n n)
    (W.alloc (.cells (madeCells #[.int .i64 0, .int .i64 0, .slice none 0 0] (n * 3)) 29)) := by
  obtain ⟨i0, hi, hz0, hz1, hz2⟩ := info_parts tm_info
  have h := run_make_rowN (P := Try.prog) 27 29 i0 _ Try.underlying27 hi hz0 .i64 .i64 n n (Nat.le_refl _) (by rw [hz2]; omega) (by omega) W
  rw [hz1] at h
  exact h
theorem mk_fill (n : Nat) (W : World) : Fill (W.alloc (.cells (madeCells #[.int .i64 0, .int .i64 0, .slice none 0 0] (n * 3)) 29)) W.heap.size n [] := Fill.start (by simp [madeCells])

/-- what a call gives back: a term in blocks of its own · terms in blocks of their own · a term that is somewhere -/
def GotT (w : World) (k n : Int) (ks : List Tm) (e : Ending) (w' : World) : Prop :=
  ∃ A c, e = .returned (.agg #[.int .i64 k, .int .i64 n, .slice A ks.length c]) ∧ ks.length ≤ 9223372036854775807 ∧ Fresh w.heap.size w' A ks ∧ Below w.heap.size w w'
def GotL (w : World) (ts : List Tm) (e : Ending) (w' : World) : Prop :=
  ∃ A c, e = .returned (.slice A ts.length c) ∧ Fresh w.heap.size w' A ts ∧ Below w.heap.size w w'

/-- what append of one term does, at a world in which the term's three cells lie at an address -/
theorem run_append_tm {B : Nat} {w0 w : World} {v : Value} {ts : List Tm} {t : Tm} {x1 : List Value} {f1 : List Nat} (hp : Part B w0 v ts) (hb : Below w0.heap.size w0 w) (hB : B ≤ w0.heap.size)
    (ht : OwT w t x1 f1) (hn : f1.Nodup) (hf : ∀ b, b ∈ f1 → w0.heap.size ≤ b) (hlen : ts.length ≤ 1099511627776) (ad : Addr) (c : Nat) (hc : ∀ j u, x1[j]? = some u → w.cell? (ad.add j) = some u) (ty : TypeId) :
    ∃ v' w', (Builtin.append_ #[27, 27] ty #[v, .slice (some ad) 1 c]).run Try.prog w = .ok v' w' ∧ Part B w' v' (ts ++ [t]) ∧ Below B w w' ∧ w.grownBy w' v.ownBlock := by
  obtain ⟨i, hi, hz, hz1, hz2⟩ := info_parts tm_info
  have hsz := hb.size
  obtain ⟨xs, f, h1, h2, h3, h4, h5⟩ := hp
  have hlt : ∀ g, v.ownBlock = some g → g < w0.heap.size := fun g hg => (h1.lt g hg).2
  have hge : ∀ g, v.ownBlock = some g → B ≤ g := fun g hg => (h1.lt g hg).1
  have hfl := h2.lt
  have k1 : w.ownsRow B 29 3 v ts.length xs := by
    refine ⟨h1.1, ?_⟩
    rcases h1.2 with hn | ⟨g, cap, cur, rfl, hb', hg, r⟩
    · exact .inl hn
    · exact .inr ⟨g, cap, cur, rfl, hb', (hb.block g (hlt g rfl)).trans hg, r⟩
  have k2 : OwX w ts xs f := h2.frame fun b hbf => hb.block b (hfl b hbf)
  obtain ⟨v', w', hrun, hown, hg, _, hat⟩ := run_append_own_at (P := Try.prog) w B 27 ty 29 i _ 3 40 Try.underlying27 hi hz hz1 hz2 rfl (by omega) v ts.length xs k1 ad 1 c x1 ht.length hc ht.oneCell
    (by simp only [maxLen]; omega) (by omega) (by omega)
  have e1 : ∀ b, b ∈ f → w'.heap[b]? = w.heap[b]? := fun b hbf => hg.block b (by have := hfl b hbf; omega) (fun e => h5 b e.symm hbf)
  have e2 : ∀ b, b ∈ f1 → w'.heap[b]? = w.heap[b]? := fun b hbf => hg.block b (ht.lt b hbf) (fun e => by have := hlt b e.symm; have := hf b hbf; omega)
  refine ⟨v', w', hrun, ⟨xs ++ x1, f ++ f1, by simpa using hown, (k2.frame e1).append (OwX.one (ht.frame e2)), ?_, ?_, ?_⟩, ⟨hg.os, hg.tape, hg.output, hg.size, fun k hk => hg.block k (by omega) (fun e => by have := hge k e.symm; omega)⟩, hg⟩
  · refine List.nodup_append.2 ⟨h3, hn, fun x hx y hy e => ?_⟩
    have := hfl x hx; have := hf y hy; omega
  · intro b hbm
    rcases List.mem_append.1 hbm with hbm | hbm
    · exact h4 b hbm
    · have := hf b hbm; omega
  · intro g hgo hgm
    rcases hat with e | e <;> rw [e] at hgo
    · rcases List.mem_append.1 hgm with hgm | hgm
      · exact h5 g hgo hgm
      · have := hlt g hgo; have := hf g hgm; omega
    · injection hgo with hgo
      subst hgo
      rcases List.mem_append.1 hgm with hgm | hgm
      · have := hfl _ hgm; omega
      · have := ht.lt _ hgm; omega

section
variable {B : Nat} {w0 w1 : World} {v : Value} {ts : List Tm} {k n : Int} {ks : List Tm} {A : Option Addr} {c : Nat}
/-- the same behind the one-element slice that the translation lays for the term -/
theorem run_append_built (hp : Part B w0 v ts) (hb : Below w0.heap.size w0 w1) (hB : B ≤ w0.heap.size) (hfr : Fresh w0.heap.size w1 A ks) (hl : ks.length ≤ 9223372036854775807) (hlen : ts.length ≤ 1099511627776) (ty : TypeId) :
    ∃ v' w', (Builtin.append_ #[27, 27] ty #[v, .slice (some ⟨w1.heap.size, 0, none⟩) 1 1]).run Try.prog (w1.alloc (.cells #[.int .i64 k, .int .i64 n, .slice A ks.length c] 29)) = .ok v' w' ∧
      Part B w' v' (ts ++ [.mk k n ks]) ∧ Below B w1 w' ∧ w1.grownBy w' v.ownBlock := by
  obtain ⟨fp, h1, h2, h3⟩ := (hfr.alloc (.cells #[.int .i64 k, .int .i64 n, .slice A ks.length c] 29))
  have hs := hb.size
  obtain ⟨v', w', r1, r2, r3, r4⟩ := run_append_tm (t := .mk k n ks) (x1 := [.int .i64 k, .int .i64 n, .slice A ks.length c]) (f1 := fp) (c := 1) (ty := ty) hp (hb.alloc hs _) hB (OwT.iff.2 ⟨A, c, rfl, hl, h1⟩) h2 h3 hlen ⟨w1.heap.size, 0, none⟩ (by
    intro j u hj
    match j, hj with
    | 0, hj => simp only [List.getElem?_cons_zero, Option.some.injEq] at hj; subst hj; simp [Addr.add]
    | 1, hj => simp only [List.getElem?_cons_succ, List.getElem?_cons_zero, Option.some.injEq] at hj; subst hj; simp [Addr.add]
    | 2, hj => simp only [List.getElem?_cons_succ, List.getElem?_cons_zero, Option.some.injEq] at hj; subst hj; simp [Addr.add])
  exact ⟨v', w', r1, r2, ((Below.refl _ _).alloc (by omega) _).trans r3, grownBy_trans (grownBy_alloc_ (World.grownBy.refl _ _) _) r4⟩

/-- in a region that draws its order -/
theorem step_append_built (hp : Part B w0 v ts) (hb : Below w0.heap.size w0 w1) (hB : B ≤ w0.heap.size) (hfr : Fresh w0.heap.size w1 A ks) (hl : ks.length ≤ 9223372036854775807) {m : Nat} (hm : ts.length = m) (hlen : m ≤ 1099511627776)
    {ops : Array Oper} {o : Oper} {a : Act} {K : Act → World → Prop} {Q : Exit → Act → World → Prop} {E : Prop} (hgd : o.guard = none) (s x : Operand)
    (ho : o.op = .call { callee := .builtin .append, args := #[s, x], argTypes := #[27, 27] }) (hs : a.eval s = v) (hx : a.eval x = .slice (some ⟨w1.heap.size, 0, none⟩) 1 1)
    (h : ∀ A' c' w', Part B w' (.slice A' (m + 1) c') (ts ++ [.mk k n ks]) → Below B w1 w' → w1.grownBy w' v.ownBlock → K (a.put o.dst (.slice A' (m + 1) c')) w') :
    if Region.wanted o (yielded ops a.tmps) = true then Oper.wp Try.prog o a (w1.alloc (.cells #[.int .i64 k, .int .i64 n, .slice A ks.length c] 29)) K Q else E := by
  subst hm
  have hw : Region.wanted o (yielded ops a.tmps) = true := by simp [Region.wanted, hgd]
  rw [if_pos hw]
  obtain ⟨v', w', hrun, h2, h3, h4⟩ := run_append_built (k := k) (n := n) (c := c) hp hb hB hfr hl hlen o.type
  unfold Oper.wp execOp
  simp only [ho, resolve, invoke, builtin, Sem.run_bind, Sem.run_pure, Result.andThen_ok, List.map_toArray, List.map_cons, List.map_nil, hs, hx, hrun]
  obtain ⟨A', c', rfl⟩ := h2.shape
  rw [List.length_append] at h2 ⊢
  exact h A' c' w' h2 h3 h4
/-- in a plain region -/
theorem wpList_append_built (hp : Part B w0 v ts) (hb : Below w0.heap.size w0 w1) (hB : B ≤ w0.heap.size) (hfr : Fresh w0.heap.size w1 A ks) (hl : ks.length ≤ 9223372036854775807) {m : Nat} (hm : ts.length = m) (hlen : m ≤ 1099511627776)
    {ops : Array Oper} {rest : List Oper} {o : Oper} {a : Act} {Q : Exit → Act → World → Prop} (hgd : o.guard = none) (s x : Operand)
    (ho : o.op = .call { callee := .builtin .append, args := #[s, x], argTypes := #[27, 27] }) (hs : a.eval s = v) (hx : a.eval x = .slice (some ⟨w1.heap.size, 0, none⟩) 1 1)
    (h : ∀ A' c' w', Part B w' (.slice A' (m + 1) c') (ts ++ [.mk k n ks]) → Below B w1 w' → w1.grownBy w' v.ownBlock → wpList Try.prog ops Q rest (a.put o.dst (.slice A' (m + 1) c')) w') :
    wpList Try.prog ops Q (o :: rest) a (w1.alloc (.cells #[.int .i64 k, .int .i64 n, .slice A ks.length c] 29)) := by
  subst hm
  refine wpList_plain hgd fun K hK => ?_
  obtain ⟨v', w', hrun, h2, h3, h4⟩ := run_append_built (k := k) (n := n) (c := c) hp hb hB hfr hl hlen o.type
  unfold Oper.wp execOp
  simp only [ho, resolve, invoke, builtin, Sem.run_bind, Sem.run_pure, Result.andThen_ok, List.map_toArray, List.map_cons, List.map_nil, hs, hx, hrun]
  obtain ⟨A', c', rfl⟩ := h2.shape
  rw [List.length_append] at h2 ⊢
  exact hK _ _ (h A' c' w' h2 h3 h4)
end
end Go.Proofs.Ytefifcmieicnlaa
