/-
  append of one term, where the callee may have turned a block that is not ours. No condition.
-/
import Derived.Test.YtefifcmieicnlaaApp
namespace Go.Proofs.Ytefifcmieicnlaa
open Go.RowKit
set_option linter.unusedSimpArgs false
set_option linter.unusedVariables false

/-- what append of one term does, at a world in which the term's three cells lie at an address -/
theorem run_append_tmG {B : Nat} {w0 w : World} {v : Value} {ts : List Tm} {t : Tm} {x1 : List Value} {f1 : List Nat} (hp : Part B w0 v ts) (hb : ∀ b, B ≤ b → b < w0.heap.size → w.heap[b]? = w0.heap[b]?) (hsz : w0.heap.size ≤ w.heap.size) (hB : B ≤ w0.heap.size)
    (ht : OwT w t x1 f1) (hn : f1.Nodup) (hf : ∀ b, b ∈ f1 → w0.heap.size ≤ b) (hlen : ts.length ≤ 1099511627776) (ad : Addr) (c : Nat) (hc : ∀ j u, x1[j]? = some u → w.cell? (ad.add j) = some u) (ty : TypeId) :
    ∃ v' w', (Builtin.append_ #[27, 27] ty #[v, .slice (some ad) 1 c]).run Try.prog w = .ok v' w' ∧ Part B w' v' (ts ++ [t]) ∧ Below B w w' ∧ w.grownBy w' v.ownBlock := by
  obtain ⟨i, hi, hz, hz1, hz2⟩ := info_parts tm_info
  obtain ⟨xs, f, h1, h2, h3, h4, h5⟩ := hp
  have hlt : ∀ g, v.ownBlock = some g → g < w0.heap.size := fun g hg => (h1.lt g hg).2
  have hge : ∀ g, v.ownBlock = some g → B ≤ g := fun g hg => (h1.lt g hg).1
  have hfl := h2.lt
  have k1 : w.ownsRow B 29 3 v ts.length xs := by
    refine ⟨h1.1, ?_⟩
    rcases h1.2 with hn | ⟨g, cap, cur, rfl, hb', hg, r⟩
    · exact .inl hn
    · exact .inr ⟨g, cap, cur, rfl, hb', (hb g hb' (hlt g rfl)).trans hg, r⟩
  have k2 : OwX w ts xs f := h2.frame fun b hbf => hb b (h4 b hbf) (hfl b hbf)
  obtain ⟨v', w', hrun, hown, hg, _, hat⟩ := run_append_own_at (P := Try.prog) w B 27 ty 29 i _ 3 40 Try.underlying27 hi hz hz1 hz2 rfl (by omega) v ts.length xs k1 ad 1 c x1 ht.length hc ht.oneCell
    (by simp only [maxLen]; omega) (by omega) (by omega)
  have e1 : ∀ b, b ∈ f → w'.heap[b]? = w.heap[b]? := fun b hbf => hg.block b (by have := hfl b hbf; omega) (fun e => h5 b e.symm hbf)
  have e2 : ∀ b, b ∈ f1 → w'.heap[b]? = w.heap[b]? := fun b hbf => hg.block b (ht.lt b hbf) (fun e => by have := hlt b e.symm; have := hf b hbf; omega)
  refine ⟨v', w', hrun, ⟨xs ++ x1, f ++ f1, by simpa using hown, (k2.frame e1).append (OwX.one (ht.frame e2)), ?_, ?_, ?_⟩, ⟨hg.os, hg.tape, hg.output, hg.size, fun k hk => hg.block k (by omega) (fun e => by have := hge k e.symm; omega)⟩, hg⟩
  · refine List.nodup_append.2 ⟨h3, hn, fun x hx y hy e => ?_⟩
    have := hfl x hx; have := hf y hy; omega
  · intro b hbm
    rcases List.mem_append.1 hbm with hbm | hbm
    · exact h4 b hbm
    · have := hf b hbm; omega
  · intro g hgo hgm
    rcases hat with e | e <;> rw [e] at hgo
    · rcases List.mem_append.1 hgm with hgm | hgm
      · exact h5 g hgo hgm
      · have := hlt g hgo; have := hf g hgm; omega
    · injection hgo with hgo
      subst hgo
      rcases List.mem_append.1 hgm with hgm | hgm
      · have := hfl _ hgm; omega
      · have := ht.lt _ hgm; omega

section
variable {B : Nat} {w0 w1 : World} {v : Value} {ts : List Tm} {k n : Int} {ks : List Tm} {A : Option Addr} {c : Nat}
/-- the same behind the one-element slice that the translation lays for the term -/
theorem run_append_builtG (hp : Part B w0 v ts) (hb : ∀ b, B ≤ b → b < w0.heap.size → w1.heap[b]? = w0.heap[b]?) (hs : w0.heap.size ≤ w1.heap.size) (hB : B ≤ w0.heap.size) (hfr : Fresh w0.heap.size w1 A ks) (hl : ks.length ≤ 9223372036854775807) (hlen : ts.length ≤ 1099511627776) (ty : TypeId) :
    ∃ v' w', (Builtin.append_ #[27, 27] ty #[v, .slice (some ⟨w1.heap.size, 0, none⟩) 1 1]).run Try.prog (w1.alloc (.cells #[.int .i64 k, .int .i64 n, .slice A ks.length c] 29)) = .ok v' w' ∧
      Part B w' v' (ts ++ [.mk k n ks]) ∧ Below B w1 w' ∧ w1.grownBy w' v.ownBlock := by
  obtain ⟨fp, h1, h2, h3⟩ := (hfr.alloc (.cells #[.int .i64 k, .int .i64 n, .slice A ks.length c] 29))
  obtain ⟨v', w', r1, r2, r3, r4⟩ := run_append_tmG (t := .mk k n ks) (x1 := [.int .i64 k, .int .i64 n, .slice A ks.length c]) (f1 := fp) (c := 1) (ty := ty) hp (fun b h1 h2 => (Below.heap_alloc w1 _ b (by omega)).trans (hb b h1 h2)) (by simp; omega) hB (OwT.iff.2 ⟨A, c, rfl, hl, h1⟩) h2 h3 hlen ⟨w1.heap.size, 0, none⟩ (by
    intro j u hj
    match j, hj with
    | 0, hj => simp only [List.getElem?_cons_zero, Option.some.injEq] at hj; subst hj; simp [Addr.add]
    | 1, hj => simp only [List.getElem?_cons_succ, List.getElem?_cons_zero, Option.some.injEq] at hj; subst hj; simp [Addr.add]
    | 2, hj => simp only [List.getElem?_cons_succ, List.getElem?_cons_zero, Option.some.injEq] at hj; subst hj; simp [Addr.add])
  exact ⟨v', w', r1, r2, ((Below.refl _ _).alloc (by omega) _).trans r3, grownBy_trans (grownBy_alloc_ (World.grownBy.refl _ _) _) r4⟩

/-- in a plain region -/
theorem wpList_append_builtG (hp : Part B w0 v ts) (hb : ∀ b, B ≤ b → b < w0.heap.size → w1.heap[b]? = w0.heap[b]?) (hs : w0.heap.size ≤ w1.heap.size) (hB : B ≤ w0.heap.size) (hfr : Fresh w0.heap.size w1 A ks) (hl : ks.length ≤ 9223372036854775807) {m : Nat} (hm : ts.length = m) (hlen : m ≤ 1099511627776)
    {ops : Array Oper} {rest : List Oper} {o : Oper} {a : Act} {Q : Exit → Act → World → Prop} (hgd : o.guard = none) (s x : Operand)
    (ho : o.op = .call { callee := .builtin .append, args := #[s, x], argTypes := #[27, 27] }) (hse : a.eval s = v) (hx : a.eval x = .slice (some ⟨w1.heap.size, 0, none⟩) 1 1)
    (h : ∀ A' c' w', Part B w' (.slice A' (m + 1) c') (ts ++ [.mk k n ks]) → Below B w1 w' → w1.grownBy w' v.ownBlock → wpList Try.prog ops Q rest (a.put o.dst (.slice A' (m + 1) c')) w') :
    wpList Try.prog ops Q (o :: rest) a (w1.alloc (.cells #[.int .i64 k, .int .i64 n, .slice A ks.length c] 29)) := by
  subst hm
  refine wpList_plain hgd fun K hK => ?_
  obtain ⟨v', w', hrun, h2, h3, h4⟩ := run_append_builtG (k := k) (n := n) (c := c) hp hb hs hB hfr hl hlen o.type
  unfold Oper.wp execOp
  simp only [ho, resolve, invoke, builtin, Sem.run_bind, Sem.run_pure, Result.andThen_ok, List.map_toArray, List.map_cons, List.map_nil, hse, hx, hrun]
  obtain ⟨A', c', rfl⟩ := h2.shape
  rw [List.length_append] at h2 ⊢
  exact hK _ _ (h A' c' w' h2 h3 h4)
end
end Go.Proofs.Ytefifcmieicnlaa
