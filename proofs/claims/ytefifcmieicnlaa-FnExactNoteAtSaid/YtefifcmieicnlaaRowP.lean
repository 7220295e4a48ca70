/-
  Slices of paths that grow. No condition.
-/
import Derived.Test.YtefifcmieicnlaaClone
import Derived.Test.YtefifcmieicnlaaIndexP
namespace Go.Proofs.Ytefifcmieicnlaa
open Go.RowKit
set_option linter.unusedSimpArgs false
set_option linter.unusedVariables false

/-- a slice of paths in a row of its own, which may grow; the paths lie in other blocks -/
def RowP (B : Nat) (w : World) (v : Value) (ps : List (List Int)) : Prop :=
  ∃ vs : List Value, w.ownsRow B 44 1 v ps.length vs ∧ ∀ j (hj : j < ps.length), ∃ A c, vs[j]? = some (.slice A ps[j].length c) ∧ RdI w A ps[j] ∧ ∀ a, A = some a → B ≤ a.block ∧ v.ownBlock ≠ some a.block ∧ a.block < w.heap.size
theorem RowP.nil {B : Nat} {w : World} : RowP B w (.slice none 0 0) [] := ⟨[], World.ownsRow_nil _ _ _ _, fun j hj => absurd hj (Nat.not_lt_zero _)⟩
theorem RowP.below {B : Nat} {w w' : World} {v : Value} {ps : List (List Int)} (h : RowP B w v ps) (hb : Below w.heap.size w w') : RowP B w' v ps := by
  obtain ⟨vs, h1, h2⟩ := h
  refine ⟨vs, ⟨h1.1, ?_⟩, fun j hj => ?_⟩
  · rcases h1.2 with hn | ⟨g, cap, cur, rfl, hB, hg, r⟩
    · exact .inl hn
    · exact .inr ⟨g, cap, cur, rfl, hB, (hb.block g (Array.getElem?_eq_some_iff.1 hg).1).trans hg, r⟩
  · obtain ⟨A, c, e, hi, hne⟩ := h2 j hj
    exact ⟨A, c, e, hi.below hb, fun a ha => ⟨(hne a ha).1, (hne a ha).2.1, Nat.lt_of_lt_of_le (hne a ha).2.2 hb.size⟩⟩
theorem RowP.form {B : Nat} {w : World} {v : Value} {ps : List (List Int)} (h : RowP B w v ps) : ∃ A c, v = .slice A ps.length c ∧ RdPs w A ps := by
  obtain ⟨vs, h1, h2⟩ := h
  rcases h1.2 with ⟨rfl, h0⟩ | ⟨g, cap, cur, rfl, hb, hg, hn, hm, hs, htk⟩
  · have : ps = [] := List.eq_nil_of_length_eq_zero h0
    subst this
    exact ⟨none, 0, rfl, fun j hj => absurd hj (Nat.not_lt_zero _)⟩
  · refine ⟨some ⟨g, 0, none⟩, cap, rfl, fun j hj => ?_⟩
    obtain ⟨A, c, e, hi, _⟩ := h2 j hj
    refine ⟨g, 0, A, c, rfl, ?_, hi⟩
    rw [Nat.zero_add, cell_of_row w g j cur 44 (0, 0) hg]
    rw [← htk, Nat.mul_one, List.getElem?_take, if_pos hj] at e
    simpa using e
theorem RdI.grown {w w' : World} {A : Option Addr} {xs : List Int} {row : Option Nat} (h : RdI w A xs) (hg : w.grownBy w' row) (hne : ∀ a, A = some a → row ≠ some a.block) : RdI w' A xs := fun j hj => by
  obtain ⟨b, off, hA, hc⟩ := h j hj
  refine ⟨b, off, hA, ?_⟩
  have hl := World.block_lt_of_cell? _ _ hc
  have hb := hg.block b hl (fun e => hne _ hA e.symm)
  have : w'.cell? ⟨b, off + j, none⟩ = w.cell? ⟨b, off + j, none⟩ := by simp only [World.cell?, hb]
  rw [this]; exact hc
theorem path_info : (Try.prog.info? 44).map (fun i => (i.zero, i.size, i.bytes)) = some (some (.slice none 0 0), 1, 24) := by kernel_rfl
set_option maxHeartbeats 1000000 in
set_option maxRecDepth 100000 in
/-- append of paths that can be read at an address -/
theorem run_append_paths {B : Nat} {w : World} {v : Value} {ps qs : List (List Int)} {ad : Addr} {c : Nat} (ty : TypeId) (hp : RowP B w v ps) (hB : B ≤ w.heap.size) (hm : ps.length + qs.length ≤ 1099511627776)
    (hc : ∀ j (hj : j < qs.length), ∃ A c, w.cell? (ad.add j) = some (.slice A qs[j].length c) ∧ RdI w A qs[j] ∧ ∀ a, A = some a → B ≤ a.block ∧ v.ownBlock ≠ some a.block ∧ a.block < w.heap.size) :
    ∃ v' w', (Builtin.append_ #[76, 76] ty #[v, .slice (some ad) qs.length c]).run Try.prog w = .ok v' w' ∧ RowP B w' v' (ps ++ qs) ∧ Below B w w' ∧ w.grownBy w' v.ownBlock ∧ (v'.ownBlock = v.ownBlock ∨ v'.ownBlock = some w.heap.size) := by
  obtain ⟨i, hi, hz, hz1, hz2⟩ := info_parts path_info
  obtain ⟨vs, h1, h2⟩ := hp
  have hge : ∀ g, v.ownBlock = some g → B ≤ g := fun g hg => (h1.lt g hg).1
  let news : List Value := (List.range qs.length).map fun j => (w.cell? (ad.add j)).getD (.slice none 0 0)
  have hnl : news.length = qs.length := by simp [news]
  have hnj : ∀ j (hj : j < qs.length), ∃ A c, news[j]? = some (.slice A qs[j].length c) ∧ RdI w A qs[j] ∧ ∀ a, A = some a → B ≤ a.block ∧ v.ownBlock ≠ some a.block ∧ a.block < w.heap.size := fun j hj => by
    obtain ⟨A, c, e, r⟩ := hc j hj
    exact ⟨A, c, by simp [news, List.getElem?_map, hj, e], r⟩
  obtain ⟨v', w', hrun, hown, hg, _, hat⟩ := run_append_own_at (P := Try.prog) w B 76 ty 44 i _ 1 24 Try.underlying76 hi hz hz1 hz2 rfl (by omega) v ps.length vs h1 ad qs.length c news (by rw [hnl, Nat.mul_one]) (by
    intro j u hj
    have hjl : j < qs.length := by have := (List.getElem?_eq_some_iff.1 hj).1; omega
    obtain ⟨A, c, e, _⟩ := hc j hjl
    have : news[j]? = some (.slice A qs[j].length c) := by simp [news, List.getElem?_map, hjl, e]
    rw [this] at hj
    injection hj with hj
    rw [← hj]; exact e) (by
    intro u hu
    obtain ⟨j, hj, rfl⟩ := List.getElem_of_mem hu
    obtain ⟨A, c, e, _⟩ := hnj j (by omega)
    rw [List.getElem?_eq_getElem hj] at e
    injection e with e
    rw [e]; rfl) (by simp only [maxLen]; omega) (by omega) hB
  have hsz := hg.size
  refine ⟨v', w', hrun, ⟨vs ++ news, by rw [List.length_append]; exact hown, fun j hj => ?_⟩, ⟨hg.os, hg.tape, hg.output, hg.size, fun k hk => hg.block k (by omega) (fun e => by have := hge k e.symm; omega)⟩, hg, hat⟩
  have hvl : vs.length = ps.length := by have := h1.1; omega
  have new : ∀ a : Addr, B ≤ a.block ∧ v.ownBlock ≠ some a.block ∧ a.block < w.heap.size → B ≤ a.block ∧ v'.ownBlock ≠ some a.block ∧ a.block < w'.heap.size := fun a ha => ⟨ha.1, by
    rcases hat with e | e
    · rw [e]; exact ha.2.1
    · rw [e]; intro h; injection h with h; omega, by omega⟩
  by_cases hjp : j < ps.length
  · obtain ⟨A, c, e, r, hne⟩ := h2 j hjp
    rw [List.getElem?_append_left (by omega), List.getElem_append_left hjp]
    exact ⟨A, c, e, r.grown hg fun a ha => (hne a ha).2.1, fun a ha => new a (hne a ha)⟩
  · rw [List.length_append] at hj
    obtain ⟨A, c, e, r, hne⟩ := hnj (j - ps.length) (by omega)
    rw [List.getElem?_append_right (by omega), List.getElem_append_right (by omega), hvl]
    exact ⟨A, c, e, r.grown hg fun a ha => (hne a ha).2.1, fun a ha => new a (hne a ha)⟩
theorem RowP.mono {B B' : Nat} {w : World} {v : Value} {ps : List (List Int)} (h : RowP B w v ps) (hB : B' ≤ B) : RowP B' w v ps := by
  obtain ⟨vs, h1, h2⟩ := h
  refine ⟨vs, ⟨h1.1, ?_⟩, fun j hj => ?_⟩
  · rcases h1.2 with hn | ⟨g, cap, cur, rfl, hb, hg, r⟩
    · exact .inl hn
    · exact .inr ⟨g, cap, cur, rfl, by omega, hg, r⟩
  · obtain ⟨A, c, e, r, hne⟩ := h2 j hj
    exact ⟨A, c, e, r, fun a ha => ⟨by have := (hne a ha).1; omega, (hne a ha).2⟩⟩
theorem RowI.mono {B B' : Nat} {w : World} {v : Value} {xs : List Int} (h : RowI B w v xs) (hB : B' ≤ B) : RowI B' w v xs := by
  refine ⟨h.1, ?_⟩
  rcases h.2 with hn | ⟨g, cap, cur, rfl, hb, hg, r⟩
  · exact .inl hn
  · exact .inr ⟨g, cap, cur, rfl, by omega, hg, r⟩
theorem RowI.alloc {B : Nat} {w : World} {v : Value} {xs : List Int} (h : RowI B w v xs) (o : Obj) : RowI B (w.alloc o) v xs := h.keep fun b _ hl => Below.heap_alloc w o b hl
theorem RowP.alloc {B : Nat} {w : World} {v : Value} {ps : List (List Int)} (h : RowP B w v ps) (o : Obj) : RowP B (w.alloc o) v ps := h.below ((Below.refl _ _).alloc (Nat.le_refl _) _)
theorem RdI.alloc' {w : World} {A : Option Addr} {xs : List Int} (h : RdI w A xs) (o : Obj) : RdI (w.alloc o) A xs := h.keeps (.alloc w o)
/-- the shape, and where it lies -/
theorem RowI.form2 {B : Nat} {w : World} {v : Value} {xs : List Int} (h : RowI B w v xs) : ∃ A c, v = .slice A xs.length c ∧ RdI w A xs ∧ ∀ a, A = some a → B ≤ a.block ∧ a.block < w.heap.size := by
  obtain ⟨A, c, rfl, hi⟩ := h.form
  refine ⟨A, c, rfl, hi, fun a ha => ?_⟩
  subst ha
  have h3 := h.lt a.block rfl
  exact h3
/-- a row of one path -/
theorem run_append_pth {B : Nat} {w : World} {v : Value} {ps : List (List Int)} {p : List Int} {A : Option Addr} {c : Nat} (ty : TypeId) (hp : RowP B w v ps) (hB : B ≤ w.heap.size) (hm : ps.length + 1 ≤ 1099511627776) (hi : RdI w A p)
    (hne : ∀ a, A = some a → B ≤ a.block ∧ v.ownBlock ≠ some a.block ∧ a.block < w.heap.size) :
    ∃ v' w', (Builtin.append_ #[76, 76] ty #[v, .slice (some ⟨w.heap.size, 0, none⟩) 1 1]).run Try.prog (w.alloc (.cells #[.slice A p.length c] 44)) = .ok v' w' ∧ RowP B w' v' (ps ++ [p]) ∧ Below B w w' := by
  obtain ⟨v', w', h1, h2, h3, _⟩ := run_append_paths (w := w.alloc (.cells #[.slice A p.length c] 44)) (v := v) (ps := ps) (qs := [p]) (ad := ⟨w.heap.size, 0, none⟩) (c := 1) ty (hp.alloc _) (by simp; omega) (by simpa using hm) (by
    intro j hj
    simp only [List.length_singleton] at hj
    obtain rfl : j = 0 := by omega
    exact ⟨A, c, by simp [Addr.add], hi.alloc' _, fun a ha => ⟨(hne a ha).1, (hne a ha).2.1, by have := (hne a ha).2.2; simp; omega⟩⟩)
  exact ⟨v', w', h1, h2, ((Below.refl _ _).alloc hB _).trans h3⟩
theorem wpList_append_pth {B : Nat} {w : World} {v : Value} {ps : List (List Int)} {p : List Int} {A : Option Addr} {c : Nat} (hp : RowP B w v ps) (hB : B ≤ w.heap.size) (hm : ps.length + 1 ≤ 1099511627776) (hi : RdI w A p)
    (hne : ∀ a, A = some a → B ≤ a.block ∧ v.ownBlock ≠ some a.block ∧ a.block < w.heap.size)
    {ops : Array Oper} {rest : List Oper} {o : Oper} {a : Act} {Q : Exit → Act → World → Prop} (hgd : o.guard = none) (s x : Operand)
    (ho : o.op = .call { callee := .builtin .append, args := #[s, x], argTypes := #[76, 76] }) (hs : a.eval s = v) (hx : a.eval x = .slice (some ⟨w.heap.size, 0, none⟩) 1 1)
    (h : ∀ v' w', RowP B w' v' (ps ++ [p]) → Below B w w' → wpList Try.prog ops Q rest (a.put o.dst v') w') :
    wpList Try.prog ops Q (o :: rest) a (w.alloc (.cells #[.slice A p.length c] 44)) := by
  refine wpList_plain hgd fun K hK => ?_
  obtain ⟨v', w', hrun, h2, h3⟩ := run_append_pth (c := c) o.type hp hB hm hi hne
  unfold Oper.wp execOp
  simp only [ho, resolve, invoke, builtin, Sem.run_bind, Sem.run_pure, Result.andThen_ok, List.map_toArray, List.map_cons, List.map_nil, hs, hx, hrun]
  exact hK _ _ (h v' w' h2 h3)
/-- one integer more, in a region that draws its order -/
theorem step_append_int1 {B : Nat} {w : World} {v : Value} {xs : List Int} {y : Int} {g : Nat} (hp : RowI B w v xs) (hB : B ≤ w.heap.size) (hm : xs.length + 1 ≤ 1099511627776) (hc : w.cell? ⟨g, 0, none⟩ = some (.int .i64 y))
    {ops : Array Oper} {o : Oper} {a : Act} {K : Act → World → Prop} {Q : Exit → Act → World → Prop} {E : Prop} (hgd : o.guard = none) (s x : Operand)
    (ho : o.op = .call { callee := .builtin .append, args := #[s, x], argTypes := #[44, 44] }) (hs : a.eval s = v) (hx : a.eval x = .slice (some ⟨g, 0, none⟩) 1 1)
    (h : ∀ v' w', RowI B w' v' (xs ++ [y]) → Below B w w' → K (a.put o.dst v') w') :
    if Region.wanted o (yielded ops a.tmps) = true then Oper.wp Try.prog o a w K Q else E := by
  have hw : Region.wanted o (yielded ops a.tmps) = true := by simp [Region.wanted, hgd]
  rw [if_pos hw]
  obtain ⟨i, hi, hz, hz1, hz2⟩ := info_parts int_info3
  have hge : ∀ g, v.ownBlock = some g → B ≤ g := fun g hg => (hp.lt g hg).1
  obtain ⟨v', w', hrun, hown, hg, _, hat⟩ := run_append_own_at (P := Try.prog) w B 44 o.type 3 i _ 1 8 Try.underlying44 hi hz hz1 hz2 rfl (by omega) v xs.length _ hp ⟨g, 0, none⟩ 1 1 [.int .i64 y] (by simp) (by
    intro j u hj
    match j, hj with
    | 0, hj => simp only [List.getElem?_cons_zero, Option.some.injEq] at hj; subst hj; simpa [Addr.add] using hc) (by
    intro u hu
    simp only [List.mem_singleton] at hu
    subst hu; rfl) (by simp only [maxLen]; omega) (by omega) (by omega)
  unfold Oper.wp execOp
  simp only [ho, resolve, invoke, builtin, Sem.run_bind, Sem.run_pure, Result.andThen_ok, List.map_toArray, List.map_cons, List.map_nil, hs, hx, hrun]
  refine h v' w' ?_ ⟨hg.os, hg.tape, hg.output, hg.size, fun k hk => hg.block k (by omega) (fun e => by have := hge k e.symm; omega)⟩
  unfold RowI; rw [List.length_append, List.map_append]; exact hown
theorem run_append_nil {B : Nat} {w : World} {v : Value} {ps : List (List Int)} (ty : TypeId) (c : Nat) (hp : RowP B w v ps) : (Builtin.append_ #[76, 76] ty #[v, .slice none 0 c]).run Try.prog w = .ok v w := by
  obtain ⟨i, hi, hz, hz1, hz2⟩ := info_parts path_info
  obtain ⟨vs, hown, _⟩ := hp
  rcases hown.2 with ⟨rfl, _⟩ | ⟨g, cap, cur, rfl, _, _, hnc, _⟩
  · simp [Builtin.append_, run_underlying Try.underlying76, sizeOf, typeInfo, hi, Builtin.lenOf, Builtin.firstCells]
  · simp [Builtin.append_, run_underlying Try.underlying76, sizeOf, typeInfo, hi, Builtin.lenOf, Builtin.firstCells, hnc, storeCells]
/-- a whole row of paths more, in a region that draws its order -/
theorem step_append_rowp {B B2 : Nat} {w : World} {v v2 : Value} {ps qs : List (List Int)} (hp : RowP B w v ps) (hq : RowP B2 w v2 qs) (hBB : B ≤ B2) (hsep : ∀ g, v.ownBlock = some g → g < B2) (hB2 : B2 ≤ w.heap.size) (hm : ps.length + qs.length ≤ 1099511627776)
    {ops : Array Oper} {o : Oper} {a : Act} {K : Act → World → Prop} {Q : Exit → Act → World → Prop} {E : Prop} (hgd : o.guard = none) (s x : Operand)
    (ho : o.op = .call { callee := .builtin .append, args := #[s, x], argTypes := #[76, 76] }) (hs : a.eval s = v) (hx : a.eval x = v2)
    (h : ∀ v' w', RowP B w' v' (ps ++ qs) → Below B w w' → w.grownBy w' v.ownBlock → K (a.put o.dst v') w') :
    if Region.wanted o (yielded ops a.tmps) = true then Oper.wp Try.prog o a w K Q else E := by
  have hw : Region.wanted o (yielded ops a.tmps) = true := by simp [Region.wanted, hgd]
  rw [if_pos hw]
  have key : ∃ v' w', (Builtin.append_ #[76, 76] o.type #[v, v2]).run Try.prog w = .ok v' w' ∧ RowP B w' v' (ps ++ qs) ∧ Below B w w' ∧ w.grownBy w' v.ownBlock := by
    obtain ⟨vs, hown, hel⟩ := hq
    rcases hown.2 with ⟨rfl, h0⟩ | ⟨g, cap, cur, rfl, hb, hg, hn, _, hcs, htk⟩
    · have : qs = [] := List.eq_nil_of_length_eq_zero h0
      subst this
      exact ⟨v, w, run_append_nil _ 0 hp, by rw [List.append_nil]; exact hp, Below.refl _ _, World.grownBy.refl _ _⟩
    · obtain ⟨v', w', h1, h2, h3, h4, _⟩ := run_append_paths (w := w) (v := v) (ps := ps) (qs := qs) (ad := ⟨g, 0, none⟩) (c := cap) o.type hp (by omega) hm (by
        intro j hj
        obtain ⟨A, c, e, r, hne⟩ := hel j hj
        refine ⟨A, c, ?_, r, fun a ha => ⟨by have := (hne a ha).1; omega, fun e => by have := hsep _ e; have := (hne a ha).1; omega, (hne a ha).2.2⟩⟩
        have hcell := cell_of_row w g j cur 44 (0, 0) hg
        rw [← htk, Nat.mul_one, List.getElem?_take, if_pos hj] at e
        have e2 : cur[j]? = some (.slice A qs[j].length c) := by simpa using e
        by_cases h0 : j = 0
        · subst h0; simpa [Addr.add] using hcell.trans e2
        · simpa [Addr.add, h0] using hcell.trans e2)
      exact ⟨v', w', h1, h2, h3, h4⟩
  obtain ⟨v', w', hrun, h2, h3, h4⟩ := key
  unfold Oper.wp execOp
  simp only [ho, resolve, invoke, builtin, Sem.run_bind, Sem.run_pure, Result.andThen_ok, List.map_toArray, List.map_cons, List.map_nil, hs, hx, hrun]
  exact h v' w' h2 h3 h4
end Go.Proofs.Ytefifcmieicnlaa
