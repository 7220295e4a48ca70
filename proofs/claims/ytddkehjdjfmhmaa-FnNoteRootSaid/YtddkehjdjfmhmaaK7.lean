/-
 Contracts of the functions that the law reaches, and plain lemmas. No condition.
-/
import Derived.Test.YtddkehjdjfmhmaaK3
import Derived.Test.YtddkehjdjfmhmaaK4
import Derived.Test.YtddkehjdjfmhmaaK5
import Derived.Test.YtddkehjdjfmhmaaK6
import Derived.WalkSpells
import Derived.WalkLawsBesides
import Derived.IntWalk
import Derived.Laws.BitsAllLaws
import Derived.Laws.BitsLemmas
import Derived.Deep.RegionHeld3
import Derived.Deep.DeepCutAuto
namespace Go.Proofs.Ytddkehjdjfmhmaa
set_option linter.unusedSimpArgs false
set_option linter.unusedVariables false
open Go.RowKit
theorem int_info3 : (Try.prog.info? 3).map (fun i => (i.zero, i.size, i.bytes)) = some (some (.int .i64 0), 1, 8) := by kernel_rfl
def RowI (B : Nat) (w : World) (v : Value) (xs : List Int) : Prop := w.ownsRow B 3 1 v xs.length (xs.map (Value.int .i64))
theorem RowI.keep {B : Nat} {w w' : World} {v : Value} {xs : List Int} (h : RowI B w v xs) (hk : ∀ b, B ≤ b → b < w.heap.size → w'.heap[b]? = w.heap[b]?) : RowI B w' v xs := by
 refine ⟨h.1, ?_⟩
 rcases h.2 with hn | ⟨g, cap, cur, rfl, hb, hg, r⟩
 ·exact .inl hn
 ·exact .inr ⟨g, cap, cur, rfl, hb, (hk g hb (Array.getElem?_eq_some_iff.1 hg).1).trans hg, r⟩
theorem RowI.below {B : Nat} {w w' : World} {v : Value} {xs : List Int} (h : RowI B w v xs) (hb : Below w.heap.size w w') : RowI B w' v xs := h.keep fun b _ hl => hb.block b hl
theorem RowI.form {B : Nat} {w : World} {v : Value} {xs : List Int} (h : RowI B w v xs) : ∃ A c, v = .slice A xs.length c ∧ RdI w A xs := by
 rcases h.2 with ⟨rfl, h0⟩ | ⟨g, cap, cur, rfl, hb, hg, hn, hm, hs, htk⟩
 ·have : xs = [] := List.eq_nil_of_length_eq_zero h0
  subst this
  exact ⟨none, 0, rfl, fun j hj => absurd hj (Nat.not_lt_zero _)⟩
 ·refine ⟨some ⟨g, 0, none⟩, cap, rfl, fun j hj => ⟨g, 0, rfl, ?_⟩⟩
  rw [Nat.zero_add, cell_of_row w g j cur 3 (0, 0) hg]
  have h1 : (cur.toList.take (xs.length * 1))[j]? = (xs.map (Value.int .i64))[j]? := by rw [htk]
  rw [Nat.mul_one, List.getElem?_take, if_pos hj, List.getElem?_map, List.getElem?_eq_getElem hj] at h1
  simpa using h1
set_option maxHeartbeats 2000000 in
set_option maxRecDepth 100000 in
theorem wpList_append_ints {B : Nat} {w : World} {v : Value} {xs ys : List Int} {ad : Addr} {c : Nat} (hp : RowI B w v xs) (hB : B ≤ w.heap.size) (hm : xs.length + ys.length ≤ 1099511627776)
  (hc : ∀ j (hj : j < ys.length), w.cell? (ad.add j) = some (.int .i64 ys[j]))
  {ops : Array Oper} {rest : List Oper} {o : Oper} {a : Act} {Q : Exit → Act → World → Prop} (hgd : o.guard = none) (s x : Operand)
  (ho : o.op = .call { callee := .builtin .append, args := #[s, x], argTypes := #[26, 26] }) (hs : a.eval s = v) (hx : a.eval x = .slice (some ad) ys.length c)
  (h : ∀ v' w', RowI B w' v' (xs ++ ys) → Below B w w' → w.grownBy w' v.ownBlock → wpList Try.prog ops Q rest (a.put o.dst v') w') :
  wpList Try.prog ops Q (o :: rest) a w := by
 refine wpList_plain hgd fun K hK => ?_
 obtain ⟨i, hi, hz, hz1, hz2⟩ := info_parts int_info3
 have hge : ∀ g, v.ownBlock = some g → B ≤ g := fun g hg => (hp.lt g hg).1
 obtain ⟨v', w', hrun, hown, hg, _, hat⟩ := run_append_own_at (P := Try.prog) w B 26 o.type 3 i _ 1 8 Try.underlying26 hi hz hz1 hz2 rfl (by omega) v xs.length _ hp ad ys.length c (ys.map (Value.int .i64)) (by simp) (by
  intro j u hj
  rw [List.getElem?_map] at hj
  cases hy : ys[j]? with
  | none => rw [hy] at hj; cases hj
  | some y =>
   rw [hy] at hj
   obtain ⟨hjl, rfl⟩ := List.getElem?_eq_some_iff.1 hy
   injection hj with hj
   rw [← hj]; exact hc j hjl) (by
  intro u hu
  obtain ⟨y, _, rfl⟩ := List.mem_map.1 hu
  rfl) (by simp only [maxLen]; omega) (by omega) (by omega)
 unfold Oper.wp execOp
 simp only [ho, resolve, invoke, builtin, Sem.run_bind, Sem.run_pure, Result.andThen_ok, List.map_toArray, List.map_cons, List.map_nil, hs, hx, hrun]
 refine hK _ _ (h v' w' ?_ ?_ hg)
 ·unfold RowI; rw [List.length_append, List.map_append]; exact hown
 ·exact ⟨hg.os, hg.tape, hg.output, hg.size, fun k hk => hg.block k (by omega) (fun e => by have := hge k e.symm; omega)⟩
theorem RowI.empty (w : World) {B : Nat} (hB : B ≤ w.heap.size) : RowI B (w.alloc (.cells #[] 3)) (.slice (some ⟨w.heap.size, 0, none⟩) 0 0) [] :=
 ⟨rfl, .inr ⟨w.heap.size, 0, #[], rfl, hB, heap_alloc_new w _, Nat.le_refl _, by simp [maxLen], rfl, rfl⟩⟩
def RdPs (w : World) (A : Option Addr) (ps : List (List Int)) : Prop := ∀ j (hj : j < ps.length), ∃ b off B c, A = some ⟨b, off, none⟩ ∧ w.cell? ⟨b, off + j, none⟩ = some (.slice B ps[j].length c) ∧ RdI w B ps[j] ∧ ps[j].length ≤ c
theorem RdPs.keeps {w w' : World} {A : Option Addr} {ps : List (List Int)} (h : RdPs w A ps) (hk : Keeps w w') : RdPs w' A ps := fun j hj => by
 obtain ⟨b, off, B, c, hA, hc, hi, hcl⟩ := h j hj; exact ⟨b, off, B, c, hA, hk _ _ hc, hi.keeps hk, hcl⟩
theorem RdPs.below {w w' : World} {A : Option Addr} {ps : List (List Int)} (h : RdPs w A ps) (hb : Below w.heap.size w w') : RdPs w' A ps := h.keeps (.of_below hb)
def RowP (B : Nat) (w : World) (v : Value) (ps : List (List Int)) : Prop :=
 ∃ vs : List Value, w.ownsRow B 26 1 v ps.length vs ∧ ∀ j (hj : j < ps.length), ∃ A c, vs[j]? = some (.slice A ps[j].length c) ∧ RdI w A ps[j] ∧ ps[j].length ≤ c ∧ ∀ a, A = some a → B ≤ a.block ∧ v.ownBlock ≠ some a.block ∧ a.block < w.heap.size
theorem RowP.nil {B : Nat} {w : World} : RowP B w (.slice none 0 0) [] := ⟨[], World.ownsRow_nil _ _ _ _, fun j hj => absurd hj (Nat.not_lt_zero _)⟩
theorem RowP.below {B : Nat} {w w' : World} {v : Value} {ps : List (List Int)} (h : RowP B w v ps) (hb : Below w.heap.size w w') : RowP B w' v ps := by
 obtain ⟨vs, h1, h2⟩ := h
 refine ⟨vs, ⟨h1.1, ?_⟩, fun j hj => ?_⟩
 ·rcases h1.2 with hn | ⟨g, cap, cur, rfl, hB, hg, r⟩
  ·exact .inl hn
  ·exact .inr ⟨g, cap, cur, rfl, hB, (hb.block g (Array.getElem?_eq_some_iff.1 hg).1).trans hg, r⟩
 ·obtain ⟨A, c, e, hi, hcl, hne⟩ := h2 j hj
  exact ⟨A, c, e, hi.below hb, hcl, fun a ha => ⟨(hne a ha).1, (hne a ha).2.1, Nat.lt_of_lt_of_le (hne a ha).2.2 hb.size⟩⟩
theorem RowP.form {B : Nat} {w : World} {v : Value} {ps : List (List Int)} (h : RowP B w v ps) : ∃ A c, v = .slice A ps.length c ∧ RdPs w A ps := by
 obtain ⟨vs, h1, h2⟩ := h
 rcases h1.2 with ⟨rfl, h0⟩ | ⟨g, cap, cur, rfl, hb, hg, hn, hm, hs, htk⟩
 ·have : ps = [] := List.eq_nil_of_length_eq_zero h0
  subst this
  exact ⟨none, 0, rfl, fun j hj => absurd hj (Nat.not_lt_zero _)⟩
 ·refine ⟨some ⟨g, 0, none⟩, cap, rfl, fun j hj => ?_⟩
  obtain ⟨A, c, e, hi, hcl, _⟩ := h2 j hj
  refine ⟨g, 0, A, c, rfl, ?_, hi, hcl⟩
  rw [Nat.zero_add, cell_of_row w g j cur 26 (0, 0) hg]
  rw [← htk, Nat.mul_one, List.getElem?_take, if_pos hj] at e
  simpa using e
theorem RdI.grown {w w' : World} {A : Option Addr} {xs : List Int} {row : Option Nat} (h : RdI w A xs) (hg : w.grownBy w' row) (hne : ∀ a, A = some a → row ≠ some a.block) : RdI w' A xs := fun j hj => by
 obtain ⟨b, off, hA, hc⟩ := h j hj
 refine ⟨b, off, hA, ?_⟩
 have hl := World.block_lt_of_cell? _ _ hc
 have hb := hg.block b hl (fun e => hne _ hA e.symm)
 have : w'.cell? ⟨b, off + j, none⟩ = w.cell? ⟨b, off + j, none⟩ := by simp only [World.cell?, hb]
 rw [this]; exact hc
theorem path_info : (Try.prog.info? 26).map (fun i => (i.zero, i.size, i.bytes)) = some (some (.slice none 0 0), 1, 24) := by kernel_rfl
set_option maxHeartbeats 1000000 in
set_option maxRecDepth 100000 in
theorem run_append_paths {B : Nat} {w : World} {v : Value} {ps qs : List (List Int)} {ad : Addr} {c : Nat} (ty : TypeId) (hp : RowP B w v ps) (hB : B ≤ w.heap.size) (hm : ps.length + qs.length ≤ 1099511627776)
  (hc : ∀ j (hj : j < qs.length), ∃ A c, w.cell? (ad.add j) = some (.slice A qs[j].length c) ∧ RdI w A qs[j] ∧ qs[j].length ≤ c ∧ ∀ a, A = some a → B ≤ a.block ∧ v.ownBlock ≠ some a.block ∧ a.block < w.heap.size) :
  ∃ v' w', (Builtin.append_ #[46, 46] ty #[v, .slice (some ad) qs.length c]).run Try.prog w = .ok v' w' ∧ RowP B w' v' (ps ++ qs) ∧ Below B w w' ∧ w.grownBy w' v.ownBlock ∧ (v'.ownBlock = v.ownBlock ∨ v'.ownBlock = some w.heap.size) := by
 obtain ⟨i, hi, hz, hz1, hz2⟩ := info_parts path_info
 obtain ⟨vs, h1, h2⟩ := hp
 have hge : ∀ g, v.ownBlock = some g → B ≤ g := fun g hg => (h1.lt g hg).1
 let news : List Value := (List.range qs.length).map fun j => (w.cell? (ad.add j)).getD (.slice none 0 0)
 have hnl : news.length = qs.length := by simp [news]
 have hnj : ∀ j (hj : j < qs.length), ∃ A c, news[j]? = some (.slice A qs[j].length c) ∧ RdI w A qs[j] ∧ qs[j].length ≤ c ∧ ∀ a, A = some a → B ≤ a.block ∧ v.ownBlock ≠ some a.block ∧ a.block < w.heap.size := fun j hj => by
  obtain ⟨A, c, e, r⟩ := hc j hj
  exact ⟨A, c, by simp [news, List.getElem?_map, hj, e], r⟩
 obtain ⟨v', w', hrun, hown, hg, _, hat⟩ := run_append_own_at (P := Try.prog) w B 46 ty 26 i _ 1 24 Try.underlying46 hi hz hz1 hz2 rfl (by omega) v ps.length vs h1 ad qs.length c news (by rw [hnl, Nat.mul_one]) (by
  intro j u hj
  have hjl : j < qs.length := by have := (List.getElem?_eq_some_iff.1 hj).1; omega
  obtain ⟨A, c, e, _⟩ := hc j hjl
  have : news[j]? = some (.slice A qs[j].length c) := by simp [news, List.getElem?_map, hjl, e]
  rw [this] at hj
  injection hj with hj
  rw [← hj]; exact e) (by
  intro u hu
  obtain ⟨j, hj, rfl⟩ := List.getElem_of_mem hu
  obtain ⟨A, c, e, _⟩ := hnj j (by omega)
  rw [List.getElem?_eq_getElem hj] at e
  injection e with e
  rw [e]; rfl) (by simp only [maxLen]; omega) (by omega) hB
 have hsz := hg.size
 refine ⟨v', w', hrun, ⟨vs ++ news, by rw [List.length_append]; exact hown, fun j hj => ?_⟩, ⟨hg.os, hg.tape, hg.output, hg.size, fun k hk => hg.block k (by omega) (fun e => by have := hge k e.symm; omega)⟩, hg, hat⟩
 have hvl : vs.length = ps.length := by have := h1.1; omega
 have new : ∀ a : Addr, B ≤ a.block ∧ v.ownBlock ≠ some a.block ∧ a.block < w.heap.size → B ≤ a.block ∧ v'.ownBlock ≠ some a.block ∧ a.block < w'.heap.size := fun a ha => ⟨ha.1, by
  rcases hat with e | e
  ·rw [e]; exact ha.2.1
  ·rw [e]; intro h; injection h with h; omega, by omega⟩
 by_cases hjp : j < ps.length
 ·obtain ⟨A, c, e, r, hcl, hne⟩ := h2 j hjp
  rw [List.getElem?_append_left (by omega), List.getElem_append_left hjp]
  exact ⟨A, c, e, r.grown hg fun a ha => (hne a ha).2.1, hcl, fun a ha => new a (hne a ha)⟩
 ·rw [List.length_append] at hj
  obtain ⟨A, c, e, r, hcl, hne⟩ := hnj (j - ps.length) (by omega)
  rw [List.getElem?_append_right (by omega), List.getElem_append_right (by omega), hvl]
  exact ⟨A, c, e, r.grown hg fun a ha => (hne a ha).2.1, hcl, fun a ha => new a (hne a ha)⟩
theorem RowP.mono {B B' : Nat} {w : World} {v : Value} {ps : List (List Int)} (h : RowP B w v ps) (hB : B' ≤ B) : RowP B' w v ps := by
 obtain ⟨vs, h1, h2⟩ := h
 refine ⟨vs, ⟨h1.1, ?_⟩, fun j hj => ?_⟩
 ·rcases h1.2 with hn | ⟨g, cap, cur, rfl, hb, hg, r⟩
  ·exact .inl hn
  ·exact .inr ⟨g, cap, cur, rfl, by omega, hg, r⟩
 ·obtain ⟨A, c, e, r, hcl, hne⟩ := h2 j hj
  exact ⟨A, c, e, r, hcl, fun a ha => ⟨by have := (hne a ha).1; omega, (hne a ha).2⟩⟩
theorem RowI.mono {B B' : Nat} {w : World} {v : Value} {xs : List Int} (h : RowI B w v xs) (hB : B' ≤ B) : RowI B' w v xs := by
 refine ⟨h.1, ?_⟩
 rcases h.2 with hn | ⟨g, cap, cur, rfl, hb, hg, r⟩
 ·exact .inl hn
 ·exact .inr ⟨g, cap, cur, rfl, by omega, hg, r⟩
theorem RowI.alloc {B : Nat} {w : World} {v : Value} {xs : List Int} (h : RowI B w v xs) (o : Obj) : RowI B (w.alloc o) v xs := h.keep fun b _ hl => Below.heap_alloc w o b hl
theorem RowP.alloc {B : Nat} {w : World} {v : Value} {ps : List (List Int)} (h : RowP B w v ps) (o : Obj) : RowP B (w.alloc o) v ps := h.below ((Below.refl _ _).alloc (Nat.le_refl _) _)
theorem RdI.alloc' {w : World} {A : Option Addr} {xs : List Int} (h : RdI w A xs) (o : Obj) : RdI (w.alloc o) A xs := h.keeps (.alloc w o)
theorem RowI.form2 {B : Nat} {w : World} {v : Value} {xs : List Int} (h : RowI B w v xs) : ∃ A c, v = .slice A xs.length c ∧ RdI w A xs ∧ ∀ a, A = some a → B ≤ a.block ∧ a.block < w.heap.size := by
 obtain ⟨A, c, rfl, hi⟩ := h.form
 refine ⟨A, c, rfl, hi, fun a ha => ?_⟩
 subst ha
 have h3 := h.lt a.block rfl
 exact h3
mutual
def plT (f : Tm → Bool) : List Int → Tm → List (List Int) | p, .mk k n ks => (if f (.mk k n ks) = true then [p] else []) ++ plL f p 0 ks
def plL (f : Tm → Bool) : List Int → Nat → List Tm → List (List Int) | _, _, [] => [] | p, i, t :: ts => plT f (p ++ [(i : Int)]) t ++ plL f p (i + 1) ts
end
theorem pl_heads (f : Tm → Bool) (t : Tm) : ∀ p x, x ∈ plT f p t → ∃ q, x = p ++ q := by
 refine Tm.rec (motive_1 := fun t => ∀ p x, x ∈ plT f p t → ∃ q, x = p ++ q)
  (motive_2 := fun ts => ∀ p i x, x ∈ plL f p i ts → ∃ (j : Nat) (q : List Int), i ≤ j ∧ x = p ++ (j : Int) :: q) ?_ ?_ ?_ t
 ·intro k n ks ih p x hx
  rw [plT] at hx
  rcases List.mem_append.1 hx with hx | hx
  ·split at hx
   ·rw [List.mem_singleton] at hx; exact ⟨[], by rw [hx, List.append_nil]⟩
   ·cases hx
  ·obtain ⟨j, q, _, rfl⟩ := ih p 0 x hx; exact ⟨_, rfl⟩
 ·intro p i x hx; rw [plL] at hx; cases hx
 ·intro t ts h1 h2 p i x hx
  rw [plL] at hx
  rcases List.mem_append.1 hx with hx | hx
  ·obtain ⟨q, rfl⟩ := h1 _ x hx; exact ⟨i, q, Nat.le_refl _, by rw [List.append_assoc]; rfl⟩
  ·obtain ⟨j, q, hj, rfl⟩ := h2 p (i + 1) x hx; exact ⟨j, q, by omega, rfl⟩
theorem pl_heads2 (f : Tm → Bool) : ∀ (ts : List Tm) p i x, x ∈ plL f p i ts → ∃ (j : Nat) (q : List Int), i ≤ j ∧ x = p ++ (j : Int) :: q
 | [], p, i, x, hx => by rw [plL] at hx; cases hx
 | t :: ts, p, i, x, hx => by
  rw [plL] at hx
  rcases List.mem_append.1 hx with hx | hx
  ·obtain ⟨q, rfl⟩ := pl_heads f t _ x hx; exact ⟨i, q, Nat.le_refl _, by rw [List.append_assoc]; rfl⟩
  ·obtain ⟨j, q, hj, rfl⟩ := pl_heads2 f ts p (i + 1) x hx; exact ⟨j, q, by omega, rfl⟩
def allT : Tm → Bool := fun _ => true
theorem pl_length (t : Tm) : ∀ p, (plT allT p t).length = t.size := by
 refine Tm.rec (motive_1 := fun t => ∀ p, (plT allT p t).length = t.size) (motive_2 := fun ts => ∀ p i, (plL allT p i ts).length = sizes ts) ?_ ?_ ?_ t
 ·intro k n ks ih p; rw [plT, if_pos (show allT (.mk k n ks) = true from rfl), List.length_append, ih, Tm.size, List.length_singleton]; omega
 ·intro p i; rfl
 ·intro t ts h1 h2 p i; rw [plL, List.length_append, h1, h2, sizes]
theorem int_cons_ne {p : List Int} {i j : Nat} {q r : List Int} (h : p ++ (i : Int) :: q = p ++ (j : Int) :: r) : i = j := by
 have := List.append_cancel_left h
 injection this with h1 h2
 omega
theorem plL_append (f : Tm → Bool) (p : List Int) (us : List Tm) : ∀ (ts : List Tm) (i : Nat), plL f p i (ts ++ us) = plL f p i ts ++ plL f p (i + ts.length) us
 | [], i => by simp [plL]
 | t :: ts, i => by rw [List.cons_append, plL, plL, plL_append f p us ts (i + 1), List.append_assoc, List.length_cons, show i + 1 + ts.length = i + (ts.length + 1) from by omega]
theorem plL_take (f : Tm → Bool) (p : List Int) {ks : List Tm} {j : Nat} (hj : j < ks.length) : plL f p 0 (ks.take (j + 1)) = plL f p 0 (ks.take j) ++ plT f (p ++ [(j : Int)]) ks[j] := by
 rw [List.take_succ_eq_append_getElem hj, plL_append, List.length_take, Nat.min_eq_left (Nat.le_of_lt hj), Nat.zero_add, plL, plL, List.append_nil]
theorem plT_le (f : Tm → Bool) (t : Tm) : ∀ p, (plT f p t).length ≤ t.size := by
 refine Tm.rec (motive_1 := fun t => ∀ p, (plT f p t).length ≤ t.size) (motive_2 := fun ts => ∀ p i, (plL f p i ts).length ≤ sizes ts) ?_ ?_ ?_ t
 ·intro k n ks ih p; rw [plT, List.length_append, Tm.size]; have := ih p 0; split <;> simp <;> omega
 ·intro p i; simp [plL]
 ·intro t ts h1 h2 p i; rw [plL, List.length_append, sizes]; have := h1 (p ++ [(i : Int)]); have := h2 p (i + 1); omega
theorem plL_le (f : Tm → Bool) : ∀ (ts : List Tm) p i, (plL f p i ts).length ≤ sizes ts
 | [], p, i => by simp [plL]
 | t :: ts, p, i => by rw [plL, List.length_append, sizes]; have := plT_le f t (p ++ [(i : Int)]); have := plL_le f ts p (i + 1); omega
open Go.RowKit
abbrev Prs := List Tm × List Tm
def idx2 (x y : Tm) : List Tm → List Tm → Option Nat
 | l :: ls, r :: rs => if (tmEq l x && tmEq r y) = true then some 0 else (idx2 x y ls rs).map (· + 1)
 | _, _ => none
def holeOf (H : Nat → Tm) (d : Int) (t u : Tm) (st : Prs) : Option (Tm × Prs) :=
 match shiftI (-d) 0 t, shiftI (-d) 0 u with
 | some x, some y => (match idx2 x y st.1 st.2 with | some i => some (H i, st) | none => some (H st.1.length, (st.1 ++ [x], st.2 ++ [y])))
 | _, _ => none
mutual
def cm (H : Nat → Tm) : Int → Tm → Tm → Prs → Option (Tm × Prs)
 | d, .mk k n ks, u, st =>
  if u.k = k ∧ u.n = n ∧ u.kids.length = ks.length then
   (match cmL H k d 0 ks u.kids st with
    | some (os, st') => some (.mk k n os, st')
    | none => holeOf H d (.mk k n ks) u st)
  else holeOf H d (.mk k n ks) u st
def cmL (H : Nat → Tm) : Int → Int → Nat → List Tm → List Tm → Prs → Option (List Tm × Prs)
 | k, d, i, t :: ts, u :: us, st =>
  (match cm H (d + under k i) t u st with
   | none => none
   | some (o, st') => (match cmL H k d (i + 1) ts us st' with | none => none | some (os, st2) => some (o :: os, st2)))
 | _, _, _, _, _, st => some ([], st)
end
def PrsOk (m : Nat) (st : Prs) : Prop := st.1.length = st.2.length ∧ st.1.length ≤ m ∧ (∀ x, x ∈ st.1 → x.size ≤ 400) ∧ (∀ x, x ∈ st.2 → x.size ≤ 400)
theorem PrsOk.mono {m m' : Nat} {st : Prs} (h : PrsOk m st) (hm : m ≤ m') : PrsOk m' st := ⟨h.1, Nat.le_trans h.2.1 hm, h.2.2⟩
def nbd : Tm → Bool
 | .mk _ n ks => decide (0 ≤ n) && decide (n ≤ 1000000) && nbds ks
where nbds : List Tm → Bool | [] => true | t :: ts => nbd t && nbds ts
open Go.RowKit
def Rdr (B : Nat) (w : World) (r p : Nat) : Prop :=
 ∃ (A : Option Addr) (bs : List Int) (c : Nat), Blk w r #[.slice A bs.length c, .int .i64 p] ∧ bs.length ≤ 2000 ∧ r < B ∧
  ∀ j (hj : j < bs.length), ∃ b off, A = some ⟨b, off, none⟩ ∧ w.cell? ⟨b, off + j, none⟩ = some (.int .u8 bs[j]) ∧ 0 ≤ bs[j] ∧ bs[j] ≤ 255 ∧ b ≠ r ∧ b < B
theorem Rdr.keep {B r p : Nat} {w w' : World} (h : Rdr B w r p) (hk : ∀ b, b < B → w'.heap[b]? = w.heap[b]?) : Rdr B w' r p := by
 obtain ⟨A, bs, c, ⟨t, h1⟩, h2, h3, h4⟩ := h
 refine ⟨A, bs, c, ⟨t, (hk r h3).trans h1⟩, h2, h3, fun j hj => ?_⟩
 obtain ⟨b, off, e, h5, h6, h7, h8, h9⟩ := h4 j hj
 exact ⟨b, off, e, (World.cell?_of_block (w := w) (a := ⟨b, off + j, none⟩) (hk b h9)).trans h5, h6, h7, h8, h9⟩
theorem Rdr.below {B B' r p : Nat} {w w' : World} (h : Rdr B w r p) (hb : Below B' w w') (hB : B ≤ B') : Rdr B w' r p := h.keep fun b hl => hb.block b (by omega)
theorem Rdr.alloc {B r p : Nat} {w : World} (h : Rdr B w r p) (hB : B ≤ w.heap.size) (o : Obj) : Rdr B (w.alloc o) r p := h.keep fun b hl => Below.heap_alloc w o b (by omega)
theorem Rdr.drew {B r p : Nat} {w : World} (h : Rdr B w r p) : Rdr B w.drew r p := h
theorem Rdr.setCell {B r p : Nat} {w : World} (h : Rdr B w r p) {a : Addr} (ha : B ≤ a.block) (u : Value) : Rdr B (w.setCell a u) r p := h.keep fun b hl => Below.heap_setCell w a u b (by omega)
theorem Rdr.step {B r p : Nat} {w : World} (h : Rdr B w r p) (q : Nat) : Rdr B (w.setCell ⟨r, 1, none⟩ (.int .i64 q)) r q := by
 obtain ⟨A, bs, c, h1, h2, h3, h4⟩ := h
 refine ⟨A, bs, c, h1.set_ 1 _, h2, h3, fun j hj => ?_⟩
 obtain ⟨b, off, e, h5, h6, h7, h8, h9⟩ := h4 j hj
 exact ⟨b, off, e, (World.cell?_of_block (w := w) (a := ⟨b, off + j, none⟩) (Below.heap_setCell w _ _ b h8)).trans h5, h6, h7, h8, h9⟩
def Picked (B : Nat) (w : World) (r p : Nat) (n : Int) (e : Ending) (w' : World) : Prop :=
 ∃ m : Nat, e = .returned (.int .i64 m) ∧ (1 ≤ n → (m : Int) < n) ∧ (n < 1 → m = 0) ∧ Rdr B w' r (p + 1) ∧ w.grownBy w' (some r)
theorem ofInt_i64 (a : Nat) (ha : a < 9223372036854775808) : (BitVec.ofInt 64 (a : Int)).toNat = a := by
 rw [BitVec.ofInt_natCast, BitVec.toNat_ofNat]; exact Nat.mod_eq_of_lt (by omega)
theorem i64_xor_nat (a b : Nat) (ha : a < 9223372036854775808) (hb : b < 9223372036854775808) : bits .xor .i64 (a : Int) (b : Int) = ((a ^^^ b : Nat) : Int) := by
 have hx : a ^^^ b < 2 ^ 63 := Nat.xor_lt_two_pow (by omega) (by omega)
 show IntKind.i64.wrap ((BitVec.ofInt 64 (a : Int) ^^^ BitVec.ofInt 64 (b : Int)).toNat : Int) = _
 rw [BitVec.toNat_xor, ofInt_i64 a ha, ofInt_i64 b hb, IntKind.wrap_i64]
 omega
theorem mix_sum (x1 x2 : Int) (p dv : Nat) (h1 : 0 ≤ x1) (h2 : x1 ≤ 255) (h3 : 0 ≤ x2) (h4 : x2 ≤ 255) (h5 : p ≤ 1000000000) (h6 : dv ≤ p) :
  wrap64 (x1 * 131 + x2 * 1117 + (p : Int) * 29 + wrap64 (wrap64 (dv : Int) * 53)) = x1 * 131 + x2 * 1117 + (p : Int) * 29 + (dv : Int) * 53 ∧ 0 ≤ x1 * 131 + x2 * 1117 + (p : Int) * 29 + (dv : Int) * 53 ∧ x1 * 131 + x2 * 1117 + (p : Int) * 29 + (dv : Int) * 53 ≤ ((200000000000 : Nat) : Int) := by
 have e1 : wrap64 (dv : Int) = dv := IntWalk.wrap64_in _ ⟨by omega, by omega⟩
 have e2 : wrap64 ((dv : Int) * 53) = (dv : Int) * 53 := IntWalk.wrap64_in _ ⟨by omega, by omega⟩
 rw [e1, e2]
 exact ⟨IntWalk.wrap64_in _ ⟨by omega, by omega⟩, by omega, by omega⟩
theorem div_wrap (m : Nat) (h : m ≤ 200000000000) : wrap64 ((m : Int) / 64) = (m : Int) / 64 := IntWalk.wrap64_in _ ⟨by omega, by omega⟩
set_option maxHeartbeats 4000000 in
set_option maxRecDepth 100000 in
theorem pick_any (B r p : Nat) (n : Int) (w : World) (hp : p ≤ 1000000000) (hn : n ≤ 1000000000) (hB : B ≤ w.heap.size) (hr : Rdr B w r p) :
  Calls Try.prog 12 #[.pointer (some ⟨r, 0, none⟩), .int .i64 n] w (Picked B w r p n) := by
 have hst := hr.step (p + 1)
 obtain ⟨A, bs, c, h1, h2, h3, h4⟩ := hr
 have b0 := h1.at_ (i := 0) rfl
 have b1 := h1.at_ (i := 1) rfl
 have e1 := h1.frozen 1
 have b2 := (h1.set_ 1 (.int .i64 (p + 1 : Nat))).at_ (i := 0) rfl
 have b3 := (h1.set_ 1 (.int .i64 (p + 1 : Nat))).at_ (i := 1) rfl
 have hg : w.grownBy (w.setCell ⟨r, 1, none⟩ (.int .i64 (p + 1 : Nat))) (some r) := only_setCell (World.grownBy.refl _ _) (.inl rfl) _
 by_cases hn1 : n < 1
 ·go_enter Try.func12, Try.ntmps12
  go_wp2_with fail
  go_ret
  exact ⟨0, rfl, by omega, fun _ => rfl, hst, hg⟩
 ·by_cases hl : bs.length = 0
  ·have hq : ((bs.length : Int) == 0) = true := by simp [hl]
   have hl' := hide hl
   clear hl
   go_enter Try.func12, Try.ntmps12
   go_wp2_with fail
   go_ret
   exact ⟨0, rfl, fun h => by simp; omega, fun _ => rfl, hst, hg⟩
  ·have hq : ((bs.length : Int) == 0) = false := beq_eq_false_iff_ne.2 (by omega)
   by_cases hk : p < bs.length
   ·obtain ⟨b, off, rfl, h5, h6, h7, h8, h9⟩ := h4 p hk
    generalize bs[p] = x at *
    have h5' : (w.setCell ⟨r, 1, none⟩ (.int .i64 (p + 1 : Nat))).cell? ⟨b, off + p, none⟩ = some (.int .u8 x) := (World.cell?_of_block (w := w) (a := ⟨b, off + p, none⟩) (Below.heap_setCell w _ _ b h8)).trans h5
    go_enter Try.func12, Try.ntmps12
    go_wp2_with fail
    go_ret
    refine ⟨(x % n).toNat, ?_, fun h => ?_, fun h => (by omega), hst, hg⟩
    ·rw [Int.toNat_of_nonneg (Int.emod_nonneg _ (by omega))]; rfl
    ·rw [Int.toNat_of_nonneg (Int.emod_nonneg _ (by omega))]; exact Int.emod_lt_of_pos _ (by omega)
   ·have hlp : 0 < bs.length := by omega
    have hj1 := Nat.mod_lt p hlp
    have t1 : (p : Int).tmod (bs.length : Int) = ((p % bs.length : Nat) : Int) := by rw [Int.tmod_eq_emod_of_nonneg (by omega)]; rfl
    generalize p % bs.length = j1 at hj1 t1
    have t2 : IntKind.i64.wrap ((p : Int) * 7) = ((p * 7 : Nat) : Int) := by rw [IntWalk.i64_in _ (by omega)]; omega
    obtain ⟨q7, hq7⟩ : ∃ q7, p * 7 = q7 := ⟨_, rfl⟩
    rw [hq7] at t2
    have t3 : IntKind.i64.wrap ((q7 : Int) + 3) = ((q7 + 3 : Nat) : Int) := by rw [IntWalk.i64_in _ (by omega)]; omega
    obtain ⟨q8, hq8⟩ : ∃ q8, q7 + 3 = q8 := ⟨_, rfl⟩
    rw [hq8] at t3
    have hj2 := Nat.mod_lt q8 hlp
    have t4 : (q8 : Int).tmod (bs.length : Int) = ((q8 % bs.length : Nat) : Int) := by rw [Int.tmod_eq_emod_of_nonneg (by omega)]; rfl
    generalize q8 % bs.length = j2 at hj2 t4
    obtain ⟨ba, offa, rfl, a5, a6, a7, a8, a9⟩ := h4 j1 hj1
    obtain ⟨bb, offb, hA, c5, c6, c7, c8, c9⟩ := h4 j2 hj2
    injection hA with hA
    injection hA with hA1 hA2
    subst hA1 hA2
    generalize bs[j1] = x1 at *
    generalize bs[j2] = x2 at *
    have a5' : (w.setCell ⟨r, 1, none⟩ (.int .i64 (p + 1 : Nat))).cell? ⟨ba, offa + j1, none⟩ = some (.int .u8 x1) := (World.cell?_of_block (w := w) (a := ⟨ba, offa + j1, none⟩) (Below.heap_setCell w _ _ ba a8)).trans a5
    have c5' : (w.setCell ⟨r, 1, none⟩ (.int .i64 (p + 1 : Nat))).cell? ⟨ba, offa + j2, none⟩ = some (.int .u8 x2) := (World.cell?_of_block (w := w) (a := ⟨ba, offa + j2, none⟩) (Below.heap_setCell w _ _ ba a8)).trans c5
    have hdv := Nat.div_le_self p bs.length
    have t10 : (p : Int).tdiv (bs.length : Int) = ((p / bs.length : Nat) : Int) := by rw [Int.tdiv_eq_ediv_of_nonneg (by omega)]; rfl
    generalize p / bs.length = dv at hdv t10
    obtain ⟨hX, hX0, hX1⟩ := mix_sum x1 x2 p dv a6 a7 c6 c7 hp hdv
    obtain ⟨m8, hm8⟩ : ∃ m8 : Nat, x1 * 131 + x2 * 1117 + (p : Int) * 29 + (dv : Int) * 53 = (m8 : Int) := ⟨(x1 * 131 + x2 * 1117 + (p : Int) * 29 + (dv : Int) * 53).toNat, (Int.toNat_of_nonneg hX0).symm⟩
    rw [hm8] at hX hX0 hX1
    have hb8 : m8 ≤ 200000000000 := Int.ofNat_le.1 hX1
    clear hX0 hX1
    have t14 : wrap64 ((m8 : Int) / 64) = (m8 : Int) / 64 := div_wrap m8 hb8
    have hb9 : m8 / 64 ≤ m8 := Nat.div_le_self _ _
    have t13 : bits .xor .i64 (m8 : Int) ((m8 : Int) / 64) = ((m8 ^^^ (m8 / 64) : Nat) : Int) := by
     have := i64_xor_nat m8 (m8 / 64) (by omega) (by omega)
     rw [← this]; rfl
    generalize m8 ^^^ (m8 / 64) = m9 at t13
    have hX' := hide hX
    have T13 := hide t13
    have T14 := hide t14
    clear t13 t14
    clear hm8 hq8 hq7 h4 h1 hdv hX
    go_enter Try.func12, Try.ntmps12
    go_wp2_with fail
    refine name_world ?_
    intro wx hwx
    have r0 : wx.cell? ⟨r, 0, none⟩ = some (.slice (some ⟨ba, offa, none⟩) bs.length c) := by rw [hwx]; exact b2
    have r1 : wx.cell? ⟨ba, offa + j1, none⟩ = some (.int .u8 x1) := by rw [hwx]; exact a5'
    have r2 : wx.cell? ⟨ba, offa + j2, none⟩ = some (.int .u8 x2) := by rw [hwx]; exact c5'
    have hgx : w.grownBy wx (some r) := by rw [hwx]; exact hg
    have hsx : Rdr B wx r (p + 1) := by rw [hwx]; exact hst
    replace r0 := rule_of r0
    replace r1 := rule_of r1
    replace r2 := rule_of r2
    clear hwx hg hst a5' c5' b2 b3
    refine wp_region_firstY (fun w' => Below wx.heap.size wx w') [0, 1, 2, 3, 4, 5, 6, 7, 8, 9, 10, 11, 12, 13, 14, 15, 16, 17, 18, 19, 20, 21, 22, 23, 24, 25, 26, 27, 28, 29, 30, 31, 32, 33, 34, 35, 36, 37, 38, 39, 40, 41, 42, 43, 44, 45] [] [] [_, _, _, _, _, _, _, _, _, _, _, _, _, _, _, _, _, _, _, _, _, _, _, _, _, _, _, _, _, _, _, _, _, _, _, _, _, _, _, _, _, _, _, _, _, _] [] [] (by kernel_rfl) (by kernel_rfl) rfl rfl rfl (fun _ _ d _ _ h => by cases d <;> exact h) (Below.refl _ _).drew ?_
    repeat ((first | ((refine takeY_skip (a' := ?_) ?_ ?_ ?_); (rotate_left); (· (simp [Region.wanted, yielded]; done))) | ((refine takeY_step (v := ?_) (a' := ?_) ?_ ?_ ?_ ?_); (rotate_left 2); (· (simp [Region.wanted, yielded]; done)); (· (intro w' hS'; go_simp; try (with_reducible rfl))))); (· (simp only [List.getElem_toArray, List.getElem_cons_zero, List.getElem_cons_succ, Act.put, List.setIfInBounds_toArray, List.set_cons_zero, List.set_cons_succ]; exact rfl)))
    refine takeY_nil (then_nil ?_)
    have hX := hX'.out
    go_wp2_with fail
    go_ret
    refine ⟨(m9 % n.toNat : Nat), ?_, fun h => ?_, fun h => (by omega), hsx, only_drew hgx⟩
    ·have hc : ((m9 % n.toNat : Nat) : Int) = (m9 : Int) % n := by
      rw [Int.natCast_emod, Int.toNat_of_nonneg (by omega)]
     rw [hc]
     show Ending.returned (.int .i64 ((bits .xor .i64 (m8 : Int) (wrap64 ((m8 : Int) / 64))).tmod n)) = _
     rw [T14.out, T13.out, Int.tmod_eq_emod_of_nonneg (by omega)]
    ·have h5 := Nat.mod_lt m9 (show 0 < n.toNat by omega)
     omega
def RdY (w : World) (A : Option Addr) (bs : List Int) : Prop := ∀ j (hj : j < bs.length), ∃ b off, A = some ⟨b, off, none⟩ ∧ w.cell? ⟨b, off + j, none⟩ = some (.int .u8 bs[j]) ∧ 0 ≤ bs[j] ∧ bs[j] ≤ 255
theorem RdY.take {w : World} {A : Option Addr} {bs : List Int} (h : RdY w A bs) (n : Nat) : RdY w A (bs.take n) := fun j hj => by
 rw [List.length_take] at hj
 obtain ⟨b, off, e, h1, h2, h3⟩ := h j (by omega)
 exact ⟨b, off, e, by rw [List.getElem_take]; exact h1, by rw [List.getElem_take]; exact h2, by rw [List.getElem_take]; exact h3⟩
theorem RdY.keeps {w w' : World} {A : Option Addr} {bs : List Int} (h : RdY w A bs) (hk : Keeps w w') : RdY w' A bs := fun j hj => by
 obtain ⟨b, off, e, h1, h2, h3⟩ := h j hj
 exact ⟨b, off, e, hk _ _ h1, h2, h3⟩
theorem Rdr.new {w : World} {A : Option Addr} {bs : List Int} {c : Nat} {t : TypeId} (h : RdY w A bs) (hl : bs.length ≤ 2000) : Rdr (w.heap.size + 1) (w.alloc (.cells #[.slice A bs.length c, .int .i64 0] t)) w.heap.size 0 :=
 ⟨A, bs, c, Blk.new_ _ _ _ rfl, hl, by omega, fun j hj => by
  obtain ⟨b, off, e, h1, h2, h3⟩ := h j hj
  have hb := World.block_lt_of_cell? _ _ h1
  have hb : b < w.heap.size := hb
  exact ⟨b, off, e, Keeps.alloc _ _ _ _ h1, h2, h3, by omega, by omega⟩⟩
def Opened (w : World) (e : Ending) (w' : World) : Prop := ∃ r, e = .returned (.pointer (some ⟨r, 0, none⟩)) ∧ w.heap.size ≤ r ∧ r < w'.heap.size ∧ Rdr w'.heap.size w' r 0 ∧ Below w.heap.size w w'
theorem Rdr.mono {B B' : Nat} {w : World} {r p : Nat} (h : Rdr B w r p) (hB : B ≤ B') : Rdr B' w r p := by
 obtain ⟨A, bs, c, h1, h2, h3, h4⟩ := h
 exact ⟨A, bs, c, h1, h2, by omega, fun j hj => by obtain ⟨b, off, e, h5, h6, h7, h8, h9⟩ := h4 j hj; exact ⟨b, off, e, h5, h6, h7, h8, by omega⟩⟩
set_option maxHeartbeats 2000000 in
set_option maxRecDepth 100000 in
theorem open_any (bs : List Int) (A : Option Addr) (c : Nat) (w : World) (hl : bs.length ≤ 9223372036854775807) (hc : bs.length ≤ c) (hr : RdY w A bs) : Calls Try.prog 9 #[.slice A bs.length c] w (Opened w) := by
 by_cases h2 : bs.length ≤ 2000
 ·go_enter Try.func9, Try.ntmps9
  go_wp2_with fail
  go_ret
  exact ⟨w.heap.size, rfl, Nat.le_refl _, by simp, by simpa using Rdr.new hr h2, (Below.refl _ _).alloc (Nat.le_refl _) _⟩
 ·have hr2 := hr.take 2000
  have hl2 : (bs.take 2000).length = 2000 := by rw [List.length_take]; omega
  have hc2 : 2000 ≤ c := by omega
  generalize bs.take 2000 = bs2 at hr2 hl2
  have hl2' := hide hl2
  clear hl2
  go_enter Try.func9, Try.ntmps9
  go_wp2_with fail
  go_ret
  refine ⟨w.heap.size, rfl, Nat.le_refl _, by simp, ?_, (Below.refl _ _).alloc (Nat.le_refl _) _⟩
  have := Rdr.new (c := c) (t := 57) hr2 (by have := hl2'.out; omega)
  rw [hl2'.out] at this
  simpa using this
open Go.RowKit
def intc (xs : List Int) : Array Value := (xs.map (Value.int .i64)).toArray
theorem intc_get {xs : List Int} {j : Nat} (h : j < xs.length) : (intc xs)[j]? = some (.int .i64 xs[j]) := by simp [intc, List.getElem?_eq_getElem h]
def Drawn (B : Nat) (w : World) (r p : Nat) (xs : List Int) (e : Ending) (w' : World) : Prop :=
 ∃ x, x ∈ xs ∧ e = .returned (.int .i64 x) ∧ Rdr B w' r (p + 1) ∧ w.grownBy w' (some r)
set_option maxHeartbeats 2000000 in
set_option maxRecDepth 100000 in
theorem num_any (xs : List Int) (B r p g : Nat) (w : World) (hx : 0 < xs.length) (hx2 : xs.length ≤ 1000) (hp : p ≤ 1000000000) (hB : B ≤ w.heap.size) (hr : Rdr B w r p) (hL : Blk w g (intc xs)) (hg : r ≠ g) :
  Calls Try.prog 27 #[.pointer (some ⟨r, 0, none⟩), .slice (some ⟨g, 0, none⟩) xs.length xs.length] w (Drawn B w r p xs) := by
 go_enter Try.func27, Try.ntmps27
 go_wp2_with (go_at_call 12; refine (pick_any B r p xs.length _ hp (by omega) hB hr).mono ?_; rintro e w1 ⟨m, rfl, hm, hm0, hr1, hg1⟩; have hm := hm (by omega); clear hm0; have hm' : m < xs.length := (by omega); have hc : w1.cell? ⟨g, m, none⟩ = some (.int .i64 xs[m]) := (hL.grown hg1 (by simpa using hg.symm)).at_ (intc_get hm'))
 go_ret
 exact ⟨xs[m], List.getElem_mem hm', rfl, hr1, hg1⟩
open Go.RowKit
mutual
def hi3 : Tm → Bool
 | .mk k n ks => decide (n ≤ 3) && hi3L ks
def hi3L : List Tm → Bool
 | [] => true
 | t :: ts => hi3 t && hi3L ts
end
open Go.RowKit
theorem Rdr.lt {B r p : Nat} {w : World} (h : Rdr B w r p) : r < B := by obtain ⟨_, _, _, _, _, h, _⟩ := h; exact h
theorem Rdr.alloc' {B r p : Nat} {w : World} (h : Rdr B w r p) (hB : B ≤ w.heap.size) (o : Obj) : Rdr B (w.alloc o) r p := h.alloc hB o
open Go.RowKit
theorem own_rdp {w : World} {P : Nat → Prop} : (∀ t xs fp, OwT w t xs fp → (∀ b, b ∈ fp → P b) → ∀ g off i, P g → (∀ j u, xs[j]? = some u → w.cell? ⟨g, off + i * 3 + j, none⟩ = some u) → RdPC P w g off i t) ∧
  (∀ ts xs fp, OwX w ts xs fp → (∀ b, b ∈ fp → P b) → ∀ g off i, P g → (∀ j u, xs[j]? = some u → w.cell? ⟨g, off + i * 3 + j, none⟩ = some u) → RdP P w (some ⟨g, off, none⟩) i ts) := by
 refine Tm.ind2 (fun k n ks ih xs fp h hP g off i hg hc => ?_) (fun xs fp h hP g off i hg hc => RdP.nil) (fun t ts h1 h2 xs fp h hP g off i hg hc => ?_)
 ·obtain ⟨A, c, rfl, hl, h⟩ := OwT.iff.1 h
  refine RdPC.iff.2 ⟨hg, hc 0 _ rfl, hc 1 _ rfl, A, c, hc 2 _ rfl, hl, ?_⟩
  rcases h with ⟨rfl, rfl⟩ | ⟨g', cur, e, f, hne, rfl, hg', rfl, hx⟩
  ·exact RdP.nil
  ·refine ih _ _ hx (fun b hb => hP b (by simp [hb])) g' 0 0 (hP g' (by simp)) fun j u hu => ?_
   have e0 : 0 + 0 * 3 + j = j := by omega
   rw [e0, cell_of_row w g' j cur e (0, 0) hg']
   rw [List.getElem?_take] at hu
   split at hu
   ·simpa using hu
   ·cases hu
 ·obtain ⟨x1, x2, f1, f2, rfl, rfl, ht, hx⟩ := OwX.cons_iff.1 h
  have hl := ht.length
  refine RdP.cons_iff.2 ⟨⟨g, off, rfl, h1 _ _ ht (fun b hb => hP b (by simp [hb])) g off i hg fun j u hu => hc j u ?_⟩, h2 _ _ hx (fun b hb => hP b (by simp [hb])) g off (i + 1) hg fun j u hu => ?_⟩
  ·rw [List.getElem?_append_left (by have := (List.getElem?_eq_some_iff.1 hu).1; omega)]; exact hu
  ·have := hc (3 + j) u (by rw [List.getElem?_append_right (by omega), hl]; simpa using hu)
   rw [show off + (i + 1) * 3 + j = off + i * 3 + (3 + j) from by omega]; exact this
theorem Fresh.rdp {B : Nat} {w : World} {A : Option Addr} {ks : List Tm} (h : Fresh B w A ks) : RdP (fun b => B ≤ b ∧ b < w.heap.size) w A 0 ks := by
 obtain ⟨fp, h, hn, hge⟩ := h
 have hlt := h.lt
 rcases h with ⟨rfl, rfl⟩ | ⟨g, cur, e, f, hne, rfl, hg, rfl, hx⟩
 ·exact RdP.nil
 ·refine own_rdp.2 _ _ _ hx (fun b hb => ⟨hge b (by simp [hb]), hlt b (by simp [hb])⟩) g 0 0 ⟨hge g (by simp), hlt g (by simp)⟩ fun j u hu => ?_
  have e0 : 0 + 0 * 3 + j = j := by omega
  rw [e0, cell_of_row w g j cur e (0, 0) hg]
  rw [List.getElem?_take] at hu
  split at hu
  ·simpa using hu
  ·cases hu
open Go.RowKit
theorem name_callsC {P : Program} {f : FuncId} {args : Array Value} {w : World} {Q : Ending → World → Prop} (h : ∀ wx, wx = w → Calls P f args wx Q) : Calls P f args w Q := h w rfl
structure Fr (w : World) (k n : Int) (ks : List Tm) (A : Option Addr) (c : Nat) (ku nu : Int) (us : List Tm) (U : Option Addr) (cu : Nat) (wx : World) : Prop where
 h0 : Blk wx w.heap.size #[.int .i64 k, .int .i64 n, .slice A ks.length c]
 h1 : Blk wx (w.heap.size + 1) #[.int .i64 ku, .int .i64 nu, .slice U us.length cu]
 h2 : Blk wx (w.heap.size + 1 + 1) #[.int .i64 0, .int .i64 0, .slice none 0 0]
 hb : Below w.heap.size w wx
section
variable {w : World} {k n : Int} {ks : List Tm} {A : Option Addr} {c : Nat} {ku nu : Int} {us : List Tm} {U : Option Addr} {cu : Nat} {wx wy : World}
theorem Fr.below (h : Fr w k n ks A c ku nu us U cu wx) (hb : Below wx.heap.size wx wy) : Fr w k n ks A c ku nu us U cu wy := ⟨h.h0.keep hb, h.h1.keep hb, h.h2.keep hb, h.hb.trans (hb.mono h.hb.size)⟩
theorem Fr.alloc (h : Fr w k n ks A c ku nu us U cu wx) (o : Obj) : Fr w k n ks A c ku nu us U cu (wx.alloc o) := h.below ((Below.refl _ _).alloc (Nat.le_refl _) _)
theorem Fr.drew (h : Fr w k n ks A c ku nu us U cu wx) : Fr w k n ks A c ku nu us U cu wx.drew := h.below (Below.refl _ _).drew
theorem Fr.size (h : Fr w k n ks A c ku nu us U cu wx) : w.heap.size + 1 + 1 < wx.heap.size := h.h2.lt
theorem Fr.far (h : Fr w k n ks A c ku nu us U cu wx) (hb : Below (w.heap.size + 3) wx wy) : Fr w k n ks A c ku nu us U cu wy := ⟨h.h0.below hb (by omega), h.h1.below hb (by omega), h.h2.below hb (by omega), h.hb.trans (hb.mono (by omega))⟩
end
def EmpR (w : World) (g : Nat) : Prop := w.heap[g]? = some (.cells #[] 25 (0, 0))
theorem EmpR.new {n : Nat} (w : World) (h : n = w.heap.size) : EmpR (w.alloc (.cells #[] 25)) n := by subst h; exact heap_alloc_new w _
theorem EmpR.lt {w : World} {g : Nat} (h : EmpR w g) : g < w.heap.size := (Array.getElem?_eq_some_iff.1 h).1
theorem EmpR.alloc {w : World} {g : Nat} (h : EmpR w g) (o : Obj) : EmpR (w.alloc o) g := (Below.heap_alloc w o g h.lt).trans h
theorem EmpR.drew {w : World} {g : Nat} (h : EmpR w g) : EmpR w.drew g := h
theorem by_alloc {W w : World} (h : Below W.heap.size W w) (o : Obj) : Below W.heap.size W (w.alloc o) := h.alloc h.size o
theorem by_drew {W w : World} (h : Below W.heap.size W w) : Below W.heap.size W w.drew := h.drew
theorem by_refl (W : World) : Below W.heap.size W W := Below.refl _ _
end Go.Proofs.Ytddkehjdjfmhmaa
