/-
  Contracts of the functions that the law reaches, and plain lemmas. No condition.
-/
import Derived.Test.YtodkenpmhhbppaaK2
import Derived.Test.YtodkenpmhhbppaaK9
import Derived.Test.YtodkenpmhhbppaaK11
import Derived.Test.YtodkenpmhhbppaaK16
import Derived.Test.YtodkenpmhhbppaaK17
import Derived.Outline
namespace Go.Proofs.Ytodkenpmhhbppaa
set_option linter.unusedSimpArgs false
set_option linter.unusedVariables false
open Go.RowKit
theorem run_append_leaf {B : Nat} {w0 w1 : World} {v : Value} {ts : List Tm} (hp : Part B w0 v ts) (hb : ∀ b, B ≤ b → b < w0.heap.size → w1.heap[b]? = w0.heap[b]?) (hs : w0.heap.size ≤ w1.heap.size) (hB : B ≤ w0.heap.size) (hlen : ts.length ≤ 1099511627776) (k n : Int) (c : Nat) (ty : TypeId) :
    ∃ A' c' w', (Builtin.append_ #[23, 23] ty #[v, .slice (some ⟨w1.heap.size, 0, none⟩) 1 1]).run Try.prog (w1.alloc (.cells #[.int .i64 k, .int .i64 n, .slice none 0 c] 25)) = .ok (.slice A' (ts.length + 1) c') w' ∧
      RdP (fun b => B ≤ b ∧ (b < w0.heap.size ∨ w1.heap.size ≤ b) ∧ b < w'.heap.size) w' A' 0 (ts ++ [.mk k n []]) ∧ w1.grownBy w' v.ownBlock ∧ (∀ g, v.ownBlock = some g → B ≤ g ∧ g < w0.heap.size) := by
  obtain ⟨i, hi, hz, hz1, hz2⟩ := info_parts tm_info
  obtain ⟨xs, f, h1, h2, h3, h4, h5⟩ := hp
  have hlt : ∀ g, v.ownBlock = some g → g < w0.heap.size := fun g hg => (h1.lt g hg).2
  have hge : ∀ g, v.ownBlock = some g → B ≤ g := fun g hg => (h1.lt g hg).1
  have hfl := h2.lt
  generalize hW : w1.alloc (.cells #[.int .i64 k, .int .i64 n, .slice none 0 c] 25) = w
  have hbw : ∀ b, b < w1.heap.size → w.heap[b]? = w1.heap[b]? := fun b h => by rw [← hW]; exact Below.heap_alloc _ _ b h
  have hsw : w.heap.size = w1.heap.size + 1 := by rw [← hW]; simp
  have hcell : Blk w w1.heap.size #[.int .i64 k, .int .i64 n, .slice none 0 c] := by rw [← hW]; exact Blk.new_ _ _ _ rfl
  have k1 : w.ownsRow B 25 3 v ts.length xs := by
    refine ⟨h1.1, ?_⟩
    rcases h1.2 with hn | ⟨g, cap, cur, rfl, hb', hg, r⟩
    · exact .inl hn
    · exact .inr ⟨g, cap, cur, rfl, hb', (hbw g (by have := hlt g rfl; omega)).trans ((hb g hb' (hlt g rfl)).trans hg), r⟩
  have k2 : OwX w ts xs f := h2.frame fun b hbf => (hbw b (by have := hfl b hbf; omega)).trans (hb b (h4 b hbf) (hfl b hbf))
  have ht : OwX w [.mk k n []] [.int .i64 k, .int .i64 n, .slice none 0 c] [] := OwX.one (OwT.iff.2 ⟨none, c, rfl, by simp, .inl ⟨rfl, rfl⟩⟩)
  obtain ⟨v', w', hrun, hown, hg, _, hat⟩ := run_append_own_at (P := Try.prog) w B 23 ty 25 i _ 3 40 Try.underlying23 hi hz hz1 hz2 rfl (by omega) v ts.length xs k1 ⟨w1.heap.size, 0, none⟩ 1 1 _ ht.length (fun j u hj => by
      rw [add_zero_]; exact hcell.at_ (by simpa using hj)) ht.oneCell
    (by simp only [maxLen]; omega) (by omega) (by omega)
  have e1 : ∀ b, b ∈ f → w'.heap[b]? = w.heap[b]? := fun b hbf => hg.block b (by have := hfl b hbf; omega) (fun e => h5 b e.symm hbf)
  have k3 : OwX w' (ts ++ [.mk k n []]) (xs ++ [.int .i64 k, .int .i64 n, .slice none 0 c]) (f ++ []) := (k2.frame e1).append (ht.frame fun b hb => by cases hb)
  rw [List.append_nil] at k3
  have hgs := hg.size
  have hgr : w1.grownBy w' v.ownBlock := by
    have : w1.grownBy w v.ownBlock := by rw [← hW]; exact grownBy_alloc_ (World.grownBy.refl _ _) _
    exact grownBy_trans this hg
  obtain ⟨h6, h7⟩ := hown
  rcases h7 with ⟨_, h0⟩ | ⟨g', cap, cur, rfl, hb', hg', _, _, _, htk⟩
  · omega
  · refine ⟨_, _, w', hrun, ?_, hgr, fun g hg => ⟨hge g hg, hlt g hg⟩⟩
    have hgl' : g' < w'.heap.size := (Array.getElem?_eq_some_iff.1 hg').1
    refine own_rdp.2 _ _ _ k3 (fun b hb => ⟨h4 b hb, .inl (hfl b hb), by have := hfl b hb; omega⟩) g' 0 0 ⟨hb', ?_, hgl'⟩ fun j u hu => ?_
    · rcases hat with e | e
      · left; exact hlt g' e.symm
      · right; injection e with e; have e : g' = w.heap.size := e; omega
    · have e0 : 0 + 0 * 3 + j = j := by omega
      rw [e0, cell_of_row w' g' j cur 25 (0, 0) hg']
      rw [← htk, List.getElem?_take] at hu
      split at hu
      · simpa using hu
      · cases hu
theorem wpList_append_leaf {B : Nat} {w0 w1 : World} {v : Value} {ts : List Tm} (hp : Part B w0 v ts) (hb : ∀ b, B ≤ b → b < w0.heap.size → w1.heap[b]? = w0.heap[b]?) (hs : w0.heap.size ≤ w1.heap.size) (hB : B ≤ w0.heap.size) {m : Nat} (hm : ts.length = m) (hlen : m ≤ 1099511627776) (k n : Int) (c : Nat)
    {ops : Array Oper} {rest : List Oper} {o : Oper} {a : Act} {Q : Exit → Act → World → Prop} (hgd : o.guard = none) (s x : Operand)
    (ho : o.op = .call { callee := .builtin .append, args := #[s, x], argTypes := #[23, 23] }) (hse : a.eval s = v) (hx : a.eval x = .slice (some ⟨w1.heap.size, 0, none⟩) 1 1)
    (h : ∀ A' c' w', RdP (fun b => B ≤ b ∧ (b < w0.heap.size ∨ w1.heap.size ≤ b) ∧ b < w'.heap.size) w' A' 0 (ts ++ [.mk k n []]) → w1.grownBy w' v.ownBlock → (∀ g, v.ownBlock = some g → B ≤ g ∧ g < w0.heap.size) → wpList Try.prog ops Q rest (a.put o.dst (.slice A' (m + 1) c')) w') :
    wpList Try.prog ops Q (o :: rest) a (w1.alloc (.cells #[.int .i64 k, .int .i64 n, .slice none 0 c] 25)) := by
  subst hm
  refine wpList_plain hgd fun K hK => ?_
  obtain ⟨A', c', w', hrun, h2, h3, h4⟩ := run_append_leaf hp hb hs hB hlen k n c o.type
  unfold Oper.wp execOp
  simp only [ho, resolve, invoke, builtin, Sem.run_bind, Sem.run_pure, Result.andThen_ok, List.map_toArray, List.map_cons, List.map_nil, hse, hx, hrun]
  exact hK _ _ (h A' c' w' h2 h3 h4)
theorem cell_set_ne {w : World} {g j q : Nat} (u : Value) (h : j ≠ q) : (w.setCell ⟨g, q, none⟩ u).cell? ⟨g, j, none⟩ = w.cell? ⟨g, j, none⟩ :=
  World.cell?_setCell_other w ⟨g, q, none⟩ ⟨g, j, none⟩ u (fun e => by injection e with _ e; omega)
/-- the first operand may be replaced by one without operands -/
theorem Part.head_set {B : Nat} {w : World} {v : Value} {t : Tm} {ts : List Tm} (hp : Part B w v (t :: ts)) : ∃ g cap, v = .slice (some ⟨g, 0, none⟩) (ts.length + 1) cap ∧ B ≤ g ∧ g < w.heap.size ∧
    ∀ W : World, (∀ b, B ≤ b → b < w.heap.size → W.heap[b]? = w.heap[b]?) → (∃ u0 u1 u2, W.cell? ⟨g, 0, none⟩ = some u0 ∧ W.cell? ⟨g, 1, none⟩ = some u1 ∧ W.cell? ⟨g, 2, none⟩ = some u2) ∧ (∀ j, W.frozen? ⟨g, j, none⟩ = false) ∧
      ∀ (k n : Int) (c : Nat), RdP (fun b => B ≤ b ∧ b < w.heap.size) (((W.setCell ⟨g, 0, none⟩ (.int .i64 k)).setCell ⟨g, 1, none⟩ (.int .i64 n)).setCell ⟨g, 2, none⟩ (.slice none 0 c)) (some ⟨g, 0, none⟩) 0 (.mk k n [] :: ts) := by
  obtain ⟨xs, f, h1, h2, h3, h4, h5⟩ := hp
  have hfl := h2.lt
  rcases h1.2 with ⟨_, h0⟩ | ⟨g, cap, cur, rfl, hb, hg, hn, _, hsz, htk⟩
  · simp at h0
  have hgl : g < w.heap.size := (Array.getElem?_eq_some_iff.1 hg).1
  have hxl := h2.length
  refine ⟨g, cap, by simp, hb, hgl, fun W hW => ?_⟩
  have hgW : W.heap[g]? = some (.cells cur 25 (0, 0)) := (hW g hb hgl).trans hg
  have hcells : ∀ j u, xs[j]? = some u → W.cell? ⟨g, j, none⟩ = some u := fun j u hu => by
    rw [cell_of_row W g j cur 25 (0, 0) hgW]
    rw [← htk, List.getElem?_take] at hu
    split at hu
    · simpa using hu
    · cases hu
  simp only [List.length_cons] at hxl
  have g3 : ∀ j, j < 3 → ∃ u, W.cell? ⟨g, j, none⟩ = some u := fun j hj => ⟨xs[j]'(by omega), hcells j _ (List.getElem?_eq_getElem (by omega))⟩
  obtain ⟨u0, c0⟩ := g3 0 (by omega)
  obtain ⟨u1, c1⟩ := g3 1 (by omega)
  obtain ⟨u2, c2⟩ := g3 2 (by omega)
  refine ⟨⟨u0, u1, u2, c0, c1, c2⟩, fun j => by simp [World.frozen?, hgW], fun k n c => ?_⟩
  obtain ⟨x1, x2, f1, f2, rfl, rfl, ht, hx⟩ := OwX.cons_iff.1 h2
  have hgf : g ∉ f1 ++ f2 := h5 g rfl
  have hx1 := ht.length
  have far : ∀ b, b ≠ g → (((W.setCell ⟨g, 0, none⟩ (.int .i64 k)).setCell ⟨g, 1, none⟩ (.int .i64 n)).setCell ⟨g, 2, none⟩ (.slice none 0 c)).heap[b]? = W.heap[b]? := fun b hbg => by
    rw [Below.heap_setCell _ _ _ _ hbg, Below.heap_setCell _ _ _ _ hbg, Below.heap_setCell _ _ _ _ hbg]
  have hx' : OwX (((W.setCell ⟨g, 0, none⟩ (.int .i64 k)).setCell ⟨g, 1, none⟩ (.int .i64 n)).setCell ⟨g, 2, none⟩ (.slice none 0 c)) (.mk k n [] :: ts) ([.int .i64 k, .int .i64 n, .slice none 0 c] ++ x2) ([] ++ f2) :=
    OwX.cons_iff.2 ⟨_, _, _, _, rfl, rfl, OwT.iff.2 ⟨none, c, rfl, by simp, .inl ⟨rfl, rfl⟩⟩, hx.frame fun b hbf => (far b (fun e => hgf (by subst e; simp [hbf]))).trans (hW b (h4 b (by simp [hbf])) (hfl b (by simp [hbf])))⟩
  refine own_rdp.2 _ _ _ hx' (fun b hbf => ⟨h4 b (by simp at hbf; simp [hbf]), hfl b (by simp at hbf; simp [hbf])⟩) g 0 0 ⟨hb, hgl⟩ fun j u hu => ?_
  have e0 : 0 + 0 * 3 + j = j := by omega
  rw [e0]
  have hBk : Blk W g cur := ⟨25, hgW⟩
  have hc3 : 3 ≤ cur.size := by rw [hsz]; simp only [List.length_cons] at hn; omega
  have hB3 := ((hBk.set_ 0 (.int .i64 k)).set_ 1 (.int .i64 n)).set_ 2 (.slice none 0 c)
  match j, hu with
  | 0, hu =>
    simp only [List.cons_append, List.getElem?_cons_zero] at hu
    rw [hB3.cell 0, ← hu]; simp [Array.getElem?_setIfInBounds]; intro h0; subst h0; simp at hc3
  | 1, hu =>
    simp only [List.cons_append, List.getElem?_cons_succ, List.getElem?_cons_zero] at hu
    rw [hB3.cell 1, ← hu]; simp [Array.getElem?_setIfInBounds]; omega
  | 2, hu =>
    simp only [List.cons_append, List.getElem?_cons_succ, List.getElem?_cons_zero] at hu
    rw [hB3.cell 2, ← hu]; simp [Array.getElem?_setIfInBounds]; omega
  | j + 3, hu =>
    rw [cell_set_ne _ (by omega), cell_set_ne _ (by omega), cell_set_ne _ (by omega)]
    refine hcells (j + 3) u ?_
    rw [List.getElem?_append_right (by omega), hx1]
    simpa using hu
open Go.RowKit
/-- a term that has been drawn: it can be read, in blocks that are new -/
def DrawnR (B : Nat) (w : World) (r p q s D : Nat) (e : Ending) (w' : World) : Prop :=
  ∃ (k n : Int) (ks : List Tm) (A : Option Addr) (c p' : Nat), e = .returned (.agg #[.int .i64 k, .int .i64 n, .slice A ks.length c]) ∧ ks.length ≤ 9223372036854775807 ∧ sizes ks + 1 ≤ s ∧ (validT (.mk k n ks) = true → hid D (.mk k n ks) = true) ∧ p' ≤ p + q ∧ RdP (fun b => w.heap.size ≤ b ∧ b < w'.heap.size) w' A 0 ks ∧ Rdr B w' r p' ∧ w.grownBy w' (some r)
set_option maxHeartbeats 8000000 in
set_option maxRecDepth 100000 in
theorem mutate_any (B r p D : Nat) (k n : Int) (ks : List Tm) (A : Option Addr) (c : Nat) (w : World) (hp : p ≤ 900000000) (hB : B ≤ w.heap.size) (hr : Rdr B w r p) (hM : sizes ks ≤ 1000000) (h3 : hid (D + 1) (.mk k n ks) = true) (hrk : Rd w A 0 ks) :
    Calls Try.prog 54 #[.pointer (some ⟨r, 0, none⟩), .agg #[.int .i64 k, .int .i64 n, .slice A ks.length c]] w (DrawnR B w r p 2 (sizes ks + 3) (D + 2)) := by
  have hrl := hr.lt
  have h3h := hide h3
  clear h3
  have hlen := length_le_sizes ks
  go_enter Try.func54, Try.ntmps54
  go_wp2_with (go_at_call 99; refine (sCopyV_any _ k n ks A c _ (Nat.lt_succ_self _) (by omega) ((hrk.alloc _).alloc _)).mono ?_; rintro e w2 ⟨v, rfl, hl2, hq, hb2⟩; obtain ⟨A1, c1, rfl⟩ := hq.shape; have hZ : Blk w2 (w.heap.size + 1) #[.int .i64 0, .int .i64 0, .slice none 0 0] := (Blk.new_ (w.alloc (.cells #[.int .i64 k, .int .i64 n, .slice A ks.length c] 25)) 25 #[.int .i64 0, .int .i64 0, .slice none 0 0] (by simp)).keep hb2; have g2 : w.grownBy w2 (some r) := only_below (only_alloc (only_alloc (World.grownBy.refl _ _) _) _) hb2; have s2 : w.heap.size + 1 + 1 ≤ w2.heap.size := (by have := hb2.size; simpa using this); have hr2 : Rdr B w2 r p := ((hr.alloc (by omega) _).alloc (by simp; omega) _).below hb2 (by simp; omega); replace hq := hq.mono (B' := w.heap.size + 2) (by simp))
  refine (pick_any B r p 50 _ (by omega) (by omega) (by simp; omega) (hr2.alloc (by omega) _)).mono ?_
  rintro e w3 ⟨m, rfl, hm, hm0, hr3, hg3⟩
  clear hm hm0
  have hX := (Blk.new_ w2 25 #[.int .i64 k, .int .i64 n, .slice A1 ks.length c1] rfl).grown hg3 (by simp; omega)
  replace hZ := (hZ.alloc (.cells #[.int .i64 k, .int .i64 n, .slice A1 ks.length c1] 25)).grown hg3 (by simp; omega)
  have hfr : ∀ b, w.heap.size + 2 ≤ b → b < w2.heap.size → w3.heap[b]? = w2.heap[b]? := fun b h1 h2 => (hg3.block b (by simp; omega) (by simp; omega)).trans (Below.heap_alloc _ _ b h2)
  have g3 := grown_trans (only_alloc g2 _) hg3
  have s3 : w2.heap.size + 1 ≤ w3.heap.size := by have := hg3.size; simpa using this
  have lx := hX.lt
  have lz := hZ.lt
  have hq3 : RdP (fun b => w.heap.size + 2 ≤ b ∧ b < w2.heap.size) w3 A1 0 ks := by
    obtain ⟨A', c', e, hf⟩ := hq.fresh
    injection e with e1
    subst e1
    exact hf.rdp.blocks fun b h1 h2 => hfr b h1.1 h1.2
  have x0 := hX.at_ (i := 0) rfl
  have x1 := hX.at_ (i := 1) rfl
  have x2 := hX.at_ (i := 2) rfl
  have d0 := hZ.at_ (i := 0) rfl
  have d1 := hZ.at_ (i := 1) rfl
  have d2 := hZ.at_ (i := 2) rfl
  have e0 := hZ.frozen 0
  have e1 := hZ.frozen 1
  have e2 := hZ.frozen 2
  have hne : r ≠ w2.heap.size := by omega
  by_cases m0 : m = 0
  · subst m0
    go_wp2_with (go_at_call 76; refine (num_any [0, 17, 1, 5, 6] B r (p + 1) w3.heap.size _ (by decide) (by decide) (by omega) (by simp; omega) (hr3.alloc (by omega) _) (Blk.new_ _ 3 _ rfl) (by omega)).mono ?_; rintro e w4 ⟨x, hx, rfl, hr4, hg4⟩; clear d0 d1 d2 e0 e1 e2 x0 x1 x2; replace hX := (hX.alloc (.cells (intc [0, 17, 1, 5, 6]) 3)).grown hg4 (by simp; omega); replace hZ := (hZ.alloc (.cells (intc [0, 17, 1, 5, 6]) 3)).grown hg4 (by simp; omega); replace hq3 := (hq3.alloc (.cells (intc [0, 17, 1, 5, 6]) 3)).blocks (w' := w4) (fun b h1 h2 => hg4.block b h2 (by simp; omega)); have g4 := grown_trans (only_alloc g3 _) hg4; have s4 : w3.heap.size + 1 ≤ w4.heap.size := (by have := hg4.size; simpa using this); have lx4 := hX.lt; have lz4 := hZ.lt; have x0 := hX.at_ (i := 0) rfl; have x1 := hX.at_ (i := 1) rfl; have x2 := hX.at_ (i := 2) rfl; have f0 := hX.frozen 0; have f1 := hX.frozen 1; have d0 := hZ.at_ (i := 0) rfl; have d1 := hZ.at_ (i := 1) rfl; have d2 := hZ.at_ (i := 2) rfl; have e0 := hZ.frozen 0; have e1 := hZ.frozen 1; have e2 := hZ.frozen 2)
    refine bodyPost_ret (v := .agg #[.int .i64 x, .int .i64 n, .slice A1 ks.length c1]) (by simp [results, Try.results54, go_sem, d0, d1, d2]) rfl ⟨x, n, ks, A1, c1, p + 1 + 1, rfl, hl2, by omega, (fun _ => by have h := hid_up (b := D + 2) (by omega) h3h.out; rw [hid] at h ⊢; exact h), by omega, ?_, ?_, ?_⟩
    · exact ((((hq3.setCell (a := ⟨w2.heap.size, 0, none⟩) (by simp) _).setCell (by simp) _).setCell (by simp) _).setCell (by simp) _).mono fun b h => ⟨by omega, by simp; omega⟩
    · exact (((hr4.setCell (a := ⟨w2.heap.size, 0, none⟩) (by simp; omega) _).setCell (by simp; omega) _).setCell (by simp; omega) _).setCell (by simp; omega) _
    · exact only_setCell (only_setCell (only_setCell (only_setCell g4 (p := ⟨w2.heap.size, 0, none⟩) (.inr (by simp; omega)) _) (.inr (by simp)) _) (.inr (by simp)) _) (.inr (by simp)) _

  by_cases m1 : m = 1
  · subst m1
    go_wp2_with (go_at_call 76; refine (num_any [21, -1, 1, 9223372036854775807] B r (p + 1) w3.heap.size _ (by decide) (by decide) (by omega) (by simp; omega) (hr3.alloc (by omega) _) (Blk.new_ _ 3 _ rfl) (by omega)).mono ?_; rintro e w4 ⟨x, hx, rfl, hr4, hg4⟩; clear d0 d1 d2 e0 e1 e2 x0 x1 x2; replace hX := (hX.alloc (.cells (intc [21, -1, 1, 9223372036854775807]) 3)).grown hg4 (by simp; omega); replace hZ := (hZ.alloc (.cells (intc [21, -1, 1, 9223372036854775807]) 3)).grown hg4 (by simp; omega); replace hq3 := (hq3.alloc (.cells (intc [21, -1, 1, 9223372036854775807]) 3)).blocks (w' := w4) (fun b h1 h2 => hg4.block b h2 (by simp; omega)); have g4 := grown_trans (only_alloc g3 _) hg4; have s4 : w3.heap.size + 1 ≤ w4.heap.size := (by have := hg4.size; simpa using this); have lx4 := hX.lt; have lz4 := hZ.lt; have x0 := hX.at_ (i := 0) rfl; have x1 := hX.at_ (i := 1) rfl; have x2 := hX.at_ (i := 2) rfl; have f0 := hX.frozen 0; have f1 := hX.frozen 1; have d0 := hZ.at_ (i := 0) rfl; have d1 := hZ.at_ (i := 1) rfl; have d2 := hZ.at_ (i := 2) rfl; have e0 := hZ.frozen 0; have e1 := hZ.frozen 1; have e2 := hZ.frozen 2)
    refine bodyPost_ret (v := .agg #[.int .i64 k, .int .i64 x, .slice A1 ks.length c1]) (by simp [results, Try.results54, go_sem, d0, d1, d2]) rfl ⟨k, x, ks, A1, c1, p + 1 + 1, rfl, hl2, by omega, (fun hv => by have h := hid_up (b := D + 2) (by omega) h3h.out; rw [hid, Bool.and_eq_true] at h ⊢; exact ⟨decide_eq_true (by have := valid_n20 hv; simp only [List.mem_cons, List.not_mem_nil, or_false] at hx; omega), h.2⟩), by omega, ?_, ?_, ?_⟩
    · exact ((((hq3.setCell (a := ⟨w2.heap.size, 1, none⟩) (by simp) _).setCell (by simp) _).setCell (by simp) _).setCell (by simp) _).mono fun b h => ⟨by omega, by simp; omega⟩
    · exact (((hr4.setCell (a := ⟨w2.heap.size, 1, none⟩) (by simp; omega) _).setCell (by simp; omega) _).setCell (by simp; omega) _).setCell (by simp; omega) _
    · exact only_setCell (only_setCell (only_setCell (only_setCell g4 (p := ⟨w2.heap.size, 1, none⟩) (.inr (by simp; omega)) _) (.inr (by simp)) _) (.inr (by simp)) _) (.inr (by simp)) _

  have q0 : ((m : Int) == 0) = false := beq_eq_false_iff_ne.2 (by omega)
  have q1 : ((m : Int) == 1) = false := beq_eq_false_iff_ne.2 (by omega)
  by_cases m2 : m = 2
  · subst m2
    have x2r := hX.rule (i := 2) rfl
    go_wp2_with fail
    refine wp_region_firstY (fun w' => Below w3.heap.size w3 w') [0, 1] [2, 3] [4, 5, 6] [_, _] [_, _] [_, _, _] (by kernel_rfl) (by kernel_rfl) rfl rfl rfl (fun _ _ d _ _ h => by cases d <;> exact h) (Below.refl _ _).drew ?_
    repeat (first | ((refine takeY_skip (a' := ?_) ?_ ?_ ?_); (rotate_left); (· (simp [Region.wanted, yielded]; done)); (· (simp only [List.getElem_toArray, List.getElem_cons_zero, List.getElem_cons_succ, Act.put, List.setIfInBounds_toArray, List.set_cons_zero, List.set_cons_succ]; exact rfl))) | ((refine takeY_step (v := ?_) (a' := ?_) ?_ ?_ ?_ ?_); (rotate_left 2); (· (simp [Region.wanted, yielded]; done)); (· (intro w' hS'; go_simp; try (with_reducible rfl))); (· (simp only [List.getElem_toArray, List.getElem_cons_zero, List.getElem_cons_succ, Act.put, List.setIfInBounds_toArray, List.set_cons_zero, List.set_cons_succ]; exact rfl))))
    refine takeY_nil (then_cons ?_)
    go_wp2_with (go_at_call 98; refine (sLeaf_any _ _ _).mono ?_; rintro e w4 ⟨rfl, hb4⟩)
    have hx1 : Below w3.heap.size w3 w4 := (Below.refl _ _).drew.trans hb4
    have s4 := hx1.size
    refine mid_intro hx1 (then_cons ?_)
    go_wp2_with fail
    refine mid_intro (hx1.alloc hx1.size _) (then_nil ?_)
    refine wpList_append_leaf hq (fun b h1 h2 => (hx1.block b (by omega)).trans (hfr b h1 h2)) (by omega) (by omega) (m := ks.length) rfl (by omega) 7 0 0 rfl (.tmp 25) (.tmp 27) rfl rfl rfl ?_
    intro A2 c2 w5 hrd hg5 hown
    have hvo : ∀ g, (Value.slice A1 ks.length c1).ownBlock = some g → w.heap.size + 2 ≤ g ∧ g < w2.heap.size := hown
    have hX5 := (hX.keep hx1).grown hg5 (fun e => by have := hvo _ e.symm; omega)
    have hZ5 := (hZ.keep hx1).grown hg5 (fun e => by have := hvo _ e.symm; omega)
    have s5 := hg5.size
    have r5 : Rdr B w5 r (p + 1) := (hr3.below hx1 (by omega)).keep fun b hb => hg5.block b (by omega) (fun e => by have := hvo _ e.symm; omega)
    have g5 : w.grownBy w5 (some r) := ⟨hg5.os.trans ((only_below g3 hx1).os), hg5.tape.trans ((only_below g3 hx1).tape), hg5.output.trans ((only_below g3 hx1).output), by have := g3.size; omega, fun b hb hn => (hg5.block b (by have := g3.size; omega) (fun e => by have := hvo _ e.symm; omega)).trans ((only_below g3 hx1).block b hb hn)⟩
    clear x0 x1 x2 d0 d1 d2 e0 e1 e2 x2r
    have x0 := hX5.at_ (i := 0) rfl
    have x1 := hX5.at_ (i := 1) rfl
    have x2 := hX5.at_ (i := 2) rfl
    have f2 := hX5.frozen 2
    have d0 := hZ5.at_ (i := 0) rfl
    have d1 := hZ5.at_ (i := 1) rfl
    have d2 := hZ5.at_ (i := 2) rfl
    have e0 := hZ5.frozen 0
    have e1 := hZ5.frozen 1
    have e2 := hZ5.frozen 2
    have lx5 := hX5.lt
    have lz5 := hZ5.lt
    go_wp2_with fail
    refine bodyPost_ret (v := .agg #[.int .i64 k, .int .i64 n, .slice A2 (ks.length + 1) c2]) (by simp [results, Try.results54, go_sem, d0, d1, d2]) rfl ⟨k, n, ks ++ [.mk 7 0 []], A2, c2, p + 1, by simp, by simp; omega, by simp [sizes_append, sizes, Tm.size], (fun _ => by have h := hid_up (b := D + 2) (by omega) h3h.out; rw [hid, Bool.and_eq_true] at h ⊢; exact ⟨h.1, by rw [List.all_append, h.2, List.all_cons, hid]; rfl⟩), by omega, ?_, ?_, ?_⟩
    · exact ((((hrd.setCell (a := ⟨w2.heap.size, 2, none⟩) (by simp; omega) _).setCell (by simp) _).setCell (by simp) _).setCell (by simp) _).mono fun b h => ⟨by omega, by simp; omega⟩
    · exact (((r5.setCell (a := ⟨w2.heap.size, 2, none⟩) (by simp; omega) _).setCell (by simp; omega) _).setCell (by simp; omega) _).setCell (by simp; omega) _
    · exact only_setCell (only_setCell (only_setCell (only_setCell g5 (p := ⟨w2.heap.size, 2, none⟩) (.inr (by simp; omega)) _) (.inr (by simp)) _) (.inr (by simp)) _) (.inr (by simp)) _
  have q2 : ((m : Int) == 2) = false := beq_eq_false_iff_ne.2 (by omega)
  by_cases m3 : m = 3
  · subst m3
    obtain ⟨A', c', e, hf⟩ := hq.fresh
    injection e with e1 e2 e3
    subst e1 e3
    clear e2
    obtain ⟨fp, hO, hnd, hge⟩ := (hf.keep (w' := w3) hfr).node hl2 k n c1
    go_wp2_with (go_at_call 100; refine (l1Node_any (B := w.heap.size + 2) (us := [.mk k n ks]) _ (by simp; omega) (hO.alloc _) hnd hge (by simp) _ 1 (Blk.new_ _ 25 _ rfl)).mono ?_; rintro e w4 ⟨A2, c2, rfl, hf4, hb4⟩; replace hZ := (hZ.alloc _).keep hb4; clear d0 d1 d2 e0 e1 e2; have d0 := hZ.at_ (i := 0) rfl; have d1 := hZ.at_ (i := 1) rfl; have d2 := hZ.at_ (i := 2) rfl; have e0 := hZ.frozen 0; have e1 := hZ.frozen 1; have e2 := hZ.frozen 2)
    have s4 : w3.heap.size + 1 ≤ w4.heap.size := by have := hb4.size; simpa using this
    have r4 := (hr3.alloc (by omega) (.cells #[.int .i64 k, .int .i64 n, .slice A1 ks.length c1] 25)).below hb4 (by simp; omega)
    have g4 := only_below (only_alloc g3 (.cells #[.int .i64 k, .int .i64 n, .slice A1 ks.length c1] 25)) hb4
    refine bodyPost_ret (v := .agg #[.int .i64 8, .int .i64 0, .slice A2 1 c2]) (by simp [results, Try.results54, go_sem, d0, d1, d2]) rfl ⟨8, 0, [.mk k n ks], A2, c2, p + 1, rfl, by simp, by simp [sizes, Tm.size], (fun _ => by rw [hid, List.all_cons, h3h.out]; rfl), by omega, ?_, ?_, ?_⟩
    · exact (((hf4.rdp.setCell (by simp) _).setCell (by simp) _).setCell (by simp) _).mono fun b h => ⟨by omega, by simp; omega⟩
    · exact ((r4.setCell (by simp; omega) _).setCell (by simp; omega) _).setCell (by simp; omega) _
    · exact only_setCell (only_setCell (only_setCell g4 (.inr (by simp)) _) (.inr (by simp)) _) (.inr (by simp)) _
  have q3 : ((m : Int) == 3) = false := beq_eq_false_iff_ne.2 (by omega)
  by_cases m4 : m = 4
  · subst m4
    cases ks with
    | nil =>
      go_wp2_with fail
      refine bodyPost_ret (v := .agg #[.int .i64 k, .int .i64 n, .slice A1 0 c1]) (by simp [results, Try.results54, go_sem, d0, d1, d2]) rfl ⟨k, n, [], A1, c1, p + 1, rfl, hl2, by omega, (fun _ => hid_up (by omega) h3h.out), by omega, ?_, ?_, ?_⟩
      · exact ((((hq3).setCell (by simp) _).setCell (by simp) _).setCell (by simp) _).mono fun b h => ⟨by omega, by simp; omega⟩
      · exact (((hr3).setCell (by simp; omega) _).setCell (by simp; omega) _).setCell (by simp; omega) _
      · exact only_setCell (only_setCell (only_setCell (g3) (.inr (by simp)) _) (.inr (by simp)) _) (.inr (by simp)) _
    | cons t ts =>
      obtain ⟨g, cap, hv, hgB, hgl, hW⟩ := hq.head_set
      injection hv with hv1 hv2 hv3
      subst hv1 hv3
      clear hv2
      simp only [List.length_cons] at hlen hl2 x2
      have hpos : 0 < ts.length + 1 := by omega
      have x2r := hX.rule (i := 2) rfl
      simp only [List.length_cons] at x2r
      go_wp2_with fail
      refine wp_region_firstY (fun w' => Below w3.heap.size w3 w') [0, 1] [2] [3, 4] [_, _] [_] [_, _] (by kernel_rfl) (by kernel_rfl) rfl rfl rfl (fun _ _ d _ _ h => by cases d <;> exact h) (Below.refl _ _).drew ?_
      repeat (first | ((refine takeY_skip (a' := ?_) ?_ ?_ ?_); (rotate_left); (· (simp [Region.wanted, yielded]; done)); (· (simp only [List.getElem_toArray, List.getElem_cons_zero, List.getElem_cons_succ, Act.put, List.setIfInBounds_toArray, List.set_cons_zero, List.set_cons_succ]; exact rfl))) | ((refine takeY_step (v := ?_) (a' := ?_) ?_ ?_ ?_ ?_); (rotate_left 2); (· (simp [Region.wanted, yielded]; done)); (· (intro w' hS'; go_simp; try (with_reducible rfl))); (· (simp only [List.getElem_toArray, List.getElem_cons_zero, List.getElem_cons_succ, Act.put, List.setIfInBounds_toArray, List.set_cons_zero, List.set_cons_succ]; exact rfl))))
      refine takeY_nil (then_cons ?_)
      go_wp2_with (go_at_call 98; refine (sLeaf_any _ _ _).mono ?_; rintro e w4 ⟨rfl, hb4⟩)
      have hx1 : Below w3.heap.size w3 w4 := (Below.refl _ _).drew.trans hb4
      have s4 := hx1.size
      refine mid_intro hx1 (then_nil ?_)
      obtain ⟨⟨u0, u1, u2, y0, y1, y2⟩, yf, hset⟩ := hW w4 (fun b h1 h2 => (hx1.block b (by omega)).trans (hfr b h1 h2))
      have yf0 := yf 0
      have yf1 := yf 1
      have yf2 := yf 2
      have hset' := hset 1 25 0
      have hX4 := hX.keep hx1
      have hZ4 := hZ.keep hx1
      have r4 := hr3.below hx1 (by omega)
      have g4 := only_below g3 hx1
      clear x0 x1 x2 d0 d1 d2 e0 e1 e2 x2r hset yf
      have x0 := hX4.at_ (i := 0) rfl
      have x1 := hX4.at_ (i := 1) rfl
      have x2 := hX4.at_ (i := 2) rfl
      have d0 := hZ4.at_ (i := 0) rfl
      have d1 := hZ4.at_ (i := 1) rfl
      have d2 := hZ4.at_ (i := 2) rfl
      have e0 := hZ4.frozen 0
      have e1 := hZ4.frozen 1
      have e2 := hZ4.frozen 2
      simp only [List.length_cons] at x2
      have n1 : g ≠ w2.heap.size := by omega
      have n2 : g ≠ w.heap.size + 1 := by omega
      have n3 : w2.heap.size ≠ g := by omega
      have n4 : w.heap.size + 1 ≠ g := by omega
      have hs : g ≠ r := by omega
      go_wp2_with fail
      refine bodyPost_ret (v := .agg #[.int .i64 k, .int .i64 n, .slice (some ⟨g, 0, none⟩) (ts.length + 1) c1]) (by simp [results, Try.results54, go_sem, d0, d1, d2, n1, n2, n3, n4]) rfl ⟨k, n, .mk 1 25 [] :: ts, some ⟨g, 0, none⟩, c1, p + 1, by simp, by simp; omega, by simp [sizes, Tm.size]; omega, (fun hv => absurd (valid_n20 (validT_kid hv List.mem_cons_self)) (by omega)), by omega, ?_, ?_, ?_⟩
      · exact (((hset'.setCell (by simp) _).setCell (by simp) _).setCell (by simp) _).mono fun b h => ⟨by omega, by simp; omega⟩
      · exact (((((r4.setCell (by simp; omega) _).setCell (by simp; omega) _).setCell (by simp; omega) _).setCell (by simp; omega) _).setCell (by simp; omega) _).setCell (by simp; omega) _
      · exact only_setCell (only_setCell (only_setCell (only_setCell (only_setCell (only_setCell g4 (.inr (by simp; omega)) _) (.inr (by simp; omega)) _) (.inr (by simp; omega)) _) (.inr (by simp)) _) (.inr (by simp)) _) (.inr (by simp)) _
  have q4 : ((m : Int) == 4) = false := beq_eq_false_iff_ne.2 (by omega)
  · go_wp2_with fail
    refine bodyPost_ret (v := .agg #[.int .i64 k, .int .i64 n, .slice A1 ks.length c1]) (by simp [results, Try.results54, go_sem, d0, d1, d2]) rfl ⟨k, n, ks, A1, c1, p + 1, rfl, hl2, by omega, (fun _ => hid_up (by omega) h3h.out), by omega, ?_, ?_, ?_⟩
    · exact ((((hq3).setCell (by simp) _).setCell (by simp) _).setCell (by simp) _).mono fun b h => ⟨by omega, by simp; omega⟩
    · exact (((hr3).setCell (by simp; omega) _).setCell (by simp; omega) _).setCell (by simp; omega) _
    · exact only_setCell (only_setCell (only_setCell (g3) (.inr (by simp)) _) (.inr (by simp)) _) (.inr (by simp)) _
open Go.RowKit
/-- a pattern and a number of holes, drawn -/
def DrawnP (B : Nat) (w : World) (r p : Nat) (e : Ending) (w' : World) : Prop :=
  ∃ (k n : Int) (ks : List Tm) (z : Int) (A : Option Addr) (c : Nat), .mk k n ks ∈ pats ∧ z ∈ ([1, 2, 3, 0, 2] : List Int) ∧ e = .returned (.tuple #[.agg #[.int .i64 k, .int .i64 n, .slice A ks.length c], .int .i64 z]) ∧ ks.length ≤ 9223372036854775807 ∧
    RdP (fun b => w.heap.size ≤ b ∧ b < w'.heap.size) w' A 0 ks ∧ Rdr B w' r (p + 2) ∧ w.grownBy w' (some r)
set_option maxHeartbeats 8000000 in
set_option maxRecDepth 100000 in
theorem pattern_any (B r p : Nat) (w : World) (hp : p ≤ 900000000) (hB : B ≤ w.heap.size) (hr : Rdr B w r p) : Calls Try.prog 51 #[.pointer (some ⟨r, 0, none⟩)] w (DrawnP B w r p) := by
  have hrl := hr.lt
  have hpl : pats.length = 10 := rfl
  go_enter Try.func51, Try.ntmps51
  go_wp2_with (go_at_call 65; refine (read_any pats patsX rfl (by decide) pats_good.at_ (w.heap.size + 1) _ (Blk.new_ _ 9 (strs patsX) (by simp))).mono ?_; rintro e w2 ⟨A2, c2, rfl, hf2, hb2⟩; have hZ : Blk w2 w.heap.size #[.int .i64 0, .int .i64 0, .slice none 0 0] := ((Blk.new_ w 25 #[.int .i64 0, .int .i64 0, .slice none 0 0] rfl).alloc _).keep hb2; have g2 : w.grownBy w2 (some r) := only_below (only_alloc (only_alloc (World.grownBy.refl _ _) _) _) hb2; have s2 : w.heap.size + 1 + 1 ≤ w2.heap.size := (by have := hb2.size; simpa using this); have hr2 : Rdr B w2 r p := ((hr.alloc (by omega) _).alloc (by simp; omega) _).below hb2 (by simp; omega); have hf := hf2.rdp)
  refine (pick_any B r p 10 _ (by omega) (by omega) (by omega) hr2).mono ?_
  rintro e w3 ⟨m, rfl, hm, hm0, hr3, hg3⟩
  have hm := hm (by omega)
  clear hm0
  have hm' : m < pats.length := by omega
  have g3 := grown_trans g2 hg3
  have s3 := hg3.size
  replace hZ := hZ.grown hg3 (by simp; omega)
  obtain ⟨b, off, k, n, ks, A', c', rfl, hk, y0, y1, y2, hlk, hrk⟩ := (hf.grown hg3 (fun b hb => by have := hb.1; simp at this; simp; omega)).at_ hm'
  have hmem := hide (show Tm.mk k n ks ∈ pats from hk ▸ List.getElem_mem hm')
  clear hk
  replace hrk := hrk.mono (q := fun b => w.heap.size + 2 ≤ b ∧ b < w3.heap.size) (fun b hb => ⟨by have := hb.1; simp at this; omega, by omega⟩)
  have bl : b < w3.heap.size := World.block_lt_of_cell? _ _ y0
  have lz := hZ.lt
  go_wp2_with fail
  refine name_world ?_
  intro wx hwx
  have hX : Blk wx w3.heap.size #[.int .i64 k, .int .i64 n, .slice A' ks.length c'] := by rw [hwx]; exact Blk.new_ _ _ _ rfl
  have hZx : Blk wx w.heap.size #[.int .i64 0, .int .i64 0, .slice none 0 0] := by rw [hwx]; exact hZ.alloc _
  have hrx : Rdr B wx r (p + 1) := by rw [hwx]; exact hr3.alloc (by omega) _
  have hkx : RdP (fun b => w.heap.size + 2 ≤ b ∧ b < w3.heap.size) wx A' 0 ks := by rw [hwx]; exact hrk.alloc _
  have gx : w.grownBy wx (some r) := by rw [hwx]; exact only_alloc g3 _
  have sx : w3.heap.size < wx.heap.size := hX.lt
  clear hwx
  have x0 := hX.ruleG (g := r) (by omega) (i := 0) rfl
  have x1 := hX.ruleG (g := r) (by omega) (i := 1) rfl
  have x2 := hX.ruleG (g := r) (by omega) (i := 2) rfl
  refine wp_region_firstY (fun w' => wx.grownBy w' (some r)) [0, 1] [2, 3] [4, 5] [_, _] [_, _] [_, _] (by kernel_rfl) (by kernel_rfl) rfl rfl rfl (fun _ _ d _ _ h => by cases d <;> exact h) (only_drew (World.grownBy.refl _ _)) ?_
  repeat (first | ((refine takeY_skip (a' := ?_) ?_ ?_ ?_); (rotate_left); (· (simp [Region.wanted, yielded]; done)); (· (simp only [List.getElem_toArray, List.getElem_cons_zero, List.getElem_cons_succ, Act.put, List.setIfInBounds_toArray, List.set_cons_zero, List.set_cons_succ]; exact rfl))) | ((refine takeY_step (v := ?_) (a' := ?_) ?_ ?_ ?_ ?_); (rotate_left 2); (· (simp [Region.wanted, yielded]; done)); (· (intro w' hS'; go_simp; try (with_reducible rfl))); (· (simp only [List.getElem_toArray, List.getElem_cons_zero, List.getElem_cons_succ, Act.put, List.setIfInBounds_toArray, List.set_cons_zero, List.set_cons_succ]; exact rfl))))
  refine takeY_nil (then_cons ?_)
  go_wp2_with fail
  refine mid_intro (only_alloc (only_drew (World.grownBy.refl _ _)) _) (then_cons ?_)
  go_wp2_with (go_at_call 76; refine (num_any [1, 2, 3, 0, 2] B r (p + 1) wx.heap.size _ (by decide) (by decide) (by omega) (by simp; omega) (hrx.drew.alloc (by simp; omega) _) (Blk.new_ _ 3 _ (by simp)) (by omega)).mono ?_; rintro e w5 ⟨z, hz, rfl, hr5, hg5⟩)
  have hx5 : wx.grownBy w5 (some r) := grown_trans (only_alloc (only_drew (World.grownBy.refl _ _)) _) hg5
  refine mid_intro hx5 (then_nil ?_)
  have s5 := hx5.size
  have hZ5 := hZx.grown hx5 (by simp; omega)
  have d0 := hZ5.at_ (i := 0) rfl
  have d1 := hZ5.at_ (i := 1) rfl
  have d2 := hZ5.at_ (i := 2) rfl
  have e0 := hZ5.frozen 0
  have e1 := hZ5.frozen 1
  have e2 := hZ5.frozen 2
  have k5 := hkx.grown hx5 (fun b hb => by have := hb.1; simp; omega)
  have g5 := grown_trans gx hx5
  clear x0 x1 x2
  go_wp2_with fail
  refine bodyPost_ret (v := .tuple #[.agg #[.int .i64 k, .int .i64 n, .slice A' ks.length c'], .int .i64 z]) (by simp [results, Try.results51, go_sem, d0, d1, d2]) rfl ⟨k, n, ks, z, A', c', hmem.out, hz, rfl, hlk, ?_, ?_, ?_⟩
  · exact (((k5.setCell (by simp; omega) _).setCell (by simp; omega) _).setCell (by simp; omega) _).mono fun b h => ⟨by omega, by simp; omega⟩
  · exact ((hr5.setCell (by simp; omega) _).setCell (by simp; omega) _).setCell (by simp; omega) _
  · exact only_setCell (only_setCell (only_setCell g5 (.inr (by simp)) _) (.inr (by simp)) _) (.inr (by simp)) _
end Go.Proofs.Ytodkenpmhhbppaa
