/-
  Contracts of the functions that the law reaches, and plain lemmas. No condition.
-/
import Derived.Test.YtodkenpmhhbppaaK6
import Derived.Test.YtodkenpmhhbppaaK10
import Derived.Test.YtodkenpmhhbppaaK12
import Derived.Test.YtodkenpmhhbppaaK15
import Derived.Lib.SliceRun
import Derived.Deep.RegionHeld3
namespace Go.Proofs.Ytodkenpmhhbppaa
set_option linter.unusedSimpArgs false
set_option linter.unusedVariables false
open Go.RowKit
/-- the same integers in a row of their own -/
def GotI (w : World) (xs : List Int) (e : Ending) (w' : World) : Prop := ∃ v, e = .returned v ∧ RowI w.heap.size w' v xs ∧ Below w.heap.size w w'
theorem RowI.empty_ {w : World} : RowI w.heap.size (w.alloc (.cells #[] 3)) (.slice (some ⟨w.heap.size, 0, none⟩) 0 0) [] :=
  ⟨by simp, .inr ⟨_, 0, #[], rfl, Nat.le_refl _, heap_alloc_new w _, Nat.le_refl _, by simp [maxLen], by simp, by simp⟩⟩
set_option maxHeartbeats 1000000 in
set_option maxRecDepth 100000 in
theorem iCloneI_any (xs : List Int) (A : Option Addr) (c : Nat) (w : World) (hl : xs.length ≤ 1000000000) (hi : RdI w A xs) :
    Calls Try.prog 151 #[.slice A xs.length c] w (GotI w xs) := by
  cases A with
  | none =>
    have hk : xs = [] := by
      cases xs with
      | nil => rfl
      | cons t ts => obtain ⟨b, off, h, _⟩ := hi 0 (by simp); cases h
    subst hk
    have hq : ∀ w', (binOp .eql 73 (.slice none 0 c) (.slice none 0 0)).run Try.prog w' = .ok (.bool true) w' := fun w' => by rw [Go.Lib.run_eql_slice_nil (t := 73) (h := Try.underlying73)]; rfl
    go_enter Try.func151, Try.ntmps151
    go_wp2_with fail
    go_ret
    exact ⟨_, rfl, World.ownsRow_nil _ _ _ _, Below.refl _ _⟩
  | some a =>
    have hq : ∀ w', (binOp .eql 73 (.slice (some a) xs.length c) (.slice none 0 0)).run Try.prog w' = .ok (.bool false) w' := fun w' => by rw [Go.Lib.run_eql_slice_nil (t := 73) (h := Try.underlying73)]; rfl
    have hc : ∀ j (hj : j < xs.length), (w.alloc (.cells #[] 3)).cell? (a.add j) = some (.int .i64 xs[j]) := fun j hj => by
      obtain ⟨b, off, hA, h⟩ := hi.alloc (.cells #[] 3) j hj
      injection hA with hA
      subst hA
      rw [show Addr.add ⟨b, off, none⟩ j = ⟨b, off + j, none⟩ from by simp only [Addr.add]; split <;> simp_all]
      exact h
    go_enter Try.func151, Try.ntmps151
    go_wp2_with (at_builtin; refine wpList_append_ints (B := w.heap.size) (xs := []) (ys := xs) (ad := a) (c := c) RowI.empty_ (by simp) (by simp; omega) hc rfl _ _ rfl rfl rfl ?_; intro v2 w2 hp2 hb2 hg2)
    go_ret
    exact ⟨_, rfl, by simpa using hp2, ((Below.refl _ _).alloc (Nat.le_refl _) _).trans hb2⟩
open Go.RowKit
theorem RowI.capP {B : Nat} {w : World} {A : Option Addr} {n c : Nat} {xs : List Int} (h : RowI B w (.slice A n c) xs) : xs.length ≤ c ∧ n = xs.length := by
  rcases h.2 with ⟨e, h0⟩ | ⟨g, cap, cur, e, hb, hg, hn, _⟩
  · injection e with e1 e2 e3; exact ⟨by omega, by omega⟩
  · injection e with e1 e2 e3; exact ⟨by omega, e2⟩
/-- a row of one path -/
theorem run_append_pth {B : Nat} {w : World} {v : Value} {ps : List (List Int)} {p : List Int} {A : Option Addr} {c : Nat} (ty : TypeId) (hp : RowP B w v ps) (hB : B ≤ w.heap.size) (hm : ps.length + 1 ≤ 1099511627776) (hi : RdI w A p) (hcl : p.length ≤ c)
    (hne : ∀ a, A = some a → B ≤ a.block ∧ v.ownBlock ≠ some a.block ∧ a.block < w.heap.size) :
    ∃ v' w', (Builtin.append_ #[82, 82] ty #[v, .slice (some ⟨w.heap.size, 0, none⟩) 1 1]).run Try.prog (w.alloc (.cells #[.slice A p.length c] 73)) = .ok v' w' ∧ RowP B w' v' (ps ++ [p]) ∧ Below B w w' := by
  obtain ⟨v', w', h1, h2, h3, _⟩ := run_append_paths (w := w.alloc (.cells #[.slice A p.length c] 73)) (v := v) (ps := ps) (qs := [p]) (ad := ⟨w.heap.size, 0, none⟩) (c := 1) ty (hp.alloc _) (by simp; omega) (by simpa using hm) (by
    intro j hj
    simp only [List.length_singleton] at hj
    obtain rfl : j = 0 := by omega
    exact ⟨A, c, by simp [Addr.add], hi.alloc' _, hcl, fun a ha => ⟨(hne a ha).1, (hne a ha).2.1, by have := (hne a ha).2.2; simp; omega⟩⟩)
  exact ⟨v', w', h1, h2, ((Below.refl _ _).alloc hB _).trans h3⟩
theorem wpList_append_pth {B : Nat} {w : World} {v : Value} {ps : List (List Int)} {p : List Int} {A : Option Addr} {c : Nat} (hp : RowP B w v ps) (hB : B ≤ w.heap.size) (hm : ps.length + 1 ≤ 1099511627776) (hi : RdI w A p) (hcl : p.length ≤ c)
    (hne : ∀ a, A = some a → B ≤ a.block ∧ v.ownBlock ≠ some a.block ∧ a.block < w.heap.size)
    {ops : Array Oper} {rest : List Oper} {o : Oper} {a : Act} {Q : Exit → Act → World → Prop} (hgd : o.guard = none) (s x : Operand)
    (ho : o.op = .call { callee := .builtin .append, args := #[s, x], argTypes := #[82, 82] }) (hs : a.eval s = v) (hx : a.eval x = .slice (some ⟨w.heap.size, 0, none⟩) 1 1)
    (h : ∀ v' w', RowP B w' v' (ps ++ [p]) → Below B w w' → wpList Try.prog ops Q rest (a.put o.dst v') w') :
    wpList Try.prog ops Q (o :: rest) a (w.alloc (.cells #[.slice A p.length c] 73)) := by
  refine wpList_plain hgd fun K hK => ?_
  obtain ⟨v', w', hrun, h2, h3⟩ := run_append_pth (c := c) o.type hp hB hm hi hcl hne
  unfold Oper.wp execOp
  simp only [ho, resolve, invoke, builtin, Sem.run_bind, Sem.run_pure, Result.andThen_ok, List.map_toArray, List.map_cons, List.map_nil, hs, hx, hrun]
  exact hK _ _ (h v' w' h2 h3)
/-- one integer more, in a region that draws its order -/
theorem step_append_int1 {B : Nat} {w : World} {v : Value} {xs : List Int} {y : Int} {g : Nat} (hp : RowI B w v xs) (hB : B ≤ w.heap.size) (hm : xs.length + 1 ≤ 1099511627776) (hc : w.cell? ⟨g, 0, none⟩ = some (.int .i64 y))
    {ops : Array Oper} {o : Oper} {a : Act} {K : Act → World → Prop} {Q : Exit → Act → World → Prop} {E : Prop} (hgd : o.guard = none) (s x : Operand)
    (ho : o.op = .call { callee := .builtin .append, args := #[s, x], argTypes := #[73, 73] }) (hs : a.eval s = v) (hx : a.eval x = .slice (some ⟨g, 0, none⟩) 1 1)
    (h : ∀ v' w', RowI B w' v' (xs ++ [y]) → Below B w w' → K (a.put o.dst v') w') :
    if Region.wanted o (yielded ops a.tmps) = true then Oper.wp Try.prog o a w K Q else E := by
  have hw : Region.wanted o (yielded ops a.tmps) = true := by simp [Region.wanted, hgd]
  rw [if_pos hw]
  obtain ⟨i, hi, hz, hz1, hz2⟩ := info_parts int_info3
  have hge : ∀ g, v.ownBlock = some g → B ≤ g := fun g hg => (hp.lt g hg).1
  obtain ⟨v', w', hrun, hown, hg, _, hat⟩ := run_append_own_at (P := Try.prog) w B 73 o.type 3 i _ 1 8 Try.underlying73 hi hz hz1 hz2 rfl (by omega) v xs.length _ hp ⟨g, 0, none⟩ 1 1 [.int .i64 y] (by simp) (by
    intro j u hj
    match j, hj with
    | 0, hj => simp only [List.getElem?_cons_zero, Option.some.injEq] at hj; subst hj; simpa [Addr.add] using hc) (by
    intro u hu
    simp only [List.mem_singleton] at hu
    subst hu; rfl) (by simp only [maxLen]; omega) (by omega) (by omega)
  unfold Oper.wp execOp
  simp only [ho, resolve, invoke, builtin, Sem.run_bind, Sem.run_pure, Result.andThen_ok, List.map_toArray, List.map_cons, List.map_nil, hs, hx, hrun]
  refine h v' w' ?_ ⟨hg.os, hg.tape, hg.output, hg.size, fun k hk => hg.block k (by omega) (fun e => by have := hge k e.symm; omega)⟩
  unfold RowI; rw [List.length_append, List.map_append]; exact hown
theorem run_append_nil {B : Nat} {w : World} {v : Value} {ps : List (List Int)} (ty : TypeId) (c : Nat) (hp : RowP B w v ps) : (Builtin.append_ #[82, 82] ty #[v, .slice none 0 c]).run Try.prog w = .ok v w := by
  obtain ⟨i, hi, hz, hz1, hz2⟩ := info_parts path_info
  obtain ⟨vs, hown, _⟩ := hp
  rcases hown.2 with ⟨rfl, _⟩ | ⟨g, cap, cur, rfl, _, _, hnc, _⟩
  · simp [Builtin.append_, run_underlying Try.underlying82, sizeOf, typeInfo, hi, Builtin.lenOf, Builtin.firstCells]
  · simp [Builtin.append_, run_underlying Try.underlying82, sizeOf, typeInfo, hi, Builtin.lenOf, Builtin.firstCells, hnc, storeCells]
/-- a whole row of paths more, in a region that draws its order -/
theorem step_append_rowp {B B2 : Nat} {w : World} {v v2 : Value} {ps qs : List (List Int)} (hp : RowP B w v ps) (hq : RowP B2 w v2 qs) (hBB : B ≤ B2) (hsep : ∀ g, v.ownBlock = some g → g < B2) (hB2 : B2 ≤ w.heap.size) (hm : ps.length + qs.length ≤ 1099511627776)
    {ops : Array Oper} {o : Oper} {a : Act} {K : Act → World → Prop} {Q : Exit → Act → World → Prop} {E : Prop} (hgd : o.guard = none) (s x : Operand)
    (ho : o.op = .call { callee := .builtin .append, args := #[s, x], argTypes := #[82, 82] }) (hs : a.eval s = v) (hx : a.eval x = v2)
    (h : ∀ v' w', RowP B w' v' (ps ++ qs) → Below B w w' → w.grownBy w' v.ownBlock → K (a.put o.dst v') w') :
    if Region.wanted o (yielded ops a.tmps) = true then Oper.wp Try.prog o a w K Q else E := by
  have hw : Region.wanted o (yielded ops a.tmps) = true := by simp [Region.wanted, hgd]
  rw [if_pos hw]
  have key : ∃ v' w', (Builtin.append_ #[82, 82] o.type #[v, v2]).run Try.prog w = .ok v' w' ∧ RowP B w' v' (ps ++ qs) ∧ Below B w w' ∧ w.grownBy w' v.ownBlock := by
    obtain ⟨vs, hown, hel⟩ := hq
    rcases hown.2 with ⟨rfl, h0⟩ | ⟨g, cap, cur, rfl, hb, hg, hn, _, hcs, htk⟩
    · have : qs = [] := List.eq_nil_of_length_eq_zero h0
      subst this
      exact ⟨v, w, run_append_nil _ 0 hp, by rw [List.append_nil]; exact hp, Below.refl _ _, World.grownBy.refl _ _⟩
    · obtain ⟨v', w', h1, h2, h3, h4, _⟩ := run_append_paths (w := w) (v := v) (ps := ps) (qs := qs) (ad := ⟨g, 0, none⟩) (c := cap) o.type hp (by omega) hm (by
        intro j hj
        obtain ⟨A, c, e, r, hcl, hne⟩ := hel j hj
        refine ⟨A, c, ?_, r, hcl, fun a ha => ⟨by have := (hne a ha).1; omega, fun e => by have := hsep _ e; have := (hne a ha).1; omega, (hne a ha).2.2⟩⟩
        have hcell := cell_of_row w g j cur 73 (0, 0) hg
        rw [← htk, Nat.mul_one, List.getElem?_take, if_pos hj] at e
        have e2 : cur[j]? = some (.slice A qs[j].length c) := by simpa using e
        by_cases h0 : j = 0
        · subst h0; simpa [Addr.add] using hcell.trans e2
        · simpa [Addr.add, h0] using hcell.trans e2)
      exact ⟨v', w', h1, h2, h3, h4⟩
  obtain ⟨v', w', hrun, h2, h3, h4⟩ := key
  unfold Oper.wp execOp
  simp only [ho, resolve, invoke, builtin, Sem.run_bind, Sem.run_pure, Result.andThen_ok, List.map_toArray, List.map_cons, List.map_nil, hs, hx, hrun]
  exact h v' w' h2 h3 h4
/-- paths handed back in new memory -/
def GotPs (w : World) (ps : List (List Int)) (e : Ending) (w' : World) : Prop := ∃ v, e = .returned v ∧ RowP w.heap.size w' v ps ∧ Below w.heap.size w w'
set_option maxHeartbeats 4000000 in
set_option maxRecDepth 100000 in
theorem places_any {F : Nat} {f : Tm → Bool} (hF : TestOk F f) (hrun : ∀ (args : Array Value) (w : World), (callFunc F args).run Try.prog w = .ok (.enter F args) w) (N : Nat) :
    ∀ (k n : Int) (ks : List Tm) (A : Option Addr) (c : Nat) (p : List Int) (P : Option Addr) (cp : Nat) (w : World), sizes ks < N → sizes ks ≤ 1000000 → p.length + sizes ks ≤ 1000000 → Rd w A 0 ks → RdI w P p →
      Calls Try.prog 134 #[.agg #[.int .i64 k, .int .i64 n, .slice A ks.length c], .slice P p.length cp, .func (.func F) #[] #[]] w (GotPs w (plT f p (.mk k n ks))) := by
  induction N with
  | zero => intro k n ks A c p P cp w hN; exact absurd hN (Nat.not_lt_zero _)
  | succ N ih =>
  intro k n ks A c p P cp w hN hM hpl hr hi
  have hlen := length_le_sizes ks
  have h0 : plT f p (.mk k n ks) = (if f (.mk k n ks) = true then [p] else []) ++ plL f p 0 ks := by rw [plT]
  rw [h0]
  clear h0
  obtain ⟨bf, hbf⟩ : ∃ bf, f (.mk k n ks) = bf := ⟨_, rfl⟩
  obtain ⟨ps0, hps0⟩ : ∃ ps0, (if f (.mk k n ks) = true then [p] else []) = ps0 := ⟨_, rfl⟩
  have hps00 : ps0.length ≤ 1 := by rw [← hps0]; split <;> simp
  rw [hps0]
  have hbf' := hide hbf
  rw [hbf] at hps0
  clear hbf
  cases bf with
  | true =>
    have : ps0 = [p] := by rw [← hps0, if_pos rfl]
    subst this
    clear hps0
    go_enter Try.func134, Try.ntmps134
    go_wp2_with (first
      | (at_builtin; refine wpList_append_pth (B := w.heap.size + 1) (ps := []) (p := p) RowP.nil (by have := hb3.size; have := s2; omega) (by simp) hi3 hcl3 hn3 rfl (.tmp 13) (.tmp 16) rfl rfl rfl ?_; intro v0 w4 hR0 hb4; have hB0 : Blk w4 w.heap.size #[.int .i64 k, .int .i64 n, .slice A ks.length c] := hB3.below hb4 (by omega); have hb0 : Below w.heap.size w w4 := g3.trans (hb4.mono (by omega)); clear hb4 g3 hB3 hi3 hn3 g2 hB2; rw [List.nil_append] at hR0; have c2 := hB0.at_ (i := 2) rfl)
      | (go_at_call 151; refine (iCloneI_any p P cp _ (by omega) (hi.below g2)).mono ?_; rintro e w3 ⟨v3, rfl, hR3, hb3⟩; obtain ⟨A3, c3, rfl, hi3, hn3'⟩ := hR3.form2; have hcl3 := hR3.capP.1; have hn3 : ∀ a, A3 = some a → w.heap.size + 1 ≤ a.block ∧ (Value.slice none 0 0).ownBlock ≠ some a.block ∧ a.block < w3.heap.size := fun a ha => ⟨by have := (hn3' a ha).1; have := hb2.size; simp at this; omega, by simp [Value.ownBlock], (hn3' a ha).2⟩; clear hR3 hn3'; have hB3 := hB2.keep hb3; have g3 := g2.trans (hb3.mono g2.size))
      | (refine (hF k n ks A c _ (by omega) (hr.alloc _)).mono ?_; rw [hbf'.out]; rintro e w2 ⟨rfl, hb2⟩; have hB2 := (Blk.new_ w 25 #[.int .i64 k, .int .i64 n, .slice A ks.length c] rfl).keep hb2; have g2 : Below w.heap.size w w2 := ((Below.refl _ _).alloc (Nat.le_refl _) _).trans (hb2.mono (by simp)); have s2 : w.heap.size + 1 ≤ w2.heap.size := (by have := hb2.size; simpa using this); clear hbf'))
    go_loopw [7, 21] (fun v i wr => ∃ (j : Nat) (vv : Value), j ≤ ks.length ∧ vv = v ∧ i = .int .i64 j ∧ RowP (w.heap.size + 1) wr vv ([p] ++ plL f p 0 (ks.take j)) ∧ Blk wr w.heap.size #[.int .i64 k, .int .i64 n, .slice A ks.length c] ∧ Below w.heap.size w wr) (fun _ i _ => ks.length - (intOf i).toNat)
    case atStart => exact ⟨0, _, Nat.zero_le _, rfl, rfl, by simpa [plL] using hR0, hB0, hb0⟩
    case round =>
      obtain ⟨j, vv, hj, rfl, rfl, hRv, hBr, hb⟩ := hrel
      obtain ⟨ps1, hps1⟩ : ∃ ps1, [p] ++ plL f p 0 (ks.take j) = ps1 := ⟨_, rfl⟩
      have hpl1 : ps1.length ≤ 1000001 := by rw [← hps1, List.length_append]; have := plL_le f (ks.take j) p 0; have := sizes_take_le ks j; simp; omega
      rw [hps1] at hRv
      by_cases hlt : j < ks.length
      · obtain ⟨b1, off, k', n', ks', A', c', rfl, hkj, hc1, hc2, hc3, hl', hr'⟩ := (hr.below hb).at_ hlt
        have hsz := sizes_le (List.getElem_mem hlt)
        have hbt := plT_le f ks[j] (p ++ [(j : Int)])
        rw [hkj] at hsz hbt
        simp only [Tm.size] at hsz hbt
        have H3 := hide hkj
        have hp1' := hide hps1
        clear hkj hps1
        have hvo : ∀ g, vv.ownBlock = some g → g < wr.heap.size := fun g hg => by obtain ⟨_, h1, _⟩ := hRv; exact (h1.lt g hg).2
        go_wp2_with fail
        refine name_world ?_
        intro wx hwx
        have hXB : Blk wx wr.heap.size #[.int .i64 k', .int .i64 n', .slice A' ks'.length c'] := by rw [hwx]; exact Blk.new_ _ _ _ rfl
        have hbx : Below w.heap.size w wx := by rw [hwx]; exact hb.alloc hb.size _
        have hRx : RowP (w.heap.size + 1) wx vv ps1 := by rw [hwx]; exact hRv.alloc _
        have hBx : Blk wx w.heap.size #[.int .i64 k, .int .i64 n, .slice (some ⟨b1, off, none⟩) ks.length c] := by rw [hwx]; exact hBr.alloc _
        have hrx : Rd wx A' 0 ks' := by rw [hwx]; exact hr'.alloc _
        have hsx : wr.heap.size < wx.heap.size := by rw [hwx]; simp
        have hsr := hb.size
        have hwr := hBr.lt
        clear hwx
        obtain ⟨x0, x1, x2⟩ := hXB.three
        obtain ⟨q, hq⟩ : ∃ q, p ++ [(j : Int)] = q := ⟨_, rfl⟩
        have hql : q.length = p.length + 1 := by rw [← hq]; simp
        rw [hq] at hbt
        have hql2 : q.length ≤ p.length + 1 := by omega
        have hq' := hide hq
        have hql' := hide hql
        clear hq hql
        have hix := hi.below hbx
        go_region_held3 (fun w' => w'.cell? ⟨wr.heap.size, 0, none⟩ = some (.int .i64 k') ∧ w'.cell? ⟨wr.heap.size, 1, none⟩ = some (.int .i64 n') ∧ w'.cell? ⟨wr.heap.size, 2, none⟩ = some (.slice A' ks'.length c')) (go_keep) (first
          | (refine step_append_rowp (B := w.heap.size + 1) (B2 := w5.heap.size) (qs := plT f q (.mk k' n' ks')) (hRx.below hx6) hR6 (by omega) (fun g hg => by obtain ⟨_, h1, _⟩ := hRx; have := (h1.lt g hg).2; omega) hb6.size (by omega) rfl (.tmp 26) (.tmp 34) rfl rfl rfl ?_; intro v7 w7 hR7 hb7 hg7; have hX7 := (hXB.keep hx6).grown hg7 (fun e => by have := hvo _ e.symm; omega); clear x0 x1 x2; obtain ⟨x0, x1, x2⟩ := hX7.three)
          | (go_at_call 134; refine (ih k' n' ks' A' c' q A5 c5 _ (by omega) (by omega) (by omega) (hrx.below hx5) hi5).mono ?_; rintro e w6 ⟨v6, rfl, hR6, hb6⟩; have hx6 : Below wx.heap.size wx w6 := hx5.trans (hb6.mono hx5.size); have hs6 := hb6.size; clear x0 x1 x2; obtain ⟨x0, x1, x2⟩ := (hXB.keep hx6).three)
          | (refine step_append_int1 (B := wx.heap.size) (xs := p) (y := (j : Int)) (hR3.alloc _) (by have := hx3.size; simp; omega) (by omega) (by simp) rfl (.tmp 29) (.tmp 31) rfl rfl rfl ?_; intro v5 w5 hR5 hb5; have hx5 : Below wx.heap.size wx w5 := (hx3.alloc hx3.size _).trans hb5; rw [hq'.out] at hR5; obtain ⟨A5, c5, rfl, hi5⟩ := hR5.form; have hs5 := hx5.size; clear x0 x1 x2; obtain ⟨x0, x1, x2⟩ := (hXB.keep hx5).three)
          | (refine step_append_int1 (B := wx.heap.size) (xs := p) (y := (j : Int)) hR3 hx3.size (by omega) hz3 rfl (.tmp 29) (.tmp 31) rfl rfl rfl ?_; intro v5 w5 hR5 hb5; have hx5 : Below wx.heap.size wx w5 := hx3.trans hb5; rw [hq'.out] at hR5; obtain ⟨A5, c5, rfl, hi5⟩ := hR5.form; have hs5 := hx5.size; clear x0 x1 x2; obtain ⟨x0, x1, x2⟩ := (hXB.keep hx5).three)
          | (go_at_call 151; refine (iCloneI_any p P cp (wx.alloc (.cells #[.int .i64 j] 3)).drew (by omega) (hix.alloc' _)).mono ?_; rintro e w3 ⟨v3, rfl, hR3, hb3⟩; have hz3 : w3.cell? ⟨wx.heap.size, 0, none⟩ = some (.int .i64 j) := (hb3.cell (by simp)).trans (by simp); replace hR3 := hR3.mono (B' := wx.heap.size) (by simp); have hx3 : Below wx.heap.size wx w3 := (((Below.refl _ _).alloc (Nat.le_refl _) _).drew).trans (hb3.mono (by simp)); clear x0 x1 x2; obtain ⟨x0, x1, x2⟩ := (hXB.keep hx3).three)
          | (go_at_call 151; refine (iCloneI_any p P cp wx.drew (by omega) hix).mono ?_; rintro e w3 ⟨v3, rfl, hR3, hb3⟩; have hx3 : Below wx.heap.size wx w3 := (Below.refl _ _).drew.trans hb3; clear x0 x1 x2; obtain ⟨x0, x1, x2⟩ := (hXB.keep hx3).three))
        all_goals
          have hx7 : Below (w.heap.size + 1) wx w7 := (hx6.mono (by omega)).trans hb7
          have c2 := (hBx.below hx7 (by omega)).at_ (i := 2) rfl
          go_wp2_with fail
          go_roundw
          case rel => exact ⟨j + 1, _, hlt, rfl, by go_num, by rw [plL_take f p hlt, H3.out, hq'.out, ← List.append_assoc, hp1'.out]; exact hR7, hBx.below hx7 (by omega), hbx.trans (hx7.mono (by omega))⟩
          case measure => simp [intOf]; omega
      · have hjl : j = ks.length := by omega
        subst hjl
        rw [List.take_length] at hps1
        have hp1' := hide hps1
        clear hps1
        go_wp2_with fail
        go_ret
        exact ⟨vv, rfl, by have e := hp1'.out; first | (rw [e]; exact hRv.mono (by omega)) | (rw [List.singleton_append] at e; rw [e]; exact hRv.mono (by omega)), hb⟩
  | false =>
    have : ps0 = [] := by rw [← hps0]; simp
    subst this
    clear hps0
    go_enter Try.func134, Try.ntmps134
    go_wp2_with (refine (hF k n ks A c _ (by omega) (hr.alloc _)).mono ?_; rw [hbf'.out]; rintro e w4 ⟨rfl, hb2⟩; have hB0 := (Blk.new_ w 25 #[.int .i64 k, .int .i64 n, .slice A ks.length c] rfl).keep hb2; have hb0 : Below w.heap.size w w4 := ((Below.refl _ _).alloc (Nat.le_refl _) _).trans (hb2.mono (by simp)); clear hbf' hb2; have c2 := hB0.at_ (i := 2) rfl)
    have hR0 : RowP (w.heap.size + 1) w4 (.slice none 0 0) [] := RowP.nil
    revert hR0
    generalize hv0 : Value.slice none 0 0 = v0
    intro hR0
    clear hv0
    go_loopw [7, 21] (fun v i wr => ∃ (j : Nat) (vv : Value), j ≤ ks.length ∧ vv = v ∧ i = .int .i64 j ∧ RowP (w.heap.size + 1) wr vv ([] ++ plL f p 0 (ks.take j)) ∧ Blk wr w.heap.size #[.int .i64 k, .int .i64 n, .slice A ks.length c] ∧ Below w.heap.size w wr) (fun _ i _ => ks.length - (intOf i).toNat)
    case atStart => exact ⟨0, _, Nat.zero_le _, rfl, rfl, by simpa [plL] using hR0, hB0, hb0⟩
    case round =>
      obtain ⟨j, vv, hj, rfl, rfl, hRv, hBr, hb⟩ := hrel
      obtain ⟨ps1, hps1⟩ : ∃ ps1, [] ++ plL f p 0 (ks.take j) = ps1 := ⟨_, rfl⟩
      have hpl1 : ps1.length ≤ 1000001 := by rw [← hps1, List.length_append]; have := plL_le f (ks.take j) p 0; have := sizes_take_le ks j; simp; omega
      rw [hps1] at hRv
      by_cases hlt : j < ks.length
      · obtain ⟨b1, off, k', n', ks', A', c', rfl, hkj, hc1, hc2, hc3, hl', hr'⟩ := (hr.below hb).at_ hlt
        have hsz := sizes_le (List.getElem_mem hlt)
        have hbt := plT_le f ks[j] (p ++ [(j : Int)])
        rw [hkj] at hsz hbt
        simp only [Tm.size] at hsz hbt
        have H3 := hide hkj
        have hp1' := hide hps1
        clear hkj hps1
        have hvo : ∀ g, vv.ownBlock = some g → g < wr.heap.size := fun g hg => by obtain ⟨_, h1, _⟩ := hRv; exact (h1.lt g hg).2
        go_wp2_with fail
        refine name_world ?_
        intro wx hwx
        have hXB : Blk wx wr.heap.size #[.int .i64 k', .int .i64 n', .slice A' ks'.length c'] := by rw [hwx]; exact Blk.new_ _ _ _ rfl
        have hbx : Below w.heap.size w wx := by rw [hwx]; exact hb.alloc hb.size _
        have hRx : RowP (w.heap.size + 1) wx vv ps1 := by rw [hwx]; exact hRv.alloc _
        have hBx : Blk wx w.heap.size #[.int .i64 k, .int .i64 n, .slice (some ⟨b1, off, none⟩) ks.length c] := by rw [hwx]; exact hBr.alloc _
        have hrx : Rd wx A' 0 ks' := by rw [hwx]; exact hr'.alloc _
        have hsx : wr.heap.size < wx.heap.size := by rw [hwx]; simp
        have hsr := hb.size
        have hwr := hBr.lt
        clear hwx
        obtain ⟨x0, x1, x2⟩ := hXB.three
        obtain ⟨q, hq⟩ : ∃ q, p ++ [(j : Int)] = q := ⟨_, rfl⟩
        have hql : q.length = p.length + 1 := by rw [← hq]; simp
        rw [hq] at hbt
        have hql2 : q.length ≤ p.length + 1 := by omega
        have hq' := hide hq
        have hql' := hide hql
        clear hq hql
        have hix := hi.below hbx
        go_region_held3 (fun w' => w'.cell? ⟨wr.heap.size, 0, none⟩ = some (.int .i64 k') ∧ w'.cell? ⟨wr.heap.size, 1, none⟩ = some (.int .i64 n') ∧ w'.cell? ⟨wr.heap.size, 2, none⟩ = some (.slice A' ks'.length c')) (go_keep) (first
          | (refine step_append_rowp (B := w.heap.size + 1) (B2 := w5.heap.size) (qs := plT f q (.mk k' n' ks')) (hRx.below hx6) hR6 (by omega) (fun g hg => by obtain ⟨_, h1, _⟩ := hRx; have := (h1.lt g hg).2; omega) hb6.size (by omega) rfl (.tmp 26) (.tmp 34) rfl rfl rfl ?_; intro v7 w7 hR7 hb7 hg7; have hX7 := (hXB.keep hx6).grown hg7 (fun e => by have := hvo _ e.symm; omega); clear x0 x1 x2; obtain ⟨x0, x1, x2⟩ := hX7.three)
          | (go_at_call 134; refine (ih k' n' ks' A' c' q A5 c5 _ (by omega) (by omega) (by omega) (hrx.below hx5) hi5).mono ?_; rintro e w6 ⟨v6, rfl, hR6, hb6⟩; have hx6 : Below wx.heap.size wx w6 := hx5.trans (hb6.mono hx5.size); have hs6 := hb6.size; clear x0 x1 x2; obtain ⟨x0, x1, x2⟩ := (hXB.keep hx6).three)
          | (refine step_append_int1 (B := wx.heap.size) (xs := p) (y := (j : Int)) (hR3.alloc _) (by have := hx3.size; simp; omega) (by omega) (by simp) rfl (.tmp 29) (.tmp 31) rfl rfl rfl ?_; intro v5 w5 hR5 hb5; have hx5 : Below wx.heap.size wx w5 := (hx3.alloc hx3.size _).trans hb5; rw [hq'.out] at hR5; obtain ⟨A5, c5, rfl, hi5⟩ := hR5.form; have hs5 := hx5.size; clear x0 x1 x2; obtain ⟨x0, x1, x2⟩ := (hXB.keep hx5).three)
          | (refine step_append_int1 (B := wx.heap.size) (xs := p) (y := (j : Int)) hR3 hx3.size (by omega) hz3 rfl (.tmp 29) (.tmp 31) rfl rfl rfl ?_; intro v5 w5 hR5 hb5; have hx5 : Below wx.heap.size wx w5 := hx3.trans hb5; rw [hq'.out] at hR5; obtain ⟨A5, c5, rfl, hi5⟩ := hR5.form; have hs5 := hx5.size; clear x0 x1 x2; obtain ⟨x0, x1, x2⟩ := (hXB.keep hx5).three)
          | (go_at_call 151; refine (iCloneI_any p P cp (wx.alloc (.cells #[.int .i64 j] 3)).drew (by omega) (hix.alloc' _)).mono ?_; rintro e w3 ⟨v3, rfl, hR3, hb3⟩; have hz3 : w3.cell? ⟨wx.heap.size, 0, none⟩ = some (.int .i64 j) := (hb3.cell (by simp)).trans (by simp); replace hR3 := hR3.mono (B' := wx.heap.size) (by simp); have hx3 : Below wx.heap.size wx w3 := (((Below.refl _ _).alloc (Nat.le_refl _) _).drew).trans (hb3.mono (by simp)); clear x0 x1 x2; obtain ⟨x0, x1, x2⟩ := (hXB.keep hx3).three)
          | (go_at_call 151; refine (iCloneI_any p P cp wx.drew (by omega) hix).mono ?_; rintro e w3 ⟨v3, rfl, hR3, hb3⟩; have hx3 : Below wx.heap.size wx w3 := (Below.refl _ _).drew.trans hb3; clear x0 x1 x2; obtain ⟨x0, x1, x2⟩ := (hXB.keep hx3).three))
        all_goals
          have hx7 : Below (w.heap.size + 1) wx w7 := (hx6.mono (by omega)).trans hb7
          have c2 := (hBx.below hx7 (by omega)).at_ (i := 2) rfl
          go_wp2_with fail
          go_roundw
          case rel => exact ⟨j + 1, _, hlt, rfl, by go_num, by rw [plL_take f p hlt, H3.out, hq'.out, ← List.append_assoc, hp1'.out]; exact hR7, hBx.below hx7 (by omega), hbx.trans (hx7.mono (by omega))⟩
          case measure => simp [intOf]; omega
      · have hjl : j = ks.length := by omega
        subst hjl
        rw [List.take_length] at hps1
        rw [List.nil_append] at hps1
        have hp1' := hide hps1
        clear hps1
        go_wp2_with fail
        go_ret
        exact ⟨vv, rfl, by have e := hp1'.out; first | (rw [e]; exact hRv.mono (by omega)) | (rw [List.singleton_append] at e; rw [e]; exact hRv.mono (by omega)), hb⟩
set_option maxHeartbeats 1000000 in
set_option maxRecDepth 100000 in
theorem placesOf1_any (k n : Int) (ks : List Tm) (A : Option Addr) (c : Nat) (w : World) : Calls Try.prog 135 #[.agg #[.int .i64 k, .int .i64 n, .slice A ks.length c]] w fun e w' => e = .returned (.bool (allT (.mk k n ks))) ∧ Below w.heap.size w w' := by
  go_enter Try.func135, Try.ntmps135
  go_wp2
  go_ret
  exact ⟨rfl, (Below.refl _ _).alloc (Nat.le_refl _) _⟩
theorem test115 : TestOk 135 allT := fun k n ks A c w _ _ => placesOf1_any k n ks A c w
set_option maxHeartbeats 1000000 in
set_option maxRecDepth 100000 in
theorem placesOf_any (k n : Int) (ks : List Tm) (A : Option Addr) (c : Nat) (w : World) (hv : validT (.mk k n ks) = true) (hr : Rd w A 0 ks) :
    Calls Try.prog 90 #[.agg #[.int .i64 k, .int .i64 n, .slice A ks.length c]] w (GotPs w (plT allT [] (.mk k n ks))) := by
  have hsz := validT_size hv
  rw [Tm.size] at hsz
  have hrun := run_enter Try.func135 (by kernel_rfl) (by kernel_rfl)
  have hv' := hide hv
  clear hv
  go_enter Try.func90, Try.ntmps90
  go_wp2_with (first
    | (go_at_call 134; refine (places_any test115 hrun (sizes ks + 1) k n ks A c [] none 0 _ (by omega) (by omega) (by simp; omega) ((hr.alloc _).below hb1) (fun j hj => absurd hj (Nat.not_lt_zero _))).mono ?_; rintro e w2 ⟨v2, rfl, hR2, hb2⟩)
    | (go_at_call 34; refine (iTermValid_any k n ks A c _ (by omega) (hr.alloc _)).mono ?_; rw [hv'.out]; rintro e w1 ⟨rfl, hb1⟩; have hB1 := (Blk.new_ w 25 #[.int .i64 k, .int .i64 n, .slice A ks.length c] rfl).keep hb1; obtain ⟨p0, p1, p2⟩ := hB1.three))
  go_ret
  have hs1 : w.heap.size ≤ w1.heap.size := by have := hb1.size; simp at this; omega
  exact ⟨_, rfl, hR2.mono hs1, (((Below.refl _ _).alloc (Nat.le_refl _) _).trans (hb1.mono (by simp))).trans (hb2.mono hs1)⟩
open Go.RowKit
theorem RdX.set {p : Nat → Prop} {w : World} {ku nu : Int} {us : List Tm} {U : Option Addr} {cu : Nat} (hl : us.length ≤ 9223372036854775807) (hu : RdP p w U 0 us) : ∀ {ts : List Tm} {xs : List Value} {i : Nat}, RdX p w ts xs → i < ts.length →
    RdX p w (ts.set i (.mk ku nu us)) (((xs.set (i * 3) (.int .i64 ku)).set (i * 3 + 1) (.int .i64 nu)).set (i * 3 + 2) (.slice U us.length cu))
  | [], _, _, _, h => absurd h (Nat.not_lt_zero _)
  | .mk k n ks :: ts, xs, 0, h, _ => by
    obtain ⟨A, c, ys, rfl, hl1, hr, hx⟩ := h
    exact ⟨U, cu, ys, rfl, hl, hu, hx⟩
  | .mk k n ks :: ts, xs, i + 1, h, hi => by
    obtain ⟨A, c, ys, rfl, hl1, hr, hx⟩ := h
    refine ⟨A, c, _, ?_, hl1, hr, RdX.set (cu := cu) hl hu hx (Nat.lt_of_succ_lt_succ hi)⟩
    rw [show (i + 1) * 3 = i * 3 + 3 from by omega, show i * 3 + 3 + 1 = (i * 3 + 1) + 3 from by omega, show i * 3 + 3 + 2 = (i * 3 + 2) + 3 from by omega]
    rfl
/-- terms that stand in the block g; what they lead to lies where p says -/
def RowS (p : Nat → Prop) (w : World) (g : Nat) (ts : List Tm) : Prop :=
  ∃ (cur : Array Value) (xs : List Value), Blk w g cur ∧ (∀ (j : Nat) (u : Value), xs[j]? = some u → cur[j]? = some u) ∧ RdX p w ts xs
section
variable {p : Nat → Prop} {w w' : World} {g : Nat} {ts : List Tm}
theorem RowS.lt (h : RowS p w g ts) : g < w.heap.size := by obtain ⟨_, _, h, _⟩ := h; exact h.lt
theorem RowS.frozen (h : RowS p w g ts) (j : Nat) : w.frozen? ⟨g, j, none⟩ = false := by obtain ⟨_, _, h, _⟩ := h; exact h.frozen j
theorem RowS.cell (h : RowS p w g ts) {j : Nat} (hj : j < ts.length * 3) : ∃ u, w.cell? ⟨g, j, none⟩ = some u := by
  obtain ⟨cur, xs, hB, hcl, h2⟩ := h
  have hxl := h2.length
  exact ⟨xs[j]'(by omega), hB.at_ (hcl j _ (List.getElem?_eq_getElem (by omega)))⟩
theorem RowS.below (h : RowS p w g ts) (hb : Below w.heap.size w w') (hp : ∀ b, p b → b < w.heap.size) : RowS p w' g ts := by
  obtain ⟨cur, xs, hB, hcl, h2⟩ := h
  exact ⟨cur, xs, hB.keep hb, hcl, h2.keep (fun _ h => h) fun b hb' _ => hb.block b (hp b hb')⟩
theorem RowS.setCell (h : RowS p w g ts) {a : Addr} (ha : ¬ p a.block) (hg : g ≠ a.block) (u : Value) : RowS p (w.setCell a u) g ts := by
  obtain ⟨cur, xs, hB, hcl, h2⟩ := h
  exact ⟨cur, xs, hB.far hg u, hcl, h2.keep (fun _ h => h) fun b hb' _ => Below.heap_setCell w a u b (fun e => ha (e ▸ hb'))⟩
theorem RowS.set (h : RowS p w g ts) (hpg : ¬ p g) {i : Nat} (hi : i < ts.length) {ku nu : Int} {us : List Tm} {U : Option Addr} {cu : Nat} (hl : us.length ≤ 9223372036854775807) {q r : Nat → Prop} (hu : RdP q w U 0 us) (hq : ¬ q g) (hr1 : ∀ b, p b → r b) (hr2 : ∀ b, q b → r b) (hrg : r g) :
    RdP r (((w.setCell ⟨g, i * 3, none⟩ (.int .i64 ku)).setCell ⟨g, i * 3 + 1, none⟩ (.int .i64 nu)).setCell ⟨g, i * 3 + 2, none⟩ (.slice U us.length cu)) (some ⟨g, 0, none⟩) 0 (ts.set i (.mk ku nu us)) := by
  obtain ⟨cur, xs, hB1, hcl, h2⟩ := h
  have hxl := h2.length
  have h3 : RdX (fun b => b ≠ g ∧ r b) w ts xs := h2.keep (fun b hb => ⟨fun (e : b = g) => hpg (e ▸ hb), hr1 b hb⟩) fun _ _ _ => rfl
  have h4 := RdX.set (ku := ku) (nu := nu) (cu := cu) hl (hu.mono (q := fun b => b ≠ g ∧ r b) fun b hb => ⟨fun (e : b = g) => hq (e ▸ hb), hr2 b hb⟩) h3 hi
  have hset := ((hB1.set_ (i * 3) (.int .i64 ku)).set_ (i * 3 + 1) (.int .i64 nu)).set_ (i * 3 + 2) (.slice U us.length cu)
  refine RdX.rdp hrg (h4.keep (q := r) (fun _ h => h.2) fun b hb hl => ?_) fun j u hu2 => ?_
  · rw [Below.heap_setCell _ _ _ b (by simpa using hb.1), Below.heap_setCell _ _ _ b (by simpa using hb.1), Below.heap_setCell _ _ _ b (by simpa using hb.1)]
  · rw [show 0 + 0 * 3 + j = j from by omega]
    refine hset.at_ ?_
    have hcs' : ∀ j, j < xs.length → j < cur.size := fun j hj => by
      have := hcl j _ (List.getElem?_eq_getElem hj)
      exact (Array.getElem?_eq_some_iff.1 this).1
    rw [Array.getElem?_setIfInBounds, Array.getElem?_setIfInBounds, Array.getElem?_setIfInBounds]
    rw [List.getElem?_set, List.getElem?_set, List.getElem?_set] at hu2
    simp only [List.length_set] at hu2
    have hb2 : i * 3 + 2 < xs.length := by omega
    have c0 := hcs' (i * 3) (by omega)
    have c1 := hcs' (i * 3 + 1) (by omega)
    have c2 := hcs' (i * 3 + 2) (by omega)
    simp only [Array.size_setIfInBounds]
    by_cases j2 : i * 3 + 2 = j
    · rw [if_pos j2] at hu2 ⊢
      rw [if_pos (by omega)] at hu2
      rw [if_pos (by omega)]; exact hu2
    · rw [if_neg j2] at hu2 ⊢
      by_cases j1 : i * 3 + 1 = j
      · rw [if_pos j1] at hu2 ⊢
        rw [if_pos (by omega)] at hu2
        rw [if_pos (by omega)]; exact hu2
      · rw [if_neg j1] at hu2 ⊢
        by_cases j0 : i * 3 = j
        · rw [if_pos j0] at hu2 ⊢
          rw [if_pos (by omega)] at hu2
          rw [if_pos (by omega)]; exact hu2
        · rw [if_neg j0] at hu2 ⊢
          exact hcl j u hu2
/-- and what they lead to is there already -/
def RowT (p : Nat → Prop) (w : World) (g : Nat) (ts : List Tm) : Prop := RowS p w g ts ∧ ∀ b, p b → b < w.heap.size
theorem RowT.below (h : RowT p w g ts) (hb : Below w.heap.size w w') : RowT p w' g ts := ⟨h.1.below hb h.2, fun b hp => Nat.lt_of_lt_of_le (h.2 b hp) hb.size⟩
theorem RowT.setCell (h : RowT p w g ts) {a : Addr} (ha : ¬ p a.block) (hg : g ≠ a.block) (u : Value) : RowT p (w.setCell a u) g ts := ⟨h.1.setCell ha hg u, fun b hb => by simpa using h.2 b hb⟩
end
theorem PartR.rowS {lo : Nat → Prop} {B : Nat} {w : World} {A : Option Addr} {n c : Nat} {ts : List Tm} (h : PartR lo B w (.slice A n c) ts) (hi : 0 < ts.length) :
    ∃ g, A = some ⟨g, 0, none⟩ ∧ n = ts.length ∧ B ≤ g ∧ g < w.heap.size ∧ RowT (fun b => (lo b ∨ B ≤ b) ∧ b < w.heap.size ∧ b ≠ g) w g ts := by
  obtain ⟨xs, h1, h2⟩ := h
  rcases h1.2 with ⟨e, h0⟩ | ⟨g, cap, cur, e, hb, hg, hn, hmx, hcs, htk⟩
  · omega
  · injection e with e1 e2 e3
    subst e1 e2 e3
    have hB : Blk w g cur := ⟨25, hg⟩
    refine ⟨g, rfl, rfl, hb, hB.lt, ⟨cur, xs, hB, fun j u hu => ?_, h2.keep (fun b hb => ⟨hb.1, hb.2.1, fun e => hb.2.2 (by rw [e]; rfl)⟩) fun _ _ _ => rfl⟩, fun b hb => hb.2.1⟩
    rw [← htk, List.getElem?_take] at hu
    split at hu
    · simpa using hu
    · cases hu
open Go.RowKit
section
variable {p : Nat → Prop} {w : World} {l : List Tm} {L : Option Addr} {cl g : Nat}
/-- append of a slice of terms to an empty one, in a plain region -/
theorem wpList_append_listR (hg : w.heap[g]? = some (.cells #[] 25 (0, 0))) (hl : RdP p w L 0 l) (hp : ∀ b, p b → b < w.heap.size ∧ b ≠ g) {m : Nat} (hm : l.length = m) (hlen : m ≤ 1099511627776)
    {ops : Array Oper} {rest : List Oper} {o : Oper} {a : Act} {Q : Exit → Act → World → Prop} (hgd : o.guard = none) (s x : Operand)
    (ho : o.op = .call { callee := .builtin .append, args := #[s, x], argTypes := #[23, 23] }) (hs : a.eval s = .slice (some ⟨g, 0, none⟩) 0 0) (hx : a.eval x = .slice L m cl)
    (h : ∀ A' c' w', PartR p g w' (.slice A' m c') l → w.grownBy w' (some g) → wpList Try.prog ops Q rest (a.put o.dst (.slice A' m c')) w') :
    wpList Try.prog ops Q (o :: rest) a w := by
  subst hm
  refine wpList_plain hgd fun K hK => ?_
  obtain ⟨v', w', hrun, h2, h3⟩ := run_append_listR (cl := cl) hg hl hp hlen o.type
  unfold Oper.wp execOp
  simp only [ho, resolve, invoke, builtin, Sem.run_bind, Sem.run_pure, Result.andThen_ok, List.map_toArray, List.map_cons, List.map_nil, hs, hx, hrun]
  obtain ⟨A', c', rfl⟩ := h2.shape
  exact hK _ _ (h A' c' w' h2 h3)
end
/-- the same terms in a row of their own -/
def GotC (p : Nat → Prop) (w : World) (ks : List Tm) (e : Ending) (w' : World) : Prop :=
  ∃ A c, e = .returned (.slice A ks.length c) ∧ PartR p w.heap.size w' (.slice A ks.length c) ks ∧ Below w.heap.size w w'
set_option maxHeartbeats 1000000 in
set_option maxRecDepth 100000 in
theorem iClone_any (p : Nat → Prop) (ks : List Tm) (A : Option Addr) (c : Nat) (w : World) (hl : ks.length ≤ 1099511627776) (hr : RdP p w A 0 ks) (hpw : ∀ b, p b → b < w.heap.size) :
    Calls Try.prog 138 #[.slice A ks.length c] w (GotC p w ks) := by
  cases A with
  | none =>
    have hk : ks = [] := by
      cases ks with
      | nil => rfl
      | cons t ts => obtain ⟨⟨b, off, h, _⟩, _⟩ := RdP.cons_iff.1 hr; cases h
    subst hk
    have hq : ∀ w', (binOp .eql 23 (.slice none 0 c) (.slice none 0 0)).run Try.prog w' = .ok (.bool true) w' := fun w' => by rw [Go.Lib.run_eql_slice_nil (t := 23) (h := Try.underlying23)]; rfl
    go_enter Try.func138, Try.ntmps138
    go_wp2_with fail
    go_ret
    exact ⟨none, 0, rfl, PartR.nil, Below.refl _ _⟩
  | some a =>
    have hq : ∀ w', (binOp .eql 23 (.slice (some a) ks.length c) (.slice none 0 0)).run Try.prog w' = .ok (.bool false) w' := fun w' => by rw [Go.Lib.run_eql_slice_nil (t := 23) (h := Try.underlying23)]; rfl
    go_enter Try.func138, Try.ntmps138
    go_wp2_with (at_builtin; refine wpList_append_listR (p := p) (g := w.heap.size) (cl := c) (heap_alloc_new w _) (hr.alloc _) (fun b hb => ⟨by have := hpw b hb; simp; omega, by have := hpw b hb; omega⟩) rfl hl rfl _ _ rfl rfl rfl ?_; intro A2 c2 w2 hp2 hg2)
    go_ret
    exact ⟨A2, c2, rfl, hp2, ((Below.refl _ _).alloc (Nat.le_refl _) _).trans ⟨hg2.os, hg2.tape, hg2.output, hg2.size, fun k hk => hg2.block k (by simp; omega) (fun e => by injection e; omega)⟩⟩
open Go.RowKit
/-- numbers that memory holds, in one row -/
def PathX (w : World) (A : Option Addr) (xs : List Int) : Prop :=
  0 < xs.length → ∃ b off, A = some ⟨b, off, none⟩ ∧ ∀ (i : Nat) (u : Value), (xs.map (Value.int .i64))[i]? = some u → w.cell? ⟨b, off + i, none⟩ = some u
theorem PathX.nil {w : World} {A : Option Addr} : PathX w A [] := fun h => absurd h (Nat.lt_irrefl _)
theorem PathX.alloc {w : World} {A : Option Addr} {xs : List Int} (h : PathX w A xs) (o : Obj) : PathX (w.alloc o) A xs := by
  intro hm
  obtain ⟨b, off, h3, h4⟩ := h hm
  exact ⟨b, off, h3, fun i u hu => Keeps.alloc w o _ _ (h4 i u hu)⟩
theorem PathX.below {w w' : World} {A : Option Addr} {xs : List Int} (h : PathX w A xs) (hb : Below w.heap.size w w') : PathX w' A xs := by
  intro hm
  obtain ⟨b, off, h3, h4⟩ := h hm
  exact ⟨b, off, h3, fun i u hu => (Keeps.of_below hb) _ _ (h4 i u hu)⟩
end Go.Proofs.Ytodkenpmhhbppaa
