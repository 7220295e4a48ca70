/-
  Texts that are common to the laws: Pattern, DList, DFill. No condition.
-/
import Derived.Test.YtodkenpmhhbppaaK6
import Derived.Test.YtodkenpmhhbppaaK11
import Derived.Test.YtodkenpmhhbppaaK13

namespace Go.Proofs.Ytodkenpmhhbppaa
open Go.RowKit
set_option linter.unusedSimpArgs false
set_option linter.unusedVariables false

/-- a pattern and a number of holes, drawn -/
def DrawnP (B : Nat) (w : World) (r p : Nat) (e : Ending) (w' : World) : Prop :=
  ∃ (k n : Int) (ks : List Tm) (z : Int) (A : Option Addr) (c : Nat), .mk k n ks ∈ pats ∧ z ∈ ([1, 2, 3, 0, 2] : List Int) ∧ e = .returned (.tuple #[.agg #[.int .i64 k, .int .i64 n, .slice A ks.length c], .int .i64 z]) ∧ ks.length ≤ 9223372036854775807 ∧
    RdP (fun b => w.heap.size ≤ b ∧ b < w'.heap.size) w' A 0 ks ∧ Rdr B w' r (p + 2) ∧ w.grownBy w' (some r)
set_option maxHeartbeats 8000000 in
set_option maxRecDepth 100000 in
theorem pattern_any (B r p : Nat) (w : World) (hp : p ≤ 900000000) (hB : B ≤ w.heap.size) (hr : Rdr B w r p) : Calls Try.prog 51 #[.pointer (some ⟨r, 0, none⟩)] w (DrawnP B w r p) := by
  have hrl := hr.lt
  have hpl : pats.length = 10 := rfl
  go_enter Try.func51, Try.ntmps51
  go_wp2_with (go_at_call 65; refine (read_any pats patsX rfl (by decide) pats_good.at_ (w.heap.size + 1) _ (Blk.new_ _ 9 (strs patsX) (by simp))).mono ?_; rintro e w2 ⟨A2, c2, rfl, hf2, hb2⟩; have hZ : Blk w2 w.heap.size #[.int .i64 0, .int .i64 0, .slice none 0 0] := ((Blk.new_ w 25 #[.int .i64 0, .int .i64 0, .slice none 0 0] rfl).alloc _).keep hb2; have g2 : w.grownBy w2 (some r) := only_below (only_alloc (only_alloc (World.grownBy.refl _ _) _) _) hb2; have s2 : w.heap.size + 1 + 1 ≤ w2.heap.size := (by have := hb2.size; simpa using this); have hr2 : Rdr B w2 r p := ((hr.alloc (by omega) _).alloc (by simp; omega) _).below hb2 (by simp; omega); have hf := hf2.rdp)
  refine (pick_any B r p 10 _ (by omega) (by omega) (by omega) hr2).mono ?_
  rintro e w3 ⟨m, rfl, hm, hm0, hr3, hg3⟩
  have hm := hm (by omega)
  clear hm0
  have hm' : m < pats.length := by omega
  have g3 := grown_trans g2 hg3
  have s3 := hg3.size
  replace hZ := hZ.grown hg3 (by simp; omega)
  obtain ⟨b, off, k, n, ks, A', c', rfl, hk, y0, y1, y2, hlk, hrk⟩ := (hf.grown hg3 (fun b hb => by have := hb.1; simp at this; simp; omega)).at_ hm'
  have hmem := hide (show Tm.mk k n ks ∈ pats from hk ▸ List.getElem_mem hm')
  clear hk
  replace hrk := hrk.mono (q := fun b => w.heap.size + 2 ≤ b ∧ b < w3.heap.size) (fun b hb => ⟨by have := hb.1; simp at this; omega, by omega⟩)
  have bl : b < w3.heap.size := World.block_lt_of_cell? _ _ y0
  have lz := hZ.lt
  go_wp2_with fail
  refine name_world ?_
  intro wx hwx
  have hX : Blk wx w3.heap.size #[.int .i64 k, .int .i64 n, .slice A' ks.length c'] := by rw [hwx]; exact Blk.new_ _ _ _ rfl
  have hZx : Blk wx w.heap.size #[.int .i64 0, .int .i64 0, .slice none 0 0] := by rw [hwx]; exact hZ.alloc _
  have hrx : Rdr B wx r (p + 1) := by rw [hwx]; exact hr3.alloc (by omega) _
  have hkx : RdP (fun b => w.heap.size + 2 ≤ b ∧ b < w3.heap.size) wx A' 0 ks := by rw [hwx]; exact hrk.alloc _
  have gx : w.grownBy wx (some r) := by rw [hwx]; exact only_alloc g3 _
  have sx : w3.heap.size < wx.heap.size := hX.lt
  clear hwx
  have x0 := hX.ruleG (g := r) (by omega) (i := 0) rfl
  have x1 := hX.ruleG (g := r) (by omega) (i := 1) rfl
  have x2 := hX.ruleG (g := r) (by omega) (i := 2) rfl
  refine wp_region_firstY (fun w' => wx.grownBy w' (some r)) [0, 1] [2, 3] [4, 5] [_, _] [_, _] [_, _] (by kernel_rfl) (by kernel_rfl) rfl rfl rfl (fun _ _ d _ _ h => by cases d <;> exact h) (only_drew (World.grownBy.refl _ _)) ?_
  repeat (first | ((refine takeY_skip (a' := ?_) ?_ ?_ ?_); (rotate_left); (· (simp [Region.wanted, yielded]; done)); (· (simp only [List.getElem_toArray, List.getElem_cons_zero, List.getElem_cons_succ, Act.put, List.setIfInBounds_toArray, List.set_cons_zero, List.set_cons_succ]; exact rfl))) | ((refine takeY_step (v := ?_) (a' := ?_) ?_ ?_ ?_ ?_); (rotate_left 2); (· (simp [Region.wanted, yielded]; done)); (· (intro w' hS'; go_simp; try (with_reducible rfl))); (· (simp only [List.getElem_toArray, List.getElem_cons_zero, List.getElem_cons_succ, Act.put, List.setIfInBounds_toArray, List.set_cons_zero, List.set_cons_succ]; exact rfl))))
  refine takeY_nil (then_cons ?_)
  go_wp2_with fail
  refine mid_intro (only_alloc (only_drew (World.grownBy.refl _ _)) _) (then_cons ?_)
  go_wp2_with (go_at_call 76; refine (num_any [1, 2, 3, 0, 2] B r (p + 1) wx.heap.size _ (by decide) (by decide) (by omega) (by simp; omega) (hrx.drew.alloc (by simp; omega) _) (Blk.new_ _ 3 _ (by simp)) (by omega)).mono ?_; rintro e w5 ⟨z, hz, rfl, hr5, hg5⟩)
  have hx5 : wx.grownBy w5 (some r) := grown_trans (only_alloc (only_drew (World.grownBy.refl _ _)) _) hg5
  refine mid_intro hx5 (then_nil ?_)
  have s5 := hx5.size
  have hZ5 := hZx.grown hx5 (by simp; omega)
  have d0 := hZ5.at_ (i := 0) rfl
  have d1 := hZ5.at_ (i := 1) rfl
  have d2 := hZ5.at_ (i := 2) rfl
  have e0 := hZ5.frozen 0
  have e1 := hZ5.frozen 1
  have e2 := hZ5.frozen 2
  have k5 := hkx.grown hx5 (fun b hb => by have := hb.1; simp; omega)
  have g5 := grown_trans gx hx5
  clear x0 x1 x2
  go_wp2_with fail
  refine bodyPost_ret (v := .tuple #[.agg #[.int .i64 k, .int .i64 n, .slice A' ks.length c'], .int .i64 z]) (by simp [results, Try.results51, go_sem, d0, d1, d2]) rfl ⟨k, n, ks, z, A', c', hmem.out, hz, rfl, hlk, ?_, ?_, ?_⟩
  · exact (((k5.setCell (by simp; omega) _).setCell (by simp; omega) _).setCell (by simp; omega) _).mono fun b h => ⟨by omega, by simp; omega⟩
  · exact ((hr5.setCell (by simp; omega) _).setCell (by simp; omega) _).setCell (by simp; omega) _
  · exact only_setCell (only_setCell (only_setCell g5 (.inr (by simp)) _) (.inr (by simp)) _) (.inr (by simp)) _
end Go.Proofs.Ytodkenpmhhbppaa

namespace Go.Proofs.Ytodkenpmhhbppaa
open Go.RowKit
set_option linter.unusedSimpArgs false
set_option linter.unusedVariables false

theorem list_count {x : Int} (h : x ∈ ([2, 1, 3, 0, 7] : List Int)) : ∃ d : Nat, x = d ∧ d ≤ 7 := by
  simp only [List.mem_cons, List.not_mem_nil, or_false] at h
  rcases h with rfl | rfl | rfl | rfl | rfl
  · exact ⟨2, rfl, by omega⟩
  · exact ⟨1, rfl, by omega⟩
  · exact ⟨3, rfl, by omega⟩
  · exact ⟨0, rfl, by omega⟩
  · exact ⟨7, rfl, by omega⟩
theorem list_depth {x : Int} (h : x ∈ ([1, 2] : List Int)) : ∃ d : Nat, x = d ∧ d ≤ 2 := by
  simp only [List.mem_cons, List.not_mem_nil, or_false] at h
  rcases h with rfl | rfl
  · exact ⟨1, rfl, by omega⟩
  · exact ⟨2, rfl, by omega⟩
theorem kd2 {d : Nat} (h : d ≤ 2) : KD d ≤ 63 ∧ SD d ≤ 21 := by
  have : d = 0 ∨ d = 1 ∨ d = 2 := by omega
  rcases this with rfl | rfl | rfl <;> decide
/-- terms that have been drawn -/
def DrawnL (B : Nat) (w : World) (r p q s : Nat) (e : Ending) (w' : World) : Prop :=
  ∃ (ts : List Tm) (A : Option Addr) (c p' : Nat), e = .returned (.slice A ts.length c) ∧ ts.length ≤ 7 ∧ sizes ts ≤ s ∧ p' ≤ p + q ∧ Fresh w.heap.size w' A ts ∧ Rdr B w' r p' ∧ w.grownBy w' (some r)
set_option maxHeartbeats 8000000 in
set_option maxRecDepth 100000 in
theorem dlist_any (B r p : Nat) (w : World) (hp : p ≤ 900000000) (hB : B ≤ w.heap.size) (hr : Rdr B w r p) : Calls Try.prog 55 #[.pointer (some ⟨r, 0, none⟩)] w (DrawnL B w r p 1000 1000) := by
  have hrl := hr.lt
  go_enter Try.func55, Try.ntmps55
  go_wp2_with (go_at_call 76; refine (num_any [2, 1, 3, 0, 7] B r p (w.heap.size + 1) _ (by decide) (by decide) (by omega) (by simp; omega) ((hr.alloc (by omega) _).alloc (by simp; omega) _) (Blk.new_ _ 3 _ (by simp)) (by omega)).mono ?_; rintro e w1 ⟨x, hx, rfl, hr1, hg1⟩; obtain ⟨d, rfl, hd⟩ := list_count hx; have hP : Part w.heap.size w1 (.slice (some ⟨w.heap.size, 0, none⟩) 0 0) [] := ((Part.empty_ (B := w.heap.size) (w := w) rfl (Nat.le_refl _)).alloc _).keep (fun b h1 h2 => hg1.block b h2 (by simp; omega)); have g1 : w.grownBy w1 (some r) := grown_trans (only_alloc (only_alloc (World.grownBy.refl _ _) _) _) hg1; have s1 := g1.size)
  go_loopw [3, 4] (fun v i wr => ∃ (j p' : Nat) (ts : List Tm), j + ts.length = d ∧ i = .int .i64 j ∧ p' ≤ p + 1 + ts.length * 64 ∧ sizes ts ≤ ts.length * 21 ∧ Part w.heap.size wr v ts ∧ Rdr B wr r p' ∧ w.grownBy wr (some r)) (fun _ i _ => (intOf i).toNat)
  case atStart => exact ⟨d, p + 1, [], by simp, rfl, by simp, by simp [sizes], hP, hr1, g1⟩
  case round =>
    obtain ⟨j, p', ts, hj, rfl, hp', hts, hq, hrr, hg⟩ := hrel
    have hj' := hide hj
    have htl : ts.length ≤ 7 := by omega
    have hjd : j ≤ 7 := by omega
    clear hj
    have s2 := hg.size
    by_cases h0 : j = 0
    · have q0 : ¬ 0 < j := by omega
      have hjn := hide h0
      clear h0
      obtain ⟨Ar, cr, rfl, hfr⟩ := hq.fresh
      go_wp2_with fail
      go_ret
      exact ⟨ts, Ar, cr, p', rfl, htl, by omega, by omega, hfr, hrr, hg⟩
    · have q0 : 0 < j := by omega
      go_wp2_with (first
        | (at_builtin; refine wpList_append_builtG (B := w.heap.size) (w0 := wr) (m := ts.length) (k := kq) (n := nq) (c := cq) hq (fun b h1 h2 => hxq.block b h2 (by simp; omega)) hxq.size s2 (hfq.mono (by omega)) hlq rfl (by omega) rfl _ _ rfl rfl (by show Value.slice (some ⟨wq.heap.size, 0, none⟩) 1 1 = _; simp) ?_; intro A2 c2 w5 hp2 hb2 hg2)
        | (go_at_call 75; refine (draw_any dd B r (p' + 1) _ (by omega) (by omega) hr4).mono ?_; rintro e wq ⟨kq, nq, ksq, Aq, cq, pq, rfl, hlq, hsq, hqq, hfq, hRq, hgq⟩; have hxq := grown_trans g4 hgq; have sq := hxq.size)
        | (go_at_call 76; refine (num_any [1, 2] B r p' wr.heap.size _ (by decide) (by decide) (by omega) (by simp; omega) (hrr.alloc (by omega) _) (Blk.new_ _ 3 _ rfl) (by omega)).mono ?_; rintro e w4 ⟨x, hx, rfl, hr4, hg4⟩; obtain ⟨dd, rfl, hdd⟩ := list_depth hx; have hkd := kd2 hdd; have g4 : wr.grownBy w4 (some r) := grown_trans (only_alloc (World.grownBy.refl _ _) _) hg4; have s4 := g4.size))
      go_roundw
      case rel =>
        have hj1 : ((j - 1 : Nat) : Int) = (j : Int) - 1 := by omega
        refine ⟨j - 1, pq, ts ++ [.mk kq nq ksq], by have := hj'.out; simp; omega, by rw [hj1], by simp; omega, ?_, ?_, hRq.below hb2 (by omega), only_belowB (grown_trans hg hxq) hb2 (by omega)⟩
        · rw [sizes_append]; simp only [sizes, Tm.size, List.length_append, List.length_cons, List.length_nil]; omega
        · exact hp2
      case measure => simp [intOf]; omega
end Go.Proofs.Ytodkenpmhhbppaa

namespace Go.Proofs.Ytodkenpmhhbppaa
open Go.RowKit
set_option linter.unusedSimpArgs false
set_option linter.unusedVariables false

theorem pats_small {k n : Int} {ks : List Tm} (h : .mk k n ks ∈ pats) : sizes ks ≤ 20 := by
  have h1 : (pats.all fun t => decide (t.size ≤ 20)) = true := by decide
  have := of_decide_eq_true (List.all_eq_true.1 h1 _ h)
  rw [Tm.size] at this
  omega
theorem Rd.of {p : Nat → Prop} {w : World} {A : Option Addr} {i : Nat} {ks : List Tm} (h : RdP p w A i ks) : Rd w A i ks := h.rd
/-- a term and some terms that can be read -/
def DrawnTL (w : World) (e : Ending) (w' : World) : Prop :=
  ∃ (k n : Int) (ks : List Tm) (A : Option Addr) (c : Nat) (ts : List Tm) (B : Option Addr) (d : Nat), e = .returned (.tuple #[.agg #[.int .i64 k, .int .i64 n, .slice A ks.length c], .slice B ts.length d]) ∧
    ks.length ≤ 9223372036854775807 ∧ sizes ks ≤ 1000 ∧ ts.length ≤ 7 ∧ sizes ts ≤ 1000 ∧ Rd w' A 0 ks ∧ Rd w' B 0 ts ∧ Below w.heap.size w w'
set_option maxHeartbeats 8000000 in
set_option maxRecDepth 100000 in
theorem drawFill_any (bs : List Int) (A : Option Addr) (c : Nat) (w : World) (hl : bs.length ≤ 9223372036854775807) (hc : bs.length ≤ c) (hr : RdY w A bs) : Calls Try.prog 16 #[.slice A bs.length c] w (DrawnTL w) := by
  go_enter Try.func16, Try.ntmps16
  go_wp2_with (first
    | (go_at_call 51; refine (pattern_any w1.heap.size r 0 _ (by omega) (Nat.le_refl _) hr1).mono ?_; rintro e w2 ⟨k, n, ks, z, A2, c2, hmem, hz, rfl, hl2, hk2, hr2, hg2⟩; have hks := pats_small hmem; clear hmem hz; replace hZ := hZ.grown hg2 (by simp; omega); have lz2 := hZ.lt; have s2 := hg2.size)
    | (go_at_call 50; refine (open_any bs A c _ hl hc (hr.keeps (.alloc _ _))).mono ?_; rintro e w1 ⟨r, rfl, hr0, hrlt, hr1, hb1⟩; have hZ := (Blk.new_ w 25 #[.int .i64 0, .int .i64 0, .slice none 0 0] rfl).keep hb1; have g1 : Below w.heap.size w w1 := ((Below.refl _ _).alloc (Nat.le_refl _) _).trans (hb1.mono (by simp)); have s1 := g1.size; have hr0' : w.heap.size + 1 ≤ r := (by simpa using hr0)))
  refine (pick_any w1.heap.size r 2 3 _ (by omega) (by omega) (by simp; omega) (hr2.alloc (by omega) _)).mono ?_
  rintro e w3 ⟨m, rfl, hm, hm0, hr3, hg3⟩
  clear hm hm0
  have hX := (Blk.new_ w2 25 #[.int .i64 k, .int .i64 n, .slice A2 ks.length c2] rfl).grown hg3 (by simp; omega)
  replace hZ := (hZ.alloc (.cells #[.int .i64 k, .int .i64 n, .slice A2 ks.length c2] 25)).grown hg3 (by simp; omega)
  have hk3 := (hk2.alloc (.cells #[.int .i64 k, .int .i64 n, .slice A2 ks.length c2] 25)).grown hg3 (fun b hb => by simp; omega)
  have g3 : w1.grownBy w3 (some r) := grown_trans (only_alloc hg2 _) hg3
  have s3 : w2.heap.size + 1 ≤ w3.heap.size := by have := hg3.size; simpa using this
  have lx := hX.lt
  have lz := hZ.lt
  have x0 := hX.at_ (i := 0) rfl
  have x1 := hX.at_ (i := 1) rfl
  have x2 := hX.at_ (i := 2) rfl
  by_cases m0 : m = 0
  · subst m0
    have f0 := hX.frozen 0
    have f1 := hX.frozen 1
    have f2 := hX.frozen 2
    go_wp2_with (go_at_call 53; refine (any_any w1.heap.size r (2 + 1) _ (by omega) (by omega) hr3).mono ?_; rintro e w4 ⟨k4, n4, ks4, A4, c4, p4, rfl, hl4, hs4, hp4, hf4, hr4, hg4⟩; clear x0 x1 x2 f0 f1 f2; replace hX := hX.grown hg4 (by simp; omega); replace hZ := hZ.grown hg4 (by simp; omega); have x0 := hX.at_ (i := 0) rfl; have x1 := hX.at_ (i := 1) rfl; have x2 := hX.at_ (i := 2) rfl; have f0 := hX.frozen 0; have f1 := hX.frozen 1; have f2 := hX.frozen 2; have g4 := grown_trans g3 hg4; have s4 := hg4.size; have lx4 := hX.lt; have lz4 := hZ.lt)
    have hr4' := ((hr4.setCell (a := ⟨w2.heap.size, 0, none⟩) (by simp; omega) (.int .i64 k4)).setCell (a := ⟨w2.heap.size, 1, none⟩) (by simp; omega) (.int .i64 n4)).setCell (a := ⟨w2.heap.size, 2, none⟩) (by simp; omega) (.slice A4 ks4.length c4)
    have hf4' := (((hf4.setCell (a := ⟨w2.heap.size, 0, none⟩) (by simp; omega) (.int .i64 k4)).setCell (a := ⟨w2.heap.size, 1, none⟩) (by simp; omega) (.int .i64 n4)).setCell (a := ⟨w2.heap.size, 2, none⟩) (by simp; omega) (.slice A4 ks4.length c4)).rd
    have g4' := only_setCell (only_setCell (only_setCell g4 (p := ⟨w2.heap.size, 0, none⟩) (.inr (by simp; omega)) (.int .i64 k4)) (p := ⟨w2.heap.size, 1, none⟩) (.inr (by simp; omega)) (.int .i64 n4)) (p := ⟨w2.heap.size, 2, none⟩) (.inr (by simp; omega)) (.slice A4 ks4.length c4)
    have hZ4 := ((hZ.far (p := ⟨w2.heap.size, 0, none⟩) (by simp; omega) (.int .i64 k4)).far (p := ⟨w2.heap.size, 1, none⟩) (by simp; omega) (.int .i64 n4)).far (p := ⟨w2.heap.size, 2, none⟩) (by simp; omega) (.slice A4 ks4.length c4)
    have sz4 : (((w4.setCell ⟨w2.heap.size, 0, none⟩ (.int .i64 k4)).setCell ⟨w2.heap.size, 1, none⟩ (.int .i64 n4)).setCell ⟨w2.heap.size, 2, none⟩ (.slice A4 ks4.length c4)).heap.size = w4.heap.size := by simp [World.setCell]
    generalize ((w4.setCell ⟨w2.heap.size, 0, none⟩ (.int .i64 k4)).setCell ⟨w2.heap.size, 1, none⟩ (.int .i64 n4)).setCell ⟨w2.heap.size, 2, none⟩ (.slice A4 ks4.length c4) = wv at hr4' hf4' g4' hZ4 sz4 ⊢
    have sz4' : w4.heap.size ≤ wv.heap.size := by omega
    clear sz4 x0 x1 x2 f0 f1 f2 hX hZ
    have hZ := hZ4
    have lzv := hZ.lt
    go_wp2_with (first
      | (go_at_call 55; refine (dlist_any w1.heap.size r p5 _ (by omega) (by omega) hr5).mono ?_; rintro e w6 ⟨ts, A6, c6, p6, rfl, hl6, hs6, hp6, hf6, hr6, hg6⟩; replace hZ := hZ.grown hg6 (by simp; omega); have g6 := grown_trans g5 hg6; have d0 := hZ.at_ (i := 0) rfl; have d1 := hZ.at_ (i := 1) rfl; have d2 := hZ.at_ (i := 2) rfl; have e0 := hZ.frozen 0; have e1 := hZ.frozen 1; have e2 := hZ.frozen 2; have s6 := hg6.size)
      | (go_at_call 54; refine (mutate_any w1.heap.size r p4 k4 n4 ks4 A4 c4 _ (by omega) (by omega) hr4' (by omega) hf4').mono ?_; rintro e w5 ⟨k5, n5, ks5, A5, c5, p5, rfl, hl5, hs5, hp5, hk5, hr5, hg5⟩; replace hZ := hZ.grown hg5 (by simp; omega); have g5 := grown_trans g4' hg5; have s5 := hg5.size; have lz5 := hZ.lt))
    refine bodyPost_ret (v := .tuple #[.agg #[.int .i64 k5, .int .i64 n5, .slice A5 ks5.length c5], .slice A6 ts.length c6]) (by simp [results, Try.results16, go_sem, d0, d1, d2]) rfl ⟨k5, n5, ks5, A5, c5, ts, A6, c6, rfl, hl5, by omega, hl6, hs6, ?_, ?_, ?_⟩
    · exact ((((hk5.grown hg6 (fun b hb => by have := hb.1; simp; omega)).setCell (by simp; omega) _).setCell (by simp; omega) _).setCell (by simp; omega) _).rd
    · exact (((hf6.setCell (by simp; omega) _).setCell (by simp; omega) _).setCell (by simp; omega) _).rd
    · exact (((g1.trans (grown_below g6 (by omega) (by omega))).setCell (by simp) _).setCell (by simp) _).setCell (by simp) _
  · have q0 : ((m : Int) == 0) = false := beq_eq_false_iff_ne.2 (by omega)
    go_wp2_with (first
      | (go_at_call 55; refine (dlist_any w1.heap.size r p5 _ (by omega) (by omega) hr5).mono ?_; rintro e w6 ⟨ts, A6, c6, p6, rfl, hl6, hs6, hp6, hf6, hr6, hg6⟩; replace hZ := hZ.grown hg6 (by simp; omega); have g6 := grown_trans g5 hg6; have d0 := hZ.at_ (i := 0) rfl; have d1 := hZ.at_ (i := 1) rfl; have d2 := hZ.at_ (i := 2) rfl; have e0 := hZ.frozen 0; have e1 := hZ.frozen 1; have e2 := hZ.frozen 2; have s6 := hg6.size)
      | (go_at_call 54; refine (mutate_any w1.heap.size r (2 + 1) k n ks A2 c2 _ (by omega) (by omega) hr3 (by omega) hk3.rd).mono ?_; rintro e w5 ⟨k5, n5, ks5, A5, c5, p5, rfl, hl5, hs5, hp5, hk5, hr5, hg5⟩; replace hZ := hZ.grown hg5 (by simp; omega); have g5 := grown_trans g3 hg5; have s5 := hg5.size; have lz5 := hZ.lt))
    refine bodyPost_ret (v := .tuple #[.agg #[.int .i64 k5, .int .i64 n5, .slice A5 ks5.length c5], .slice A6 ts.length c6]) (by simp [results, Try.results16, go_sem, d0, d1, d2]) rfl ⟨k5, n5, ks5, A5, c5, ts, A6, c6, rfl, hl5, by omega, hl6, hs6, ?_, ?_, ?_⟩
    · exact ((((hk5.grown hg6 (fun b hb => by have := hb.1; simp; omega)).setCell (by simp; omega) _).setCell (by simp; omega) _).setCell (by simp; omega) _).rd
    · exact (((hf6.setCell (by simp; omega) _).setCell (by simp; omega) _).setCell (by simp; omega) _).rd
    · exact (((g1.trans (grown_below g6 (by omega) (by omega))).setCell (by simp) _).setCell (by simp) _).setCell (by simp) _
end Go.Proofs.Ytodkenpmhhbppaa
