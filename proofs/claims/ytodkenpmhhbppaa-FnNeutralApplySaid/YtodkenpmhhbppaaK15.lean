/-
  Texts that are common to the laws: DMatch. No condition.
-/
import Derived.Test.YtodkenpmhhbppaaK4
import Derived.Test.YtodkenpmhhbppaaK14

namespace Go.Proofs.Ytodkenpmhhbppaa
open Go.RowKit
set_option linter.unusedSimpArgs false
set_option linter.unusedVariables false

theorem gotO_pair {w : World} {o : Option Tm} {e : Ending} {w' : World} (h : GotO w o e w') {k n : Int} {ks : List Tm} (ht : o.getD (.mk 0 0 []) = .mk k n ks) {b : Bool} (hb : o.isSome = b) :
    ∃ A c, e = .returned (.tuple #[.agg #[.int .i64 k, .int .i64 n, .slice A ks.length c], .bool b]) ∧ ks.length ≤ 9223372036854775807 ∧ Fresh w.heap.size w' A ks ∧ Below w.heap.size w w' := by
  cases o with
  | none => injection ht with h1 h2 h3; subst h1 h2 h3 hb; obtain ⟨he, hw⟩ := gotO_none h; exact ⟨none, 0, he, by simp, Fresh.nil, hw⟩
  | some t => obtain ⟨k', n', ks'⟩ := t; injection ht with h1 h2 h3; subst h1 h2 h3 hb; exact gotO_some h
theorem fillTS_size (t : Tm) (args : List Tm) {k n : Int} {ks : List Tm} (ht : (fillTS t args).getD (.mk 0 0 []) = .mk k n ks) : sizes ks ≤ 400 := by
  unfold fillTS at ht
  split at ht
  · rename_i h
    have := validT_size h.2.2.2
    simp only [Option.getD_some] at ht
    rw [ht, Tm.size] at this; omega
  · injection ht with h1 h2 h3; subst h3; simp [sizes]
theorem name_calls {P : Program} {f : FuncId} {args : Array Value} {w : World} {Q : Ending → World → Prop} (h : ∀ wx, wx = w → Calls P f args wx Q) : Calls P f args w Q := h w rfl
theorem holes_small {x : Int} (h : x ∈ ([1, 2, 3, 0, 2] : List Int)) : ∃ d : Nat, x = d ∧ d ≤ 3 := by
  simp only [List.mem_cons, List.not_mem_nil, or_false] at h
  rcases h with rfl | rfl | rfl | rfl | rfl
  · exact ⟨1, rfl, by omega⟩
  · exact ⟨2, rfl, by omega⟩
  · exact ⟨3, rfl, by omega⟩
  · exact ⟨0, rfl, by omega⟩
  · exact ⟨2, rfl, by omega⟩
theorem num_wf {z : Int} (h : z ∈ ([1, 2, 3, 0, 2] : List Int) ∨ z ∈ ([7, -1, 6] : List Int)) : -1 ≤ z ∧ z ≤ 7 := by
  simp only [List.mem_cons, List.not_mem_nil, or_false] at h
  omega
/-- a term, a number, a term -/
def DrawnTIT (w : World) (e : Ending) (w' : World) : Prop :=
  ∃ (k n : Int) (ks : List Tm) (A : Option Addr) (c : Nat) (z : Int) (k' n' : Int) (ks' : List Tm) (A' : Option Addr) (c' : Nat), e = .returned (.tuple #[.agg #[.int .i64 k, .int .i64 n, .slice A ks.length c], .int .i64 z, .agg #[.int .i64 k', .int .i64 n', .slice A' ks'.length c']]) ∧
    ks.length ≤ 9223372036854775807 ∧ sizes ks ≤ 1000 ∧ ks'.length ≤ 9223372036854775807 ∧ sizes ks' ≤ 1000 ∧ -1 ≤ z ∧ z ≤ 7 ∧ Rd w' A 0 ks ∧ Rd w' A' 0 ks' ∧ Below w.heap.size w w'
set_option maxHeartbeats 16000000 in
set_option maxRecDepth 100000 in
theorem drawMatch_any (bs : List Int) (A : Option Addr) (c : Nat) (w : World) (hl : bs.length ≤ 9223372036854775807) (hc : bs.length ≤ c) (hr : RdY w A bs) : Calls Try.prog 32 #[.slice A bs.length c] w (DrawnTIT w) := by
  go_enter Try.func32, Try.ntmps32
  go_wp2_with (first
    | (go_at_call 51; refine (pattern_any w1.heap.size r 0 _ (by omega) (Nat.le_refl _) hr1).mono ?_; rintro e w2 ⟨k, n, ks, z, A2, c2, hmem, hz, rfl, hl2, hk2, hr2, hg2⟩; have hks := pats_small hmem; obtain ⟨zz, rfl, hz3⟩ := holes_small hz; clear hmem hz; replace hZ := hZ.grown hg2 (by simp; omega); replace hY := hY.grown hg2 (by simp; omega); have lz2 := hZ.lt; have s2 := hg2.size)
    | (go_at_call 50; refine (open_any bs A c _ hl hc ((hr.keeps (.alloc _ _)).keeps (.alloc _ _))).mono ?_; rintro e w1 ⟨r, rfl, hr0, hrlt, hr1, hb1⟩; have hZ := ((Blk.new_ w 25 #[.int .i64 0, .int .i64 0, .slice none 0 0] rfl).alloc (.cells #[.int .i64 0, .int .i64 0, .slice none 0 0] 25)).keep hb1; have hY := (Blk.new_ (n := w.heap.size + 1) (w.alloc (.cells #[.int .i64 0, .int .i64 0, .slice none 0 0] 25)) 25 #[.int .i64 0, .int .i64 0, .slice none 0 0] (by simp)).keep hb1; have g1 : Below w.heap.size w w1 := (((Below.refl _ _).alloc (Nat.le_refl _) _).alloc (by simp) _).trans (hb1.mono (by simp; omega)); have s1 := g1.size; have hr0' : w.heap.size + 2 ≤ r := (by simpa using hr0)))
  go_loopw [8, 9] (fun v i wr => ∃ (j p' : Nat) (ts : List Tm), j ≤ zz ∧ i = .int .i64 j ∧ ts.length = j ∧ p' ≤ 2 + j * 64 ∧ sizes ts ≤ j * 21 ∧ Part (w2.heap.size + 1) wr v ts ∧ Blk wr w2.heap.size #[.int .i64 k, .int .i64 n, .slice A2 ks.length c2] ∧ Blk wr w.heap.size #[.int .i64 0, .int .i64 0, .slice none 0 0] ∧ Blk wr (w.heap.size + 1) #[.int .i64 0, .int .i64 0, .slice none 0 0] ∧ RdP (fun b => w1.heap.size ≤ b ∧ b < w2.heap.size) wr A2 0 ks ∧ Rdr w1.heap.size wr r p' ∧ w1.grownBy wr (some r)) (fun _ i _ => zz - (intOf i).toNat)
  case atStart => exact ⟨0, 2, [], Nat.zero_le _, rfl, rfl, by omega, by simp [sizes], Part.empty_ (by simp) (Nat.le_refl _), (Blk.new_ _ _ _ rfl).alloc _, (hZ.alloc _).alloc _, (hY.alloc _).alloc _, (hk2.alloc _).alloc _, (hr2.alloc (by omega) _).alloc (by simp; omega) _, only_alloc (only_alloc hg2 _) _⟩
  case round =>
    clear hZ hY hk2 hr2
    obtain ⟨j, p', ts, hj, rfl, htl, hp', hts, hq, hX, hZ, hY, hk2, hrr, hg⟩ := hrel
    have htl' := hide htl
    have hj3 : j ≤ 3 := by omega
    clear htl
    have s3 := hg.size
    have lx := hX.lt
    have lz := hZ.lt
    by_cases hlt : j < zz
    · go_wp2_with (first
        | (at_builtin; refine wpList_append_builtG (B := w2.heap.size + 1) (w0 := wr) (m := j) (k := kq) (n := nq) (c := cq) hq (fun b h1 h2 => hgq.block b h2 (by simp; omega)) hgq.size (by omega) (hfq.mono (by omega)) hlq htl'.out (by omega) rfl _ _ rfl rfl (by show Value.slice (some ⟨wq.heap.size, 0, none⟩) 1 1 = _; simp) ?_; intro A5 c5 w5 hp5 hb5 hg5)
        | (go_at_call 75; refine (draw_any 2 w1.heap.size r p' _ (by have := kd2 (Nat.le_refl 2); omega) (by omega) hrr).mono ?_; rintro e wq ⟨kq, nq, ksq, Aq, cq, pq, rfl, hlq, hsq, hqq, hfq, hRq, hgq⟩; have hkd := kd2 (Nat.le_refl 2); have sq := hgq.size))
      go_roundw
      case rel =>
        refine ⟨j + 1, pq, ts ++ [.mk kq nq ksq], by omega, by go_num, by simp [htl'.out], by omega, ?_, hp5, (hX.grown hgq (by simp; omega)).below hb5 (by omega), (hZ.grown hgq (by simp; omega)).below hb5 (by omega), (hY.grown hgq (by simp; omega)).below hb5 (by omega), (hk2.grown hgq (fun b hb => by simp; omega)).blocks (fun b hb hl => hb5.block b (by omega)), hRq.below hb5 (by omega), only_belowB (grown_trans hg hgq) hb5 (by omega)⟩
        rw [sizes_append]; simp only [sizes, Tm.size]; omega
      case measure => simp [intOf]; omega
    · have hjz : j = zz := by omega
      subst hjz
      obtain ⟨A8, c8, rfl, hfr⟩ := hq.fresh
      obtain ⟨k4, n4, ks4, ht4⟩ := tm_eta ((fillTS (.mk k n ks) ts).getD (.mk 0 0 []))
      have hks4 := fillTS_size _ _ ht4
      obtain ⟨b4, hb4o⟩ : ∃ b4, (fillTS (.mk k n ks) ts).isSome = b4 := ⟨_, rfl⟩
      have ht4' := hide ht4
      have hb4' := hide hb4o
      clear ht4 hb4o
      have x0 := hX.at_ (i := 0) rfl
      have x1 := hX.at_ (i := 1) rfl
      have x2 := hX.at_ (i := 2) rfl
      have ht8 : Calls Try.prog 18 #[.agg #[.int .i64 k, .int .i64 n, .slice A2 ks.length c2], .slice A8 ts.length c8] wr (GotO wr (fillTS (.mk k n ks) ts)) := sFillTerm_any k n ks A2 c2 ts A8 c8 wr (by omega) (by omega) hk2.rd hfr.rd
      have ht8' := hide ht8
      clear ht8
      cases b4 with
      | false =>
        have y0 : True := trivial
        have y1 : True := trivial
        have y2 : True := trivial
        have f0 : True := trivial
        have f1 : True := trivial
        have f2 : True := trivial
        go_wp2_with (first
          | (go_at_call 53; refine (any_any w1.heap.size r (p') _ (by omega) (by simp; omega) (r4.alloc (by omega) _)).mono ?_; rintro e w6 ⟨k6, n6, ks6, A6, c6, p6, rfl, hl6, hs6, hp6, hf6, hr6, hg6⟩; have lt4 := hT4.lt; clear y0 y1 y2 f0 f1 f2; have hT6 := hT4.grown hg6 (by simp; omega); have y0 := hT6.at_ (i := 0) rfl; have y1 := hT6.at_ (i := 1) rfl; have y2 := hT6.at_ (i := 2) rfl; have f0 := hT6.frozen 0; have f1 := hT6.frozen 1; have f2 := hT6.frozen 2; have s6 := hg6.size; have lt6 := hT6.lt)
          | (go_at_call 18; refine ht8'.out.mono ?_; intro e w4 hgo; obtain ⟨A4, c4, rfl, hl4, hf4, hb4⟩ := gotO_pair hgo ht4'.out hb4'.out; clear hgo; have s4 := hb4.size; have r4 := hrr.below hb4 (by omega); have hX4 := (hX.keep hb4); have hZ4 := hZ.keep hb4; have hY4 := hY.keep hb4; have hk24 := hk2.below hb4; have g4 := only_below hg hb4; have hT4 := Blk.new_ w4 25 #[.int .i64 k4, .int .i64 n4, .slice A4 ks4.length c4] rfl; clear y0 y1 y2 f0 f1 f2; have y0 := hT4.at_ (i := 0) rfl; have y1 := hT4.at_ (i := 1) rfl; have y2 := hT4.at_ (i := 2) rfl; have f0 := hT4.frozen 0; have f1 := hT4.frozen 1; have f2 := hT4.frozen 2))
        refine name_calls ?_
        intro wv hwv
        have hXv : Blk wv w2.heap.size #[.int .i64 k, .int .i64 n, .slice A2 ks.length c2] := by rw [hwv]; exact ((((hX4.alloc (.cells #[.int .i64 k4, .int .i64 n4, .slice A4 ks4.length c4] 25)).grown hg6 (by simp; omega)).far (by simp; omega) _).far (by simp; omega) _).far (by simp; omega) _
        have hTv : Blk wv w4.heap.size #[.int .i64 k6, .int .i64 n6, .slice A6 ks6.length c6] := by rw [hwv]; exact ((hT6.set_ 0 _).set_ 1 _).set_ 2 _
        have hZv : Blk wv w.heap.size #[.int .i64 0, .int .i64 0, .slice none 0 0] := by rw [hwv]; exact ((((hZ4.alloc (.cells #[.int .i64 k4, .int .i64 n4, .slice A4 ks4.length c4] 25)).grown hg6 (by simp; omega)).far (by simp; omega) _).far (by simp; omega) _).far (by simp; omega) _
        have hYv : Blk wv (w.heap.size + 1) #[.int .i64 0, .int .i64 0, .slice none 0 0] := by rw [hwv]; exact ((((hY4.alloc (.cells #[.int .i64 k4, .int .i64 n4, .slice A4 ks4.length c4] 25)).grown hg6 (by simp; omega)).far (by simp; omega) _).far (by simp; omega) _).far (by simp; omega) _
        have hk2v : RdP (fun b => w1.heap.size ≤ b ∧ b < w2.heap.size) wv A2 0 ks := by rw [hwv]; exact ((((hk24.alloc (.cells #[.int .i64 k4, .int .i64 n4, .slice A4 ks4.length c4] 25)).grown hg6 (fun b hb => by simp; omega)).setCell (a := ⟨w4.heap.size, 0, none⟩) (by simp; omega) _).setCell (a := ⟨w4.heap.size, 1, none⟩) (by simp; omega) _).setCell (a := ⟨w4.heap.size, 2, none⟩) (by simp; omega) _
        have hk9v : RdP (fun b => wr.heap.size ≤ b ∧ b ≠ w4.heap.size) wv A6 0 ks6 := by rw [hwv]; exact (((hf6.rdp.setCell (a := ⟨w4.heap.size, 0, none⟩) (by simp; omega) _).setCell (a := ⟨w4.heap.size, 1, none⟩) (by simp; omega) _).setCell (a := ⟨w4.heap.size, 2, none⟩) (by simp; omega) _).mono (fun b hb => by have h1 := hb.1; first | exact ⟨by omega, by omega⟩ | (simp at h1; exact ⟨by omega, by omega⟩))
        have hRv : Rdr w1.heap.size wv r (p6) := by rw [hwv]; exact ((hr6.setCell (a := ⟨w4.heap.size, 0, none⟩) (by simp; omega) _).setCell (a := ⟨w4.heap.size, 1, none⟩) (by simp; omega) _).setCell (a := ⟨w4.heap.size, 2, none⟩) (by simp; omega) _
        have hGv : w1.grownBy wv (some r) := by rw [hwv]; exact only_setCell (only_setCell (only_setCell (grown_trans (only_alloc g4 (.cells #[.int .i64 k4, .int .i64 n4, .slice A4 ks4.length c4] 25)) hg6) (.inr (by simp; omega)) _) (.inr (by simp; omega)) _) (.inr (by simp; omega)) _
        clear hwv
        have svv := hGv.size
        have lTv := hTv.lt
        have lXv := hXv.lt
        have hs9 : sizes ks6 ≤ 400 := by omega
        refine (pick_any w1.heap.size r (p6) 16 _ (by omega) (by omega) (by omega) hRv).mono ?_
        rintro e w7 ⟨m7, rfl, hm7, hm70, hR7, hg7⟩
        clear hm7 hm70
        have hX7 := hXv.grown hg7 (by simp; omega)
        have hT7 := hTv.grown hg7 (by simp; omega)
        have hZ7 := hZv.grown hg7 (by simp; omega)
        have hY7 := hYv.grown hg7 (by simp; omega)
        have hk27 := hk2v.grown hg7 (fun b hb => by simp; omega)
        have hk97 := hk9v.grown hg7 (fun b hb => by simp; omega)
        have hG7 := grown_trans hGv hg7
        have s7 := hg7.size
        by_cases m70 : m7 = 0
        · subst m70
          go_wp2_with (go_at_call 76; refine (num_any [7, -1, 6] w1.heap.size r (p6 + 1) w7.heap.size _ (by decide) (by decide) (by omega) (by simp; omega) (hR7.alloc (by omega) _) (Blk.new_ _ 3 _ rfl) (by omega)).mono ?_; rintro e w8 ⟨z8, hz8, rfl, hR8, hg8⟩; have hg78 : w7.grownBy w8 (some r) := grown_trans (only_alloc (World.grownBy.refl _ _) _) hg8; have hz8b := num_wf (.inr hz8))
          refine name_world ?_
          intro wx hwx
          have hXx : Blk wx w2.heap.size #[.int .i64 k, .int .i64 n, .slice A2 ks.length c2] := by rw [hwx]; exact hX7.grown hg78 (by simp; omega)
          have hTx : Blk wx w4.heap.size #[.int .i64 k6, .int .i64 n6, .slice A6 ks6.length c6] := by rw [hwx]; exact hT7.grown hg78 (by simp; omega)
          have hZx : Blk wx w.heap.size #[.int .i64 0, .int .i64 0, .slice none 0 0] := by rw [hwx]; exact hZ7.grown hg78 (by simp; omega)
          have hYx : Blk wx (w.heap.size + 1) #[.int .i64 0, .int .i64 0, .slice none 0 0] := by rw [hwx]; exact hY7.grown hg78 (by simp; omega)
          have hk2x : RdP (fun b => w1.heap.size ≤ b ∧ b < w2.heap.size) wx A2 0 ks := by rw [hwx]; exact hk27.grown hg78 (fun b hb => by simp; omega)
          have hk9x : RdP (fun b => wr.heap.size ≤ b ∧ b ≠ w4.heap.size) wx A6 0 ks6 := by rw [hwx]; exact hk97.grown hg78 (fun b hb => by simp; omega)
          have hRx : Rdr w1.heap.size wx r (p6 + 1 + 1) := by rw [hwx]; exact hR8
          have hGx : w1.grownBy wx (some r) := by rw [hwx]; exact grown_trans hG7 hg78
          clear hwx
          have sx := hGx.size
          have lTx := hTx.lt
          have lXx := hXx.lt
          refine wp_region_firstY (fun w' => w'.cell? ⟨w2.heap.size, 0, none⟩ = some (.int .i64 k) ∧ w'.cell? ⟨w2.heap.size, 1, none⟩ = some (.int .i64 n) ∧ w'.cell? ⟨w2.heap.size, 2, none⟩ = some (.slice A2 ks.length c2) ∧ w'.cell? ⟨w4.heap.size, 0, none⟩ = some (.int .i64 k6) ∧ w'.cell? ⟨w4.heap.size, 1, none⟩ = some (.int .i64 n6) ∧ w'.cell? ⟨w4.heap.size, 2, none⟩ = some (.slice A6 ks6.length c6)) [0, 1, 3, 4, 5] [2, 6, 7, 8] [9] [_, _, _, _, _] [_, _, _, _] [_] (by kernel_rfl) (by kernel_rfl) rfl rfl rfl (fun _ _ d _ _ h => by cases d <;> exact h) ⟨hXx.drew.at_ rfl, hXx.drew.at_ rfl, hXx.drew.at_ rfl, hTx.drew.at_ rfl, hTx.drew.at_ rfl, hTx.drew.at_ rfl⟩ ?_
          repeat (first | ((refine takeY_skip (a' := ?_) ?_ ?_ ?_); (rotate_left); (· (simp [Region.wanted, yielded]; done)); (· (simp only [List.getElem_toArray, List.getElem_cons_zero, List.getElem_cons_succ, Act.put, List.setIfInBounds_toArray, List.set_cons_zero, List.set_cons_succ]; exact rfl))) | ((refine takeY_step (v := ?_) (a' := ?_) ?_ ?_ ?_ ?_); (rotate_left 2); (· (simp [Region.wanted, yielded]; done)); (· (intro w' hS'; obtain ⟨s0, s1, s2, s3, s4, s5⟩ := hS'; go_simp; try (with_reducible rfl))); (· (simp only [List.getElem_toArray, List.getElem_cons_zero, List.getElem_cons_succ, Act.put, List.setIfInBounds_toArray, List.set_cons_zero, List.set_cons_succ]; exact rfl))))
          refine takeY_nil (then_cons ?_)
          go_wp2_with (go_at_call 54; refine (mutate_any w1.heap.size r (p6 + 1 + 1) k n ks A2 c2 _ (by omega) (by simp; omega) hRx.drew (by omega) hk2x.drew.rd).mono ?_; rintro e wa ⟨ka, na, ksa, Aa, ca, pa, rfl, hla, hsa, hpa, hka, hRa, hga⟩)
          have hxa : wx.grownBy wa (some r) := grown_trans (only_drew (World.grownBy.refl _ _)) hga
          have hXa := hXx.grown hxa (by simp; omega)
          have hTa := hTx.grown hxa (by simp; omega)
          refine mid_intro ⟨hXa.at_ rfl, hXa.at_ rfl, hXa.at_ rfl, hTa.at_ rfl, hTa.at_ rfl, hTa.at_ rfl⟩ (then_cons ?_)
          have sa : wx.heap.size ≤ wa.heap.size := hxa.size
          have hk9a := hk9x.grown hxa (fun b hb => by simp; omega)
          go_wp2_with (go_at_call 54; refine (mutate_any w1.heap.size r pa k6 n6 ks6 A6 c6 _ (by omega) (by omega) hRa (by omega) hk9a.rd).mono ?_; rintro e wb ⟨kb, nb, ksb, Ab, cb, pb, rfl, hlb, hsb, hpb, hkb, hRb, hgb⟩)
          have hxb : wx.grownBy wb (some r) := grown_trans hxa hgb
          have hXb := hXx.grown hxb (by simp; omega)
          have hTb := hTx.grown hxb (by simp; omega)
          refine mid_intro ⟨hXb.at_ rfl, hXb.at_ rfl, hXb.at_ rfl, hTb.at_ rfl, hTb.at_ rfl, hTb.at_ rfl⟩ (then_cons ?_)
          have sb := hgb.size
          have hZb := hZx.grown hxb (by simp; omega)
          have hYb := hYx.grown hxb (by simp; omega)
          have d0 := hZb.at_ (i := 0) rfl
          have d1 := hZb.at_ (i := 1) rfl
          have d2 := hZb.at_ (i := 2) rfl
          have e0 := hZb.frozen 0
          have e1 := hZb.frozen 1
          have e2 := hZb.frozen 2
          have v0 := hYb.at_ (i := 0) rfl
          have v1 := hYb.at_ (i := 1) rfl
          have v2 := hYb.at_ (i := 2) rfl
          have u0 := hYb.frozen 0
          have u1 := hYb.frozen 1
          have u2 := hYb.frozen 2
          have gb := grown_trans hGx hxb
          have kab := (hka.grown hgb (fun b hb => by have h1 : wx.heap.size ≤ b := hb.1; simp; omega)).mono (q := fun b => wx.heap.size ≤ b) (fun b hb => hb.1)
          have kbb := hkb.mono (q := fun b => wx.heap.size ≤ b) (fun b hb => by have := hb.1; omega)
          have n1 : w.heap.size ≠ w.heap.size + 1 := by omega
          have n2 : w.heap.size + 1 ≠ w.heap.size := by omega
          have hzb : -1 ≤ (z8) ∧ (z8) ≤ 7 := hz8b
          go_wp2_with fail
          have hXc := ((hXb.far (p := ⟨w.heap.size, 0, none⟩) (by simp; omega) (.int .i64 ka)).far (p := ⟨w.heap.size, 1, none⟩) (by simp; omega) (.int .i64 na)).far (p := ⟨w.heap.size, 2, none⟩) (by simp; omega) (.slice Aa ksa.length ca)
          have hTc := ((hTb.far (p := ⟨w.heap.size, 0, none⟩) (by simp; omega) (.int .i64 ka)).far (p := ⟨w.heap.size, 1, none⟩) (by simp; omega) (.int .i64 na)).far (p := ⟨w.heap.size, 2, none⟩) (by simp; omega) (.slice Aa ksa.length ca)
          refine mid_intro ⟨hXc.at_ rfl, hXc.at_ rfl, hXc.at_ rfl, hTc.at_ rfl, hTc.at_ rfl, hTc.at_ rfl⟩ (then_cons ?_)
          go_wp2_with fail
          refine mid_intro ⟨hXc.at_ rfl, hXc.at_ rfl, hXc.at_ rfl, hTc.at_ rfl, hTc.at_ rfl, hTc.at_ rfl⟩ (then_nil ?_)
          go_wp2_with fail
          refine bodyPost_ret (v := .tuple #[.agg #[.int .i64 ka, .int .i64 na, .slice Aa ksa.length ca], .int .i64 (z8), .agg #[.int .i64 kb, .int .i64 nb, .slice Ab ksb.length cb]]) (by simp [results, Try.results32, go_sem, d0, d1, d2, v0, v1, v2, n1, n2]) rfl ⟨ka, na, ksa, Aa, ca, z8, kb, nb, ksb, Ab, cb, rfl, hla, by omega, hlb, by omega, hzb.1, hzb.2, ?_, ?_, ?_⟩
          · exact ((((((kab.setCell (by simp; omega) _).setCell (by simp; omega) _).setCell (by simp; omega) _).setCell (by simp; omega) _).setCell (by simp; omega) _).setCell (by simp; omega) _).rd
          · exact ((((((kbb.setCell (by simp; omega) _).setCell (by simp; omega) _).setCell (by simp; omega) _).setCell (by simp; omega) _).setCell (by simp; omega) _).setCell (by simp; omega) _).rd
          · exact ((((((g1.trans (grown_below gb (by omega) (by omega))).setCell (by simp) _).setCell (by simp) _).setCell (by simp) _).setCell (by simp) _).setCell (by simp) _).setCell (by simp) _
        · have q7 : ((m7 : Int) == 0) = false := beq_eq_false_iff_ne.2 (by omega)
          go_wp2_with fail
          refine name_world ?_
          intro wx hwx
          have hXx : Blk wx w2.heap.size #[.int .i64 k, .int .i64 n, .slice A2 ks.length c2] := by rw [hwx]; exact hX7
          have hTx : Blk wx w4.heap.size #[.int .i64 k6, .int .i64 n6, .slice A6 ks6.length c6] := by rw [hwx]; exact hT7
          have hZx : Blk wx w.heap.size #[.int .i64 0, .int .i64 0, .slice none 0 0] := by rw [hwx]; exact hZ7
          have hYx : Blk wx (w.heap.size + 1) #[.int .i64 0, .int .i64 0, .slice none 0 0] := by rw [hwx]; exact hY7
          have hk2x : RdP (fun b => w1.heap.size ≤ b ∧ b < w2.heap.size) wx A2 0 ks := by rw [hwx]; exact hk27
          have hk9x : RdP (fun b => wr.heap.size ≤ b ∧ b ≠ w4.heap.size) wx A6 0 ks6 := by rw [hwx]; exact hk97
          have hRx : Rdr w1.heap.size wx r (p6 + 1) := by rw [hwx]; exact hR7
          have hGx : w1.grownBy wx (some r) := by rw [hwx]; exact hG7
          clear hwx
          have sx := hGx.size
          have lTx := hTx.lt
          have lXx := hXx.lt
          refine wp_region_firstY (fun w' => w'.cell? ⟨w2.heap.size, 0, none⟩ = some (.int .i64 k) ∧ w'.cell? ⟨w2.heap.size, 1, none⟩ = some (.int .i64 n) ∧ w'.cell? ⟨w2.heap.size, 2, none⟩ = some (.slice A2 ks.length c2) ∧ w'.cell? ⟨w4.heap.size, 0, none⟩ = some (.int .i64 k6) ∧ w'.cell? ⟨w4.heap.size, 1, none⟩ = some (.int .i64 n6) ∧ w'.cell? ⟨w4.heap.size, 2, none⟩ = some (.slice A6 ks6.length c6)) [0, 1, 3, 4, 5] [2, 6, 7, 8] [9] [_, _, _, _, _] [_, _, _, _] [_] (by kernel_rfl) (by kernel_rfl) rfl rfl rfl (fun _ _ d _ _ h => by cases d <;> exact h) ⟨hXx.drew.at_ rfl, hXx.drew.at_ rfl, hXx.drew.at_ rfl, hTx.drew.at_ rfl, hTx.drew.at_ rfl, hTx.drew.at_ rfl⟩ ?_
          repeat (first | ((refine takeY_skip (a' := ?_) ?_ ?_ ?_); (rotate_left); (· (simp [Region.wanted, yielded]; done)); (· (simp only [List.getElem_toArray, List.getElem_cons_zero, List.getElem_cons_succ, Act.put, List.setIfInBounds_toArray, List.set_cons_zero, List.set_cons_succ]; exact rfl))) | ((refine takeY_step (v := ?_) (a' := ?_) ?_ ?_ ?_ ?_); (rotate_left 2); (· (simp [Region.wanted, yielded]; done)); (· (intro w' hS'; obtain ⟨s0, s1, s2, s3, s4, s5⟩ := hS'; go_simp; try (with_reducible rfl))); (· (simp only [List.getElem_toArray, List.getElem_cons_zero, List.getElem_cons_succ, Act.put, List.setIfInBounds_toArray, List.set_cons_zero, List.set_cons_succ]; exact rfl))))
          refine takeY_nil (then_cons ?_)
          go_wp2_with (go_at_call 54; refine (mutate_any w1.heap.size r (p6 + 1) k n ks A2 c2 _ (by omega) (by simp; omega) hRx.drew (by omega) hk2x.drew.rd).mono ?_; rintro e wa ⟨ka, na, ksa, Aa, ca, pa, rfl, hla, hsa, hpa, hka, hRa, hga⟩)
          have hxa : wx.grownBy wa (some r) := grown_trans (only_drew (World.grownBy.refl _ _)) hga
          have hXa := hXx.grown hxa (by simp; omega)
          have hTa := hTx.grown hxa (by simp; omega)
          refine mid_intro ⟨hXa.at_ rfl, hXa.at_ rfl, hXa.at_ rfl, hTa.at_ rfl, hTa.at_ rfl, hTa.at_ rfl⟩ (then_cons ?_)
          have sa : wx.heap.size ≤ wa.heap.size := hxa.size
          have hk9a := hk9x.grown hxa (fun b hb => by simp; omega)
          go_wp2_with (go_at_call 54; refine (mutate_any w1.heap.size r pa k6 n6 ks6 A6 c6 _ (by omega) (by omega) hRa (by omega) hk9a.rd).mono ?_; rintro e wb ⟨kb, nb, ksb, Ab, cb, pb, rfl, hlb, hsb, hpb, hkb, hRb, hgb⟩)
          have hxb : wx.grownBy wb (some r) := grown_trans hxa hgb
          have hXb := hXx.grown hxb (by simp; omega)
          have hTb := hTx.grown hxb (by simp; omega)
          refine mid_intro ⟨hXb.at_ rfl, hXb.at_ rfl, hXb.at_ rfl, hTb.at_ rfl, hTb.at_ rfl, hTb.at_ rfl⟩ (then_cons ?_)
          have sb := hgb.size
          have hZb := hZx.grown hxb (by simp; omega)
          have hYb := hYx.grown hxb (by simp; omega)
          have d0 := hZb.at_ (i := 0) rfl
          have d1 := hZb.at_ (i := 1) rfl
          have d2 := hZb.at_ (i := 2) rfl
          have e0 := hZb.frozen 0
          have e1 := hZb.frozen 1
          have e2 := hZb.frozen 2
          have v0 := hYb.at_ (i := 0) rfl
          have v1 := hYb.at_ (i := 1) rfl
          have v2 := hYb.at_ (i := 2) rfl
          have u0 := hYb.frozen 0
          have u1 := hYb.frozen 1
          have u2 := hYb.frozen 2
          have gb := grown_trans hGx hxb
          have kab := (hka.grown hgb (fun b hb => by have h1 : wx.heap.size ≤ b := hb.1; simp; omega)).mono (q := fun b => wx.heap.size ≤ b) (fun b hb => hb.1)
          have kbb := hkb.mono (q := fun b => wx.heap.size ≤ b) (fun b hb => by have := hb.1; omega)
          have n1 : w.heap.size ≠ w.heap.size + 1 := by omega
          have n2 : w.heap.size + 1 ≠ w.heap.size := by omega
          have hzb : -1 ≤ ((j : Int)) ∧ ((j : Int)) ≤ 7 := by omega
          go_wp2_with fail
          have hXc := ((hXb.far (p := ⟨w.heap.size, 0, none⟩) (by simp; omega) (.int .i64 ka)).far (p := ⟨w.heap.size, 1, none⟩) (by simp; omega) (.int .i64 na)).far (p := ⟨w.heap.size, 2, none⟩) (by simp; omega) (.slice Aa ksa.length ca)
          have hTc := ((hTb.far (p := ⟨w.heap.size, 0, none⟩) (by simp; omega) (.int .i64 ka)).far (p := ⟨w.heap.size, 1, none⟩) (by simp; omega) (.int .i64 na)).far (p := ⟨w.heap.size, 2, none⟩) (by simp; omega) (.slice Aa ksa.length ca)
          refine mid_intro ⟨hXc.at_ rfl, hXc.at_ rfl, hXc.at_ rfl, hTc.at_ rfl, hTc.at_ rfl, hTc.at_ rfl⟩ (then_cons ?_)
          go_wp2_with fail
          refine mid_intro ⟨hXc.at_ rfl, hXc.at_ rfl, hXc.at_ rfl, hTc.at_ rfl, hTc.at_ rfl, hTc.at_ rfl⟩ (then_nil ?_)
          go_wp2_with fail
          refine bodyPost_ret (v := .tuple #[.agg #[.int .i64 ka, .int .i64 na, .slice Aa ksa.length ca], .int .i64 ((j : Int)), .agg #[.int .i64 kb, .int .i64 nb, .slice Ab ksb.length cb]]) (by simp [results, Try.results32, go_sem, d0, d1, d2, v0, v1, v2, n1, n2]) rfl ⟨ka, na, ksa, Aa, ca, (j : Int), kb, nb, ksb, Ab, cb, rfl, hla, by omega, hlb, by omega, hzb.1, hzb.2, ?_, ?_, ?_⟩
          · exact ((((((kab.setCell (by simp; omega) _).setCell (by simp; omega) _).setCell (by simp; omega) _).setCell (by simp; omega) _).setCell (by simp; omega) _).setCell (by simp; omega) _).rd
          · exact ((((((kbb.setCell (by simp; omega) _).setCell (by simp; omega) _).setCell (by simp; omega) _).setCell (by simp; omega) _).setCell (by simp; omega) _).setCell (by simp; omega) _).rd
          · exact ((((((g1.trans (grown_below gb (by omega) (by omega))).setCell (by simp) _).setCell (by simp) _).setCell (by simp) _).setCell (by simp) _).setCell (by simp) _).setCell (by simp) _
      | true =>
        go_wp2_with (go_at_call 18; refine ht8'.out.mono ?_; intro e w4 hgo; obtain ⟨A4, c4, rfl, hl4, hf4, hb4⟩ := gotO_pair hgo ht4'.out hb4'.out; clear hgo; have s4 := hb4.size; have r4 := hrr.below hb4 (by omega); have hX4 := (hX.keep hb4); have hZ4 := hZ.keep hb4; have hY4 := hY.keep hb4; have hk24 := hk2.below hb4; have g4 := only_below hg hb4; have hT4 := Blk.new_ w4 25 #[.int .i64 k4, .int .i64 n4, .slice A4 ks4.length c4] rfl)
        refine (pick_any w1.heap.size r p' 6 _ (by omega) (by omega) (by simp; omega) (r4.alloc (by omega) _)).mono ?_
        rintro e w5 ⟨m5, rfl, hm5, hm50, hR5, hg5⟩
        clear hm5 hm50
        have g45 : w4.grownBy w5 (some r) := grown_trans (only_alloc (World.grownBy.refl _ _) _) hg5
        have hT5 := hT4.grown hg5 (by simp; omega)
        have hX5 := hX4.grown g45 (by simp; omega)
        have hZ5 := hZ4.grown g45 (by simp; omega)
        have hY5 := hY4.grown g45 (by simp; omega)
        have hk25 := hk24.grown g45 (fun b hb => by simp; omega)
        have hk45 := (hf4.rdp.grown g45 (fun b hb => by simp; omega)).mono (q := fun b => wr.heap.size ≤ b ∧ b ≠ w4.heap.size) (fun b hb => ⟨hb.1, by omega⟩)
        have g5 := grown_trans g4 g45
        have s5 : w4.heap.size + 1 ≤ w5.heap.size := by have := hg5.size; simpa using this
        have lt5 := hT5.lt
        by_cases m50 : m5 = 0
        · subst m50
          have y0 := hT5.at_ (i := 0) rfl
          have y1 := hT5.at_ (i := 1) rfl
          have y2 := hT5.at_ (i := 2) rfl
          have f0 := hT5.frozen 0
          have f1 := hT5.frozen 1
          have f2 := hT5.frozen 2
          go_wp2_with (go_at_call 53; refine (any_any w1.heap.size r (p' + 1) _ (by omega) (by omega) hR5).mono ?_; rintro e w6 ⟨k6, n6, ks6, A6, c6, p6, rfl, hl6, hs6, hp6, hf6, hr6, hg6⟩; clear y0 y1 y2 f0 f1 f2; have hT6 := hT5.grown hg6 (by simp; omega); have y0 := hT6.at_ (i := 0) rfl; have y1 := hT6.at_ (i := 1) rfl; have y2 := hT6.at_ (i := 2) rfl; have f0 := hT6.frozen 0; have f1 := hT6.frozen 1; have f2 := hT6.frozen 2; have s6 := hg6.size; have lt6 := hT6.lt)
          refine name_calls ?_
          intro wv hwv
          have hXv : Blk wv w2.heap.size #[.int .i64 k, .int .i64 n, .slice A2 ks.length c2] := by rw [hwv]; exact (((hX5.grown hg6 (by simp; omega)).far (by simp; omega) _).far (by simp; omega) _).far (by simp; omega) _
          have hTv : Blk wv w4.heap.size #[.int .i64 k6, .int .i64 n6, .slice A6 ks6.length c6] := by rw [hwv]; exact ((hT6.set_ 0 _).set_ 1 _).set_ 2 _
          have hZv : Blk wv w.heap.size #[.int .i64 0, .int .i64 0, .slice none 0 0] := by rw [hwv]; exact (((hZ5.grown hg6 (by simp; omega)).far (by simp; omega) _).far (by simp; omega) _).far (by simp; omega) _
          have hYv : Blk wv (w.heap.size + 1) #[.int .i64 0, .int .i64 0, .slice none 0 0] := by rw [hwv]; exact (((hY5.grown hg6 (by simp; omega)).far (by simp; omega) _).far (by simp; omega) _).far (by simp; omega) _
          have hk2v : RdP (fun b => w1.heap.size ≤ b ∧ b < w2.heap.size) wv A2 0 ks := by rw [hwv]; exact (((hk25.grown hg6 (fun b hb => by simp; omega)).setCell (a := ⟨w4.heap.size, 0, none⟩) (by simp; omega) _).setCell (a := ⟨w4.heap.size, 1, none⟩) (by simp; omega) _).setCell (a := ⟨w4.heap.size, 2, none⟩) (by simp; omega) _
          have hk9v : RdP (fun b => wr.heap.size ≤ b ∧ b ≠ w4.heap.size) wv A6 0 ks6 := by rw [hwv]; exact (((hf6.rdp.setCell (a := ⟨w4.heap.size, 0, none⟩) (by simp; omega) _).setCell (a := ⟨w4.heap.size, 1, none⟩) (by simp; omega) _).setCell (a := ⟨w4.heap.size, 2, none⟩) (by simp; omega) _).mono (fun b hb => by have h1 := hb.1; first | exact ⟨by omega, by omega⟩ | (simp at h1; exact ⟨by omega, by omega⟩))
          have hRv : Rdr w1.heap.size wv r (p6) := by rw [hwv]; exact ((hr6.setCell (a := ⟨w4.heap.size, 0, none⟩) (by simp; omega) _).setCell (a := ⟨w4.heap.size, 1, none⟩) (by simp; omega) _).setCell (a := ⟨w4.heap.size, 2, none⟩) (by simp; omega) _
          have hGv : w1.grownBy wv (some r) := by rw [hwv]; exact only_setCell (only_setCell (only_setCell (grown_trans g5 hg6) (.inr (by simp; omega)) _) (.inr (by simp; omega)) _) (.inr (by simp; omega)) _
          clear hwv
          have svv := hGv.size
          have lTv := hTv.lt
          have lXv := hXv.lt
          have hs9 : sizes ks6 ≤ 400 := by omega
          refine (pick_any w1.heap.size r (p6) 16 _ (by omega) (by omega) (by omega) hRv).mono ?_
          rintro e w7 ⟨m7, rfl, hm7, hm70, hR7, hg7⟩
          clear hm7 hm70
          have hX7 := hXv.grown hg7 (by simp; omega)
          have hT7 := hTv.grown hg7 (by simp; omega)
          have hZ7 := hZv.grown hg7 (by simp; omega)
          have hY7 := hYv.grown hg7 (by simp; omega)
          have hk27 := hk2v.grown hg7 (fun b hb => by simp; omega)
          have hk97 := hk9v.grown hg7 (fun b hb => by simp; omega)
          have hG7 := grown_trans hGv hg7
          have s7 := hg7.size
          by_cases m70 : m7 = 0
          · subst m70
            go_wp2_with (go_at_call 76; refine (num_any [7, -1, 6] w1.heap.size r (p6 + 1) w7.heap.size _ (by decide) (by decide) (by omega) (by simp; omega) (hR7.alloc (by omega) _) (Blk.new_ _ 3 _ rfl) (by omega)).mono ?_; rintro e w8 ⟨z8, hz8, rfl, hR8, hg8⟩; have hg78 : w7.grownBy w8 (some r) := grown_trans (only_alloc (World.grownBy.refl _ _) _) hg8; have hz8b := num_wf (.inr hz8))
            refine name_world ?_
            intro wx hwx
            have hXx : Blk wx w2.heap.size #[.int .i64 k, .int .i64 n, .slice A2 ks.length c2] := by rw [hwx]; exact hX7.grown hg78 (by simp; omega)
            have hTx : Blk wx w4.heap.size #[.int .i64 k6, .int .i64 n6, .slice A6 ks6.length c6] := by rw [hwx]; exact hT7.grown hg78 (by simp; omega)
            have hZx : Blk wx w.heap.size #[.int .i64 0, .int .i64 0, .slice none 0 0] := by rw [hwx]; exact hZ7.grown hg78 (by simp; omega)
            have hYx : Blk wx (w.heap.size + 1) #[.int .i64 0, .int .i64 0, .slice none 0 0] := by rw [hwx]; exact hY7.grown hg78 (by simp; omega)
            have hk2x : RdP (fun b => w1.heap.size ≤ b ∧ b < w2.heap.size) wx A2 0 ks := by rw [hwx]; exact hk27.grown hg78 (fun b hb => by simp; omega)
            have hk9x : RdP (fun b => wr.heap.size ≤ b ∧ b ≠ w4.heap.size) wx A6 0 ks6 := by rw [hwx]; exact hk97.grown hg78 (fun b hb => by simp; omega)
            have hRx : Rdr w1.heap.size wx r (p6 + 1 + 1) := by rw [hwx]; exact hR8
            have hGx : w1.grownBy wx (some r) := by rw [hwx]; exact grown_trans hG7 hg78
            clear hwx
            have sx := hGx.size
            have lTx := hTx.lt
            have lXx := hXx.lt
            refine wp_region_firstY (fun w' => w'.cell? ⟨w2.heap.size, 0, none⟩ = some (.int .i64 k) ∧ w'.cell? ⟨w2.heap.size, 1, none⟩ = some (.int .i64 n) ∧ w'.cell? ⟨w2.heap.size, 2, none⟩ = some (.slice A2 ks.length c2) ∧ w'.cell? ⟨w4.heap.size, 0, none⟩ = some (.int .i64 k6) ∧ w'.cell? ⟨w4.heap.size, 1, none⟩ = some (.int .i64 n6) ∧ w'.cell? ⟨w4.heap.size, 2, none⟩ = some (.slice A6 ks6.length c6)) [0, 1, 3, 4, 5] [2, 6, 7, 8] [9] [_, _, _, _, _] [_, _, _, _] [_] (by kernel_rfl) (by kernel_rfl) rfl rfl rfl (fun _ _ d _ _ h => by cases d <;> exact h) ⟨hXx.drew.at_ rfl, hXx.drew.at_ rfl, hXx.drew.at_ rfl, hTx.drew.at_ rfl, hTx.drew.at_ rfl, hTx.drew.at_ rfl⟩ ?_
            repeat (first | ((refine takeY_skip (a' := ?_) ?_ ?_ ?_); (rotate_left); (· (simp [Region.wanted, yielded]; done)); (· (simp only [List.getElem_toArray, List.getElem_cons_zero, List.getElem_cons_succ, Act.put, List.setIfInBounds_toArray, List.set_cons_zero, List.set_cons_succ]; exact rfl))) | ((refine takeY_step (v := ?_) (a' := ?_) ?_ ?_ ?_ ?_); (rotate_left 2); (· (simp [Region.wanted, yielded]; done)); (· (intro w' hS'; obtain ⟨s0, s1, s2, s3, s4, s5⟩ := hS'; go_simp; try (with_reducible rfl))); (· (simp only [List.getElem_toArray, List.getElem_cons_zero, List.getElem_cons_succ, Act.put, List.setIfInBounds_toArray, List.set_cons_zero, List.set_cons_succ]; exact rfl))))
            refine takeY_nil (then_cons ?_)
            go_wp2_with (go_at_call 54; refine (mutate_any w1.heap.size r (p6 + 1 + 1) k n ks A2 c2 _ (by omega) (by simp; omega) hRx.drew (by omega) hk2x.drew.rd).mono ?_; rintro e wa ⟨ka, na, ksa, Aa, ca, pa, rfl, hla, hsa, hpa, hka, hRa, hga⟩)
            have hxa : wx.grownBy wa (some r) := grown_trans (only_drew (World.grownBy.refl _ _)) hga
            have hXa := hXx.grown hxa (by simp; omega)
            have hTa := hTx.grown hxa (by simp; omega)
            refine mid_intro ⟨hXa.at_ rfl, hXa.at_ rfl, hXa.at_ rfl, hTa.at_ rfl, hTa.at_ rfl, hTa.at_ rfl⟩ (then_cons ?_)
            have sa : wx.heap.size ≤ wa.heap.size := hxa.size
            have hk9a := hk9x.grown hxa (fun b hb => by simp; omega)
            go_wp2_with (go_at_call 54; refine (mutate_any w1.heap.size r pa k6 n6 ks6 A6 c6 _ (by omega) (by omega) hRa (by omega) hk9a.rd).mono ?_; rintro e wb ⟨kb, nb, ksb, Ab, cb, pb, rfl, hlb, hsb, hpb, hkb, hRb, hgb⟩)
            have hxb : wx.grownBy wb (some r) := grown_trans hxa hgb
            have hXb := hXx.grown hxb (by simp; omega)
            have hTb := hTx.grown hxb (by simp; omega)
            refine mid_intro ⟨hXb.at_ rfl, hXb.at_ rfl, hXb.at_ rfl, hTb.at_ rfl, hTb.at_ rfl, hTb.at_ rfl⟩ (then_cons ?_)
            have sb := hgb.size
            have hZb := hZx.grown hxb (by simp; omega)
            have hYb := hYx.grown hxb (by simp; omega)
            have d0 := hZb.at_ (i := 0) rfl
            have d1 := hZb.at_ (i := 1) rfl
            have d2 := hZb.at_ (i := 2) rfl
            have e0 := hZb.frozen 0
            have e1 := hZb.frozen 1
            have e2 := hZb.frozen 2
            have v0 := hYb.at_ (i := 0) rfl
            have v1 := hYb.at_ (i := 1) rfl
            have v2 := hYb.at_ (i := 2) rfl
            have u0 := hYb.frozen 0
            have u1 := hYb.frozen 1
            have u2 := hYb.frozen 2
            have gb := grown_trans hGx hxb
            have kab := (hka.grown hgb (fun b hb => by have h1 : wx.heap.size ≤ b := hb.1; simp; omega)).mono (q := fun b => wx.heap.size ≤ b) (fun b hb => hb.1)
            have kbb := hkb.mono (q := fun b => wx.heap.size ≤ b) (fun b hb => by have := hb.1; omega)
            have n1 : w.heap.size ≠ w.heap.size + 1 := by omega
            have n2 : w.heap.size + 1 ≠ w.heap.size := by omega
            have hzb : -1 ≤ (z8) ∧ (z8) ≤ 7 := hz8b
            go_wp2_with fail
            have hXc := ((hXb.far (p := ⟨w.heap.size, 0, none⟩) (by simp; omega) (.int .i64 ka)).far (p := ⟨w.heap.size, 1, none⟩) (by simp; omega) (.int .i64 na)).far (p := ⟨w.heap.size, 2, none⟩) (by simp; omega) (.slice Aa ksa.length ca)
            have hTc := ((hTb.far (p := ⟨w.heap.size, 0, none⟩) (by simp; omega) (.int .i64 ka)).far (p := ⟨w.heap.size, 1, none⟩) (by simp; omega) (.int .i64 na)).far (p := ⟨w.heap.size, 2, none⟩) (by simp; omega) (.slice Aa ksa.length ca)
            refine mid_intro ⟨hXc.at_ rfl, hXc.at_ rfl, hXc.at_ rfl, hTc.at_ rfl, hTc.at_ rfl, hTc.at_ rfl⟩ (then_cons ?_)
            go_wp2_with fail
            refine mid_intro ⟨hXc.at_ rfl, hXc.at_ rfl, hXc.at_ rfl, hTc.at_ rfl, hTc.at_ rfl, hTc.at_ rfl⟩ (then_nil ?_)
            go_wp2_with fail
            refine bodyPost_ret (v := .tuple #[.agg #[.int .i64 ka, .int .i64 na, .slice Aa ksa.length ca], .int .i64 (z8), .agg #[.int .i64 kb, .int .i64 nb, .slice Ab ksb.length cb]]) (by simp [results, Try.results32, go_sem, d0, d1, d2, v0, v1, v2, n1, n2]) rfl ⟨ka, na, ksa, Aa, ca, z8, kb, nb, ksb, Ab, cb, rfl, hla, by omega, hlb, by omega, hzb.1, hzb.2, ?_, ?_, ?_⟩
            · exact ((((((kab.setCell (by simp; omega) _).setCell (by simp; omega) _).setCell (by simp; omega) _).setCell (by simp; omega) _).setCell (by simp; omega) _).setCell (by simp; omega) _).rd
            · exact ((((((kbb.setCell (by simp; omega) _).setCell (by simp; omega) _).setCell (by simp; omega) _).setCell (by simp; omega) _).setCell (by simp; omega) _).setCell (by simp; omega) _).rd
            · exact ((((((g1.trans (grown_below gb (by omega) (by omega))).setCell (by simp) _).setCell (by simp) _).setCell (by simp) _).setCell (by simp) _).setCell (by simp) _).setCell (by simp) _
          · have q7 : ((m7 : Int) == 0) = false := beq_eq_false_iff_ne.2 (by omega)
            go_wp2_with fail
            refine name_world ?_
            intro wx hwx
            have hXx : Blk wx w2.heap.size #[.int .i64 k, .int .i64 n, .slice A2 ks.length c2] := by rw [hwx]; exact hX7
            have hTx : Blk wx w4.heap.size #[.int .i64 k6, .int .i64 n6, .slice A6 ks6.length c6] := by rw [hwx]; exact hT7
            have hZx : Blk wx w.heap.size #[.int .i64 0, .int .i64 0, .slice none 0 0] := by rw [hwx]; exact hZ7
            have hYx : Blk wx (w.heap.size + 1) #[.int .i64 0, .int .i64 0, .slice none 0 0] := by rw [hwx]; exact hY7
            have hk2x : RdP (fun b => w1.heap.size ≤ b ∧ b < w2.heap.size) wx A2 0 ks := by rw [hwx]; exact hk27
            have hk9x : RdP (fun b => wr.heap.size ≤ b ∧ b ≠ w4.heap.size) wx A6 0 ks6 := by rw [hwx]; exact hk97
            have hRx : Rdr w1.heap.size wx r (p6 + 1) := by rw [hwx]; exact hR7
            have hGx : w1.grownBy wx (some r) := by rw [hwx]; exact hG7
            clear hwx
            have sx := hGx.size
            have lTx := hTx.lt
            have lXx := hXx.lt
            refine wp_region_firstY (fun w' => w'.cell? ⟨w2.heap.size, 0, none⟩ = some (.int .i64 k) ∧ w'.cell? ⟨w2.heap.size, 1, none⟩ = some (.int .i64 n) ∧ w'.cell? ⟨w2.heap.size, 2, none⟩ = some (.slice A2 ks.length c2) ∧ w'.cell? ⟨w4.heap.size, 0, none⟩ = some (.int .i64 k6) ∧ w'.cell? ⟨w4.heap.size, 1, none⟩ = some (.int .i64 n6) ∧ w'.cell? ⟨w4.heap.size, 2, none⟩ = some (.slice A6 ks6.length c6)) [0, 1, 3, 4, 5] [2, 6, 7, 8] [9] [_, _, _, _, _] [_, _, _, _] [_] (by kernel_rfl) (by kernel_rfl) rfl rfl rfl (fun _ _ d _ _ h => by cases d <;> exact h) ⟨hXx.drew.at_ rfl, hXx.drew.at_ rfl, hXx.drew.at_ rfl, hTx.drew.at_ rfl, hTx.drew.at_ rfl, hTx.drew.at_ rfl⟩ ?_
            repeat (first | ((refine takeY_skip (a' := ?_) ?_ ?_ ?_); (rotate_left); (· (simp [Region.wanted, yielded]; done)); (· (simp only [List.getElem_toArray, List.getElem_cons_zero, List.getElem_cons_succ, Act.put, List.setIfInBounds_toArray, List.set_cons_zero, List.set_cons_succ]; exact rfl))) | ((refine takeY_step (v := ?_) (a' := ?_) ?_ ?_ ?_ ?_); (rotate_left 2); (· (simp [Region.wanted, yielded]; done)); (· (intro w' hS'; obtain ⟨s0, s1, s2, s3, s4, s5⟩ := hS'; go_simp; try (with_reducible rfl))); (· (simp only [List.getElem_toArray, List.getElem_cons_zero, List.getElem_cons_succ, Act.put, List.setIfInBounds_toArray, List.set_cons_zero, List.set_cons_succ]; exact rfl))))
            refine takeY_nil (then_cons ?_)
            go_wp2_with (go_at_call 54; refine (mutate_any w1.heap.size r (p6 + 1) k n ks A2 c2 _ (by omega) (by simp; omega) hRx.drew (by omega) hk2x.drew.rd).mono ?_; rintro e wa ⟨ka, na, ksa, Aa, ca, pa, rfl, hla, hsa, hpa, hka, hRa, hga⟩)
            have hxa : wx.grownBy wa (some r) := grown_trans (only_drew (World.grownBy.refl _ _)) hga
            have hXa := hXx.grown hxa (by simp; omega)
            have hTa := hTx.grown hxa (by simp; omega)
            refine mid_intro ⟨hXa.at_ rfl, hXa.at_ rfl, hXa.at_ rfl, hTa.at_ rfl, hTa.at_ rfl, hTa.at_ rfl⟩ (then_cons ?_)
            have sa : wx.heap.size ≤ wa.heap.size := hxa.size
            have hk9a := hk9x.grown hxa (fun b hb => by simp; omega)
            go_wp2_with (go_at_call 54; refine (mutate_any w1.heap.size r pa k6 n6 ks6 A6 c6 _ (by omega) (by omega) hRa (by omega) hk9a.rd).mono ?_; rintro e wb ⟨kb, nb, ksb, Ab, cb, pb, rfl, hlb, hsb, hpb, hkb, hRb, hgb⟩)
            have hxb : wx.grownBy wb (some r) := grown_trans hxa hgb
            have hXb := hXx.grown hxb (by simp; omega)
            have hTb := hTx.grown hxb (by simp; omega)
            refine mid_intro ⟨hXb.at_ rfl, hXb.at_ rfl, hXb.at_ rfl, hTb.at_ rfl, hTb.at_ rfl, hTb.at_ rfl⟩ (then_cons ?_)
            have sb := hgb.size
            have hZb := hZx.grown hxb (by simp; omega)
            have hYb := hYx.grown hxb (by simp; omega)
            have d0 := hZb.at_ (i := 0) rfl
            have d1 := hZb.at_ (i := 1) rfl
            have d2 := hZb.at_ (i := 2) rfl
            have e0 := hZb.frozen 0
            have e1 := hZb.frozen 1
            have e2 := hZb.frozen 2
            have v0 := hYb.at_ (i := 0) rfl
            have v1 := hYb.at_ (i := 1) rfl
            have v2 := hYb.at_ (i := 2) rfl
            have u0 := hYb.frozen 0
            have u1 := hYb.frozen 1
            have u2 := hYb.frozen 2
            have gb := grown_trans hGx hxb
            have kab := (hka.grown hgb (fun b hb => by have h1 : wx.heap.size ≤ b := hb.1; simp; omega)).mono (q := fun b => wx.heap.size ≤ b) (fun b hb => hb.1)
            have kbb := hkb.mono (q := fun b => wx.heap.size ≤ b) (fun b hb => by have := hb.1; omega)
            have n1 : w.heap.size ≠ w.heap.size + 1 := by omega
            have n2 : w.heap.size + 1 ≠ w.heap.size := by omega
            have hzb : -1 ≤ ((j : Int)) ∧ ((j : Int)) ≤ 7 := by omega
            go_wp2_with fail
            have hXc := ((hXb.far (p := ⟨w.heap.size, 0, none⟩) (by simp; omega) (.int .i64 ka)).far (p := ⟨w.heap.size, 1, none⟩) (by simp; omega) (.int .i64 na)).far (p := ⟨w.heap.size, 2, none⟩) (by simp; omega) (.slice Aa ksa.length ca)
            have hTc := ((hTb.far (p := ⟨w.heap.size, 0, none⟩) (by simp; omega) (.int .i64 ka)).far (p := ⟨w.heap.size, 1, none⟩) (by simp; omega) (.int .i64 na)).far (p := ⟨w.heap.size, 2, none⟩) (by simp; omega) (.slice Aa ksa.length ca)
            refine mid_intro ⟨hXc.at_ rfl, hXc.at_ rfl, hXc.at_ rfl, hTc.at_ rfl, hTc.at_ rfl, hTc.at_ rfl⟩ (then_cons ?_)
            go_wp2_with fail
            refine mid_intro ⟨hXc.at_ rfl, hXc.at_ rfl, hXc.at_ rfl, hTc.at_ rfl, hTc.at_ rfl, hTc.at_ rfl⟩ (then_nil ?_)
            go_wp2_with fail
            refine bodyPost_ret (v := .tuple #[.agg #[.int .i64 ka, .int .i64 na, .slice Aa ksa.length ca], .int .i64 ((j : Int)), .agg #[.int .i64 kb, .int .i64 nb, .slice Ab ksb.length cb]]) (by simp [results, Try.results32, go_sem, d0, d1, d2, v0, v1, v2, n1, n2]) rfl ⟨ka, na, ksa, Aa, ca, (j : Int), kb, nb, ksb, Ab, cb, rfl, hla, by omega, hlb, by omega, hzb.1, hzb.2, ?_, ?_, ?_⟩
            · exact ((((((kab.setCell (by simp; omega) _).setCell (by simp; omega) _).setCell (by simp; omega) _).setCell (by simp; omega) _).setCell (by simp; omega) _).setCell (by simp; omega) _).rd
            · exact ((((((kbb.setCell (by simp; omega) _).setCell (by simp; omega) _).setCell (by simp; omega) _).setCell (by simp; omega) _).setCell (by simp; omega) _).setCell (by simp; omega) _).rd
            · exact ((((((g1.trans (grown_below gb (by omega) (by omega))).setCell (by simp) _).setCell (by simp) _).setCell (by simp) _).setCell (by simp) _).setCell (by simp) _).setCell (by simp) _
        · have q5 : ((m5 : Int) == 0) = false := beq_eq_false_iff_ne.2 (by omega)
          go_wp2_with fail
          refine name_calls ?_
          intro wv hwv
          have hXv : Blk wv w2.heap.size #[.int .i64 k, .int .i64 n, .slice A2 ks.length c2] := by rw [hwv]; exact hX5
          have hTv : Blk wv w4.heap.size #[.int .i64 k4, .int .i64 n4, .slice A4 ks4.length c4] := by rw [hwv]; exact hT5
          have hZv : Blk wv w.heap.size #[.int .i64 0, .int .i64 0, .slice none 0 0] := by rw [hwv]; exact hZ5
          have hYv : Blk wv (w.heap.size + 1) #[.int .i64 0, .int .i64 0, .slice none 0 0] := by rw [hwv]; exact hY5
          have hk2v : RdP (fun b => w1.heap.size ≤ b ∧ b < w2.heap.size) wv A2 0 ks := by rw [hwv]; exact hk25
          have hk9v : RdP (fun b => wr.heap.size ≤ b ∧ b ≠ w4.heap.size) wv A4 0 ks4 := by rw [hwv]; exact hk45
          have hRv : Rdr w1.heap.size wv r (p' + 1) := by rw [hwv]; exact hR5
          have hGv : w1.grownBy wv (some r) := by rw [hwv]; exact g5
          clear hwv
          have svv := hGv.size
          have lTv := hTv.lt
          have lXv := hXv.lt
          have hs9 : sizes ks4 ≤ 400 := hks4
          refine (pick_any w1.heap.size r ((p' + 1)) 16 _ (by omega) (by omega) (by omega) hRv).mono ?_
          rintro e w7 ⟨m7, rfl, hm7, hm70, hR7, hg7⟩
          clear hm7 hm70
          have hX7 := hXv.grown hg7 (by simp; omega)
          have hT7 := hTv.grown hg7 (by simp; omega)
          have hZ7 := hZv.grown hg7 (by simp; omega)
          have hY7 := hYv.grown hg7 (by simp; omega)
          have hk27 := hk2v.grown hg7 (fun b hb => by simp; omega)
          have hk97 := hk9v.grown hg7 (fun b hb => by simp; omega)
          have hG7 := grown_trans hGv hg7
          have s7 := hg7.size
          by_cases m70 : m7 = 0
          · subst m70
            go_wp2_with (go_at_call 76; refine (num_any [7, -1, 6] w1.heap.size r ((p' + 1) + 1) w7.heap.size _ (by decide) (by decide) (by omega) (by simp; omega) (hR7.alloc (by omega) _) (Blk.new_ _ 3 _ rfl) (by omega)).mono ?_; rintro e w8 ⟨z8, hz8, rfl, hR8, hg8⟩; have hg78 : w7.grownBy w8 (some r) := grown_trans (only_alloc (World.grownBy.refl _ _) _) hg8; have hz8b := num_wf (.inr hz8))
            refine name_world ?_
            intro wx hwx
            have hXx : Blk wx w2.heap.size #[.int .i64 k, .int .i64 n, .slice A2 ks.length c2] := by rw [hwx]; exact hX7.grown hg78 (by simp; omega)
            have hTx : Blk wx w4.heap.size #[.int .i64 k4, .int .i64 n4, .slice A4 ks4.length c4] := by rw [hwx]; exact hT7.grown hg78 (by simp; omega)
            have hZx : Blk wx w.heap.size #[.int .i64 0, .int .i64 0, .slice none 0 0] := by rw [hwx]; exact hZ7.grown hg78 (by simp; omega)
            have hYx : Blk wx (w.heap.size + 1) #[.int .i64 0, .int .i64 0, .slice none 0 0] := by rw [hwx]; exact hY7.grown hg78 (by simp; omega)
            have hk2x : RdP (fun b => w1.heap.size ≤ b ∧ b < w2.heap.size) wx A2 0 ks := by rw [hwx]; exact hk27.grown hg78 (fun b hb => by simp; omega)
            have hk9x : RdP (fun b => wr.heap.size ≤ b ∧ b ≠ w4.heap.size) wx A4 0 ks4 := by rw [hwx]; exact hk97.grown hg78 (fun b hb => by simp; omega)
            have hRx : Rdr w1.heap.size wx r ((p' + 1) + 1 + 1) := by rw [hwx]; exact hR8
            have hGx : w1.grownBy wx (some r) := by rw [hwx]; exact grown_trans hG7 hg78
            clear hwx
            have sx := hGx.size
            have lTx := hTx.lt
            have lXx := hXx.lt
            refine wp_region_firstY (fun w' => w'.cell? ⟨w2.heap.size, 0, none⟩ = some (.int .i64 k) ∧ w'.cell? ⟨w2.heap.size, 1, none⟩ = some (.int .i64 n) ∧ w'.cell? ⟨w2.heap.size, 2, none⟩ = some (.slice A2 ks.length c2) ∧ w'.cell? ⟨w4.heap.size, 0, none⟩ = some (.int .i64 k4) ∧ w'.cell? ⟨w4.heap.size, 1, none⟩ = some (.int .i64 n4) ∧ w'.cell? ⟨w4.heap.size, 2, none⟩ = some (.slice A4 ks4.length c4)) [0, 1, 3, 4, 5] [2, 6, 7, 8] [9] [_, _, _, _, _] [_, _, _, _] [_] (by kernel_rfl) (by kernel_rfl) rfl rfl rfl (fun _ _ d _ _ h => by cases d <;> exact h) ⟨hXx.drew.at_ rfl, hXx.drew.at_ rfl, hXx.drew.at_ rfl, hTx.drew.at_ rfl, hTx.drew.at_ rfl, hTx.drew.at_ rfl⟩ ?_
            repeat (first | ((refine takeY_skip (a' := ?_) ?_ ?_ ?_); (rotate_left); (· (simp [Region.wanted, yielded]; done)); (· (simp only [List.getElem_toArray, List.getElem_cons_zero, List.getElem_cons_succ, Act.put, List.setIfInBounds_toArray, List.set_cons_zero, List.set_cons_succ]; exact rfl))) | ((refine takeY_step (v := ?_) (a' := ?_) ?_ ?_ ?_ ?_); (rotate_left 2); (· (simp [Region.wanted, yielded]; done)); (· (intro w' hS'; obtain ⟨s0, s1, s2, s3, s4, s5⟩ := hS'; go_simp; try (with_reducible rfl))); (· (simp only [List.getElem_toArray, List.getElem_cons_zero, List.getElem_cons_succ, Act.put, List.setIfInBounds_toArray, List.set_cons_zero, List.set_cons_succ]; exact rfl))))
            refine takeY_nil (then_cons ?_)
            go_wp2_with (go_at_call 54; refine (mutate_any w1.heap.size r ((p' + 1) + 1 + 1) k n ks A2 c2 _ (by omega) (by simp; omega) hRx.drew (by omega) hk2x.drew.rd).mono ?_; rintro e wa ⟨ka, na, ksa, Aa, ca, pa, rfl, hla, hsa, hpa, hka, hRa, hga⟩)
            have hxa : wx.grownBy wa (some r) := grown_trans (only_drew (World.grownBy.refl _ _)) hga
            have hXa := hXx.grown hxa (by simp; omega)
            have hTa := hTx.grown hxa (by simp; omega)
            refine mid_intro ⟨hXa.at_ rfl, hXa.at_ rfl, hXa.at_ rfl, hTa.at_ rfl, hTa.at_ rfl, hTa.at_ rfl⟩ (then_cons ?_)
            have sa : wx.heap.size ≤ wa.heap.size := hxa.size
            have hk9a := hk9x.grown hxa (fun b hb => by simp; omega)
            go_wp2_with (go_at_call 54; refine (mutate_any w1.heap.size r pa k4 n4 ks4 A4 c4 _ (by omega) (by omega) hRa (by omega) hk9a.rd).mono ?_; rintro e wb ⟨kb, nb, ksb, Ab, cb, pb, rfl, hlb, hsb, hpb, hkb, hRb, hgb⟩)
            have hxb : wx.grownBy wb (some r) := grown_trans hxa hgb
            have hXb := hXx.grown hxb (by simp; omega)
            have hTb := hTx.grown hxb (by simp; omega)
            refine mid_intro ⟨hXb.at_ rfl, hXb.at_ rfl, hXb.at_ rfl, hTb.at_ rfl, hTb.at_ rfl, hTb.at_ rfl⟩ (then_cons ?_)
            have sb := hgb.size
            have hZb := hZx.grown hxb (by simp; omega)
            have hYb := hYx.grown hxb (by simp; omega)
            have d0 := hZb.at_ (i := 0) rfl
            have d1 := hZb.at_ (i := 1) rfl
            have d2 := hZb.at_ (i := 2) rfl
            have e0 := hZb.frozen 0
            have e1 := hZb.frozen 1
            have e2 := hZb.frozen 2
            have v0 := hYb.at_ (i := 0) rfl
            have v1 := hYb.at_ (i := 1) rfl
            have v2 := hYb.at_ (i := 2) rfl
            have u0 := hYb.frozen 0
            have u1 := hYb.frozen 1
            have u2 := hYb.frozen 2
            have gb := grown_trans hGx hxb
            have kab := (hka.grown hgb (fun b hb => by have h1 : wx.heap.size ≤ b := hb.1; simp; omega)).mono (q := fun b => wx.heap.size ≤ b) (fun b hb => hb.1)
            have kbb := hkb.mono (q := fun b => wx.heap.size ≤ b) (fun b hb => by have := hb.1; omega)
            have n1 : w.heap.size ≠ w.heap.size + 1 := by omega
            have n2 : w.heap.size + 1 ≠ w.heap.size := by omega
            have hzb : -1 ≤ (z8) ∧ (z8) ≤ 7 := hz8b
            go_wp2_with fail
            have hXc := ((hXb.far (p := ⟨w.heap.size, 0, none⟩) (by simp; omega) (.int .i64 ka)).far (p := ⟨w.heap.size, 1, none⟩) (by simp; omega) (.int .i64 na)).far (p := ⟨w.heap.size, 2, none⟩) (by simp; omega) (.slice Aa ksa.length ca)
            have hTc := ((hTb.far (p := ⟨w.heap.size, 0, none⟩) (by simp; omega) (.int .i64 ka)).far (p := ⟨w.heap.size, 1, none⟩) (by simp; omega) (.int .i64 na)).far (p := ⟨w.heap.size, 2, none⟩) (by simp; omega) (.slice Aa ksa.length ca)
            refine mid_intro ⟨hXc.at_ rfl, hXc.at_ rfl, hXc.at_ rfl, hTc.at_ rfl, hTc.at_ rfl, hTc.at_ rfl⟩ (then_cons ?_)
            go_wp2_with fail
            refine mid_intro ⟨hXc.at_ rfl, hXc.at_ rfl, hXc.at_ rfl, hTc.at_ rfl, hTc.at_ rfl, hTc.at_ rfl⟩ (then_nil ?_)
            go_wp2_with fail
            refine bodyPost_ret (v := .tuple #[.agg #[.int .i64 ka, .int .i64 na, .slice Aa ksa.length ca], .int .i64 (z8), .agg #[.int .i64 kb, .int .i64 nb, .slice Ab ksb.length cb]]) (by simp [results, Try.results32, go_sem, d0, d1, d2, v0, v1, v2, n1, n2]) rfl ⟨ka, na, ksa, Aa, ca, z8, kb, nb, ksb, Ab, cb, rfl, hla, by omega, hlb, by omega, hzb.1, hzb.2, ?_, ?_, ?_⟩
            · exact ((((((kab.setCell (by simp; omega) _).setCell (by simp; omega) _).setCell (by simp; omega) _).setCell (by simp; omega) _).setCell (by simp; omega) _).setCell (by simp; omega) _).rd
            · exact ((((((kbb.setCell (by simp; omega) _).setCell (by simp; omega) _).setCell (by simp; omega) _).setCell (by simp; omega) _).setCell (by simp; omega) _).setCell (by simp; omega) _).rd
            · exact ((((((g1.trans (grown_below gb (by omega) (by omega))).setCell (by simp) _).setCell (by simp) _).setCell (by simp) _).setCell (by simp) _).setCell (by simp) _).setCell (by simp) _
          · have q7 : ((m7 : Int) == 0) = false := beq_eq_false_iff_ne.2 (by omega)
            go_wp2_with fail
            refine name_world ?_
            intro wx hwx
            have hXx : Blk wx w2.heap.size #[.int .i64 k, .int .i64 n, .slice A2 ks.length c2] := by rw [hwx]; exact hX7
            have hTx : Blk wx w4.heap.size #[.int .i64 k4, .int .i64 n4, .slice A4 ks4.length c4] := by rw [hwx]; exact hT7
            have hZx : Blk wx w.heap.size #[.int .i64 0, .int .i64 0, .slice none 0 0] := by rw [hwx]; exact hZ7
            have hYx : Blk wx (w.heap.size + 1) #[.int .i64 0, .int .i64 0, .slice none 0 0] := by rw [hwx]; exact hY7
            have hk2x : RdP (fun b => w1.heap.size ≤ b ∧ b < w2.heap.size) wx A2 0 ks := by rw [hwx]; exact hk27
            have hk9x : RdP (fun b => wr.heap.size ≤ b ∧ b ≠ w4.heap.size) wx A4 0 ks4 := by rw [hwx]; exact hk97
            have hRx : Rdr w1.heap.size wx r ((p' + 1) + 1) := by rw [hwx]; exact hR7
            have hGx : w1.grownBy wx (some r) := by rw [hwx]; exact hG7
            clear hwx
            have sx := hGx.size
            have lTx := hTx.lt
            have lXx := hXx.lt
            refine wp_region_firstY (fun w' => w'.cell? ⟨w2.heap.size, 0, none⟩ = some (.int .i64 k) ∧ w'.cell? ⟨w2.heap.size, 1, none⟩ = some (.int .i64 n) ∧ w'.cell? ⟨w2.heap.size, 2, none⟩ = some (.slice A2 ks.length c2) ∧ w'.cell? ⟨w4.heap.size, 0, none⟩ = some (.int .i64 k4) ∧ w'.cell? ⟨w4.heap.size, 1, none⟩ = some (.int .i64 n4) ∧ w'.cell? ⟨w4.heap.size, 2, none⟩ = some (.slice A4 ks4.length c4)) [0, 1, 3, 4, 5] [2, 6, 7, 8] [9] [_, _, _, _, _] [_, _, _, _] [_] (by kernel_rfl) (by kernel_rfl) rfl rfl rfl (fun _ _ d _ _ h => by cases d <;> exact h) ⟨hXx.drew.at_ rfl, hXx.drew.at_ rfl, hXx.drew.at_ rfl, hTx.drew.at_ rfl, hTx.drew.at_ rfl, hTx.drew.at_ rfl⟩ ?_
            repeat (first | ((refine takeY_skip (a' := ?_) ?_ ?_ ?_); (rotate_left); (· (simp [Region.wanted, yielded]; done)); (· (simp only [List.getElem_toArray, List.getElem_cons_zero, List.getElem_cons_succ, Act.put, List.setIfInBounds_toArray, List.set_cons_zero, List.set_cons_succ]; exact rfl))) | ((refine takeY_step (v := ?_) (a' := ?_) ?_ ?_ ?_ ?_); (rotate_left 2); (· (simp [Region.wanted, yielded]; done)); (· (intro w' hS'; obtain ⟨s0, s1, s2, s3, s4, s5⟩ := hS'; go_simp; try (with_reducible rfl))); (· (simp only [List.getElem_toArray, List.getElem_cons_zero, List.getElem_cons_succ, Act.put, List.setIfInBounds_toArray, List.set_cons_zero, List.set_cons_succ]; exact rfl))))
            refine takeY_nil (then_cons ?_)
            go_wp2_with (go_at_call 54; refine (mutate_any w1.heap.size r ((p' + 1) + 1) k n ks A2 c2 _ (by omega) (by simp; omega) hRx.drew (by omega) hk2x.drew.rd).mono ?_; rintro e wa ⟨ka, na, ksa, Aa, ca, pa, rfl, hla, hsa, hpa, hka, hRa, hga⟩)
            have hxa : wx.grownBy wa (some r) := grown_trans (only_drew (World.grownBy.refl _ _)) hga
            have hXa := hXx.grown hxa (by simp; omega)
            have hTa := hTx.grown hxa (by simp; omega)
            refine mid_intro ⟨hXa.at_ rfl, hXa.at_ rfl, hXa.at_ rfl, hTa.at_ rfl, hTa.at_ rfl, hTa.at_ rfl⟩ (then_cons ?_)
            have sa : wx.heap.size ≤ wa.heap.size := hxa.size
            have hk9a := hk9x.grown hxa (fun b hb => by simp; omega)
            go_wp2_with (go_at_call 54; refine (mutate_any w1.heap.size r pa k4 n4 ks4 A4 c4 _ (by omega) (by omega) hRa (by omega) hk9a.rd).mono ?_; rintro e wb ⟨kb, nb, ksb, Ab, cb, pb, rfl, hlb, hsb, hpb, hkb, hRb, hgb⟩)
            have hxb : wx.grownBy wb (some r) := grown_trans hxa hgb
            have hXb := hXx.grown hxb (by simp; omega)
            have hTb := hTx.grown hxb (by simp; omega)
            refine mid_intro ⟨hXb.at_ rfl, hXb.at_ rfl, hXb.at_ rfl, hTb.at_ rfl, hTb.at_ rfl, hTb.at_ rfl⟩ (then_cons ?_)
            have sb := hgb.size
            have hZb := hZx.grown hxb (by simp; omega)
            have hYb := hYx.grown hxb (by simp; omega)
            have d0 := hZb.at_ (i := 0) rfl
            have d1 := hZb.at_ (i := 1) rfl
            have d2 := hZb.at_ (i := 2) rfl
            have e0 := hZb.frozen 0
            have e1 := hZb.frozen 1
            have e2 := hZb.frozen 2
            have v0 := hYb.at_ (i := 0) rfl
            have v1 := hYb.at_ (i := 1) rfl
            have v2 := hYb.at_ (i := 2) rfl
            have u0 := hYb.frozen 0
            have u1 := hYb.frozen 1
            have u2 := hYb.frozen 2
            have gb := grown_trans hGx hxb
            have kab := (hka.grown hgb (fun b hb => by have h1 : wx.heap.size ≤ b := hb.1; simp; omega)).mono (q := fun b => wx.heap.size ≤ b) (fun b hb => hb.1)
            have kbb := hkb.mono (q := fun b => wx.heap.size ≤ b) (fun b hb => by have := hb.1; omega)
            have n1 : w.heap.size ≠ w.heap.size + 1 := by omega
            have n2 : w.heap.size + 1 ≠ w.heap.size := by omega
            have hzb : -1 ≤ ((j : Int)) ∧ ((j : Int)) ≤ 7 := by omega
            go_wp2_with fail
            have hXc := ((hXb.far (p := ⟨w.heap.size, 0, none⟩) (by simp; omega) (.int .i64 ka)).far (p := ⟨w.heap.size, 1, none⟩) (by simp; omega) (.int .i64 na)).far (p := ⟨w.heap.size, 2, none⟩) (by simp; omega) (.slice Aa ksa.length ca)
            have hTc := ((hTb.far (p := ⟨w.heap.size, 0, none⟩) (by simp; omega) (.int .i64 ka)).far (p := ⟨w.heap.size, 1, none⟩) (by simp; omega) (.int .i64 na)).far (p := ⟨w.heap.size, 2, none⟩) (by simp; omega) (.slice Aa ksa.length ca)
            refine mid_intro ⟨hXc.at_ rfl, hXc.at_ rfl, hXc.at_ rfl, hTc.at_ rfl, hTc.at_ rfl, hTc.at_ rfl⟩ (then_cons ?_)
            go_wp2_with fail
            refine mid_intro ⟨hXc.at_ rfl, hXc.at_ rfl, hXc.at_ rfl, hTc.at_ rfl, hTc.at_ rfl, hTc.at_ rfl⟩ (then_nil ?_)
            go_wp2_with fail
            refine bodyPost_ret (v := .tuple #[.agg #[.int .i64 ka, .int .i64 na, .slice Aa ksa.length ca], .int .i64 ((j : Int)), .agg #[.int .i64 kb, .int .i64 nb, .slice Ab ksb.length cb]]) (by simp [results, Try.results32, go_sem, d0, d1, d2, v0, v1, v2, n1, n2]) rfl ⟨ka, na, ksa, Aa, ca, (j : Int), kb, nb, ksb, Ab, cb, rfl, hla, by omega, hlb, by omega, hzb.1, hzb.2, ?_, ?_, ?_⟩
            · exact ((((((kab.setCell (by simp; omega) _).setCell (by simp; omega) _).setCell (by simp; omega) _).setCell (by simp; omega) _).setCell (by simp; omega) _).setCell (by simp; omega) _).rd
            · exact ((((((kbb.setCell (by simp; omega) _).setCell (by simp; omega) _).setCell (by simp; omega) _).setCell (by simp; omega) _).setCell (by simp; omega) _).setCell (by simp; omega) _).rd
            · exact ((((((g1.trans (grown_below gb (by omega) (by omega))).setCell (by simp) _).setCell (by simp) _).setCell (by simp) _).setCell (by simp) _).setCell (by simp) _).setCell (by simp) _
end Go.Proofs.Ytodkenpmhhbppaa
