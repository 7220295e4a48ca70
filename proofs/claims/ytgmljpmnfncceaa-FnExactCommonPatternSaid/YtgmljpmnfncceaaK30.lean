/-
  Texts that are common to the laws: FHole. No condition.
-/
import Derived.Test.YtgmljpmnfncceaaK27
import Derived.Test.YtgmljpmnfncceaaK29

namespace Go.Proofs.Ytgmljpmnfncceaa
open Go.RowKit
set_option linter.unusedSimpArgs false
set_option linter.unusedVariables false

set_option maxHeartbeats 8000000 in
set_option maxRecDepth 100000 in
theorem iHole_any (B : Nat) (E : Nat → Prop) (gf : Nat) (v1 v2 : Value) (k n : Int) (ks : List Tm) (A : Option Addr) (c : Nat) (ku nu : Int) (us : List Tm) (U : Option Addr) (cu : Nat) (d : Int) (l r : List Tm) (m : Nat) (w : World) (hgf : gf < B) (hB : B ≤ w.heap.size) (hE : ∀ b, E b → b < w.heap.size)
    (hv : validT (.mk k n ks) = true) (hvu : validT (.mk ku nu us) = true) (hd : 0 ≤ d) (hdq : d ≤ 900) (hst : PrsOk m (l, r)) (hm : m ≤ 100000) (hr : Rd w A 0 ks) (hru : Rd w U 0 us) (hf : Blk w gf #[v1, v2]) (hR : Rows2 B E w v1 v2 l r) :
    Calls Try.prog 56 #[.pointer (some ⟨gf, 0, none⟩), .agg #[.int .i64 k, .int .i64 n, .slice A ks.length c], .agg #[.int .i64 ku, .int .i64 nu, .slice U us.length cu], .int .i64 d] w
      (FnGot B E gf v1 v2 w (l, r) (holeOf holeI d (.mk k n ks) (.mk ku nu us) (l, r))) := by
  have hrl : r.length = l.length := hst.1.symm
  have hll : l.length ≤ m := hst.2.1
  have hrl' := hide hrl
  have hlen := length_le_sizes ks
  have hlenu := length_le_sizes us
  have hzk := validT_size hv
  have hzu := validT_size hvu
  rw [Tm.size] at hzk hzu
  have hsa : shape 30 (.mk k n ks) = true := by simp only [validT, Bool.and_eq_true] at hv; exact hv.1
  have hsu : shape 30 (.mk ku nu us) = true := by simp only [validT, Bool.and_eq_true] at hvu; exact hvu.1
  have hsa' := hide hsa
  have hsu' := hide hsu
  obtain ⟨A1, c1, A2, c2, hv1, hv2, -, -⟩ := hR.rd
  rw [hrl] at hv2
  subst hv1 hv2
  clear hsa hsu hv hvu hst hrl
  cases hx : shiftI (-d) 0 (.mk k n ks) with
  | none =>
    have hz : holeOf holeI d (.mk k n ks) (.mk ku nu us) (l, r) = none := by rw [holeOf, hx]
    have hz' := hide hz
    have hx' := hide hx
    cases hy : shiftI (-d) 0 (.mk ku nu us) with
    | none =>
      have hy' := hide hy
      clear hz hx hy
      go_enter Try.func56, Try.ntmps56
      go_upto_region 1 with fail
      refine name_world ?_
      intro w0 hw0
      have hF0 : Fr w k n ks A c ku nu us U cu w0 := by
        rw [hw0]
        exact ⟨((Blk.new_ _ 28 _ rfl).alloc _).alloc _, (Blk.new_ _ 28 _ (by simp)).alloc _, Blk.new_ _ 28 _ (by simp), by_alloc (by_alloc (by_alloc (by_refl _) _) _) _⟩
      clear hw0
      obtain ⟨x0, x1, x2⟩ := hF0.h0.three
      obtain ⟨y0, y1, y2⟩ := hF0.h1.three
      go_upto_region 3 with (first
        | (go_at_call 78; have _t := tok1; refine (shift_any ku nu us U cu (-d) 0 _ (by omega) (by omega) (by omega) hsu'.out (hru.below hF1.hb)).mono ?_; rw [hy'.out]; intro e w2 hgo; obtain ⟨rfl, hb2⟩ := gotO_noneF hgo; have hF2 := hF1.below hb2; have hX2 := hX1.keep hb2)
        | (go_at_call 78; refine (shift_any k n ks A c (-d) 0 _ (by omega) (by omega) (by omega) hsa'.out (hr.below hF0.hb)).mono ?_; rw [hx'.out]; intro e w1 hgo; obtain ⟨rfl, hb1⟩ := gotO_noneF hgo; have rX1 := trivial; have hl1 := trivial; have hF1 := (hF0.below hb1).alloc (.cells #[.int .i64 0, .int .i64 0, .slice none 0 0] 28); have hX1 := Blk.new_ w1 28 #[.int .i64 0, .int .i64 0, .slice none 0 0] rfl; have s1 := hF0.size; have s1' := (hF0.below hb1).size; have s1'' : w.heap.size + 1 < w1.heap.size := (by omega); clear x0 x1 x2 y0 y1 y2; obtain ⟨y0, y1, y2⟩ := (hF0.below hb1).h1.three; have tok1 := trivial))
      refine name_world ?_
      intro wq hwq
      have hF : Fr w k n ks A c ku nu us U cu wq := by rw [hwq]; exact hF2.alloc _
      have hX : Blk wq w1.heap.size #[.int .i64 0, .int .i64 0, .slice none 0 0] := by rw [hwq]; exact hX2.alloc _
      have hY : Blk wq w2.heap.size #[.int .i64 0, .int .i64 0, .slice none 0 0] := by rw [hwq]; exact Blk.new_ _ _ _ rfl
      clear hwq y0 y1 y2
      have hsz := hF.size
      have hfq := hf.keep hF.hb
      have hRq := hR.below hF.hb
      have lX := hX.lt
      have lY := hY.lt
      obtain ⟨d0, d1, d2⟩ := hF.h2.three
      have e0 := hF.h2.frozen 0
      have e1 := hF.h2.frozen 1
      have e2 := hF.h2.frozen 2
      go_wp2_with fail
      refine bodyPost_ret (v := .tuple #[.agg #[.int .i64 0, .int .i64 0, .slice none 0 0], .bool false]) ?_ rfl ?_
      · simp [results, Try.results56, go_sem, d0, d1, d2]
      · rw [hz'.out]
        have hb3 := by_set3 (W := w) hF.hb (g := w.heap.size + 1 + 1) (by omega) (.int .i64 0) (.int .i64 0) (.slice none 0 0)
        exact ⟨_, _, Chg.of_below hb3, .refl _ _, .refl _ _, hf.keep hb3, rfl, hR.below hb3⟩
    | some y =>
      obtain ⟨ky, ny, Y⟩ := y
      have hy' := hide hy
      clear hz hx hy
      go_enter Try.func56, Try.ntmps56
      go_upto_region 1 with fail
      refine name_world ?_
      intro w0 hw0
      have hF0 : Fr w k n ks A c ku nu us U cu w0 := by
        rw [hw0]
        exact ⟨((Blk.new_ _ 28 _ rfl).alloc _).alloc _, (Blk.new_ _ 28 _ (by simp)).alloc _, Blk.new_ _ 28 _ (by simp), by_alloc (by_alloc (by_alloc (by_refl _) _) _) _⟩
      clear hw0
      obtain ⟨x0, x1, x2⟩ := hF0.h0.three
      obtain ⟨y0, y1, y2⟩ := hF0.h1.three
      go_upto_region 3 with (first
        | (go_at_call 78; have _t := tok1; refine (shift_any ku nu us U cu (-d) 0 _ (by omega) (by omega) (by omega) hsu'.out (hru.below hF1.hb)).mono ?_; rw [hy'.out]; intro e w2 hgo; obtain ⟨A2', c2', rfl, hl2, hf2, hb2⟩ := gotO_someF hgo; have rY2 := (Fresh.rdp hf2).mono (q := fun b => w.heap.size + 3 ≤ b) (fun b hb => by have := hF1.size; omega); have hF2 := hF1.below hb2; have hX2 := hX1.keep hb2)
        | (go_at_call 78; refine (shift_any k n ks A c (-d) 0 _ (by omega) (by omega) (by omega) hsa'.out (hr.below hF0.hb)).mono ?_; rw [hx'.out]; intro e w1 hgo; obtain ⟨rfl, hb1⟩ := gotO_noneF hgo; have rX1 := trivial; have hl1 := trivial; have hF1 := (hF0.below hb1).alloc (.cells #[.int .i64 0, .int .i64 0, .slice none 0 0] 28); have hX1 := Blk.new_ w1 28 #[.int .i64 0, .int .i64 0, .slice none 0 0] rfl; have s1 := hF0.size; have s1' := (hF0.below hb1).size; have s1'' : w.heap.size + 1 < w1.heap.size := (by omega); clear x0 x1 x2 y0 y1 y2; obtain ⟨y0, y1, y2⟩ := (hF0.below hb1).h1.three; have tok1 := trivial))
      refine name_world ?_
      intro wq hwq
      have hF : Fr w k n ks A c ku nu us U cu wq := by rw [hwq]; exact hF2.alloc _
      have hX : Blk wq w1.heap.size #[.int .i64 0, .int .i64 0, .slice none 0 0] := by rw [hwq]; exact hX2.alloc _
      have hY : Blk wq w2.heap.size #[.int .i64 ky, .int .i64 ny, .slice A2' Y.length c2'] := by rw [hwq]; exact Blk.new_ _ _ _ rfl
      have rY : RdP (fun b => w.heap.size + 3 ≤ b) wq A2' 0 Y := by rw [hwq]; exact rY2.alloc _
      clear hwq y0 y1 y2
      have hsz := hF.size
      have hfq := hf.keep hF.hb
      have hRq := hR.below hF.hb
      have lX := hX.lt
      have lY := hY.lt
      obtain ⟨d0, d1, d2⟩ := hF.h2.three
      have e0 := hF.h2.frozen 0
      have e1 := hF.h2.frozen 1
      have e2 := hF.h2.frozen 2
      go_wp2_with fail
      refine bodyPost_ret (v := .tuple #[.agg #[.int .i64 0, .int .i64 0, .slice none 0 0], .bool false]) ?_ rfl ?_
      · simp [results, Try.results56, go_sem, d0, d1, d2]
      · rw [hz'.out]
        have hb3 := by_set3 (W := w) hF.hb (g := w.heap.size + 1 + 1) (by omega) (.int .i64 0) (.int .i64 0) (.slice none 0 0)
        exact ⟨_, _, Chg.of_below hb3, .refl _ _, .refl _ _, hf.keep hb3, rfl, hR.below hb3⟩
  | some x =>
    obtain ⟨kx, nx, X⟩ := x
    cases hy : shiftI (-d) 0 (.mk ku nu us) with
    | none =>
      have hz : holeOf holeI d (.mk k n ks) (.mk ku nu us) (l, r) = none := by rw [holeOf, hx, hy]
      have hz' := hide hz
      have hx' := hide hx
      have hy' := hide hy
      clear hz hx hy
      go_enter Try.func56, Try.ntmps56
      go_upto_region 1 with fail
      refine name_world ?_
      intro w0 hw0
      have hF0 : Fr w k n ks A c ku nu us U cu w0 := by
        rw [hw0]
        exact ⟨((Blk.new_ _ 28 _ rfl).alloc _).alloc _, (Blk.new_ _ 28 _ (by simp)).alloc _, Blk.new_ _ 28 _ (by simp), by_alloc (by_alloc (by_alloc (by_refl _) _) _) _⟩
      clear hw0
      obtain ⟨x0, x1, x2⟩ := hF0.h0.three
      obtain ⟨y0, y1, y2⟩ := hF0.h1.three
      go_upto_region 3 with (first
        | (go_at_call 78; have _t := tok1; refine (shift_any ku nu us U cu (-d) 0 _ (by omega) (by omega) (by omega) hsu'.out (hru.below hF1.hb)).mono ?_; rw [hy'.out]; intro e w2 hgo; obtain ⟨rfl, hb2⟩ := gotO_noneF hgo; have rX2 := (rX1.alloc (.cells #[.int .i64 kx, .int .i64 nx, .slice A1' X.length c1'] 28)).below hb2; have hF2 := hF1.below hb2; have hX2 := hX1.keep hb2)
        | (go_at_call 78; refine (shift_any k n ks A c (-d) 0 _ (by omega) (by omega) (by omega) hsa'.out (hr.below hF0.hb)).mono ?_; rw [hx'.out]; intro e w1 hgo; obtain ⟨A1', c1', rfl, hl1, hf1, hb1⟩ := gotO_someF hgo; have rX1 := (Fresh.rdp hf1).mono (q := fun b => w.heap.size + 3 ≤ b) (fun b hb => by have := hF0.size; omega); have hF1 := (hF0.below hb1).alloc (.cells #[.int .i64 kx, .int .i64 nx, .slice A1' X.length c1'] 28); have hX1 := Blk.new_ w1 28 #[.int .i64 kx, .int .i64 nx, .slice A1' X.length c1'] rfl; have s1 := hF0.size; have s1' := (hF0.below hb1).size; have s1'' : w.heap.size + 1 < w1.heap.size := (by omega); clear x0 x1 x2 y0 y1 y2; obtain ⟨y0, y1, y2⟩ := (hF0.below hb1).h1.three; have tok1 := trivial))
      refine name_world ?_
      intro wq hwq
      have hF : Fr w k n ks A c ku nu us U cu wq := by rw [hwq]; exact hF2.alloc _
      have hX : Blk wq w1.heap.size #[.int .i64 kx, .int .i64 nx, .slice A1' X.length c1'] := by rw [hwq]; exact hX2.alloc _
      have hY : Blk wq w2.heap.size #[.int .i64 0, .int .i64 0, .slice none 0 0] := by rw [hwq]; exact Blk.new_ _ _ _ rfl
      have rX : RdP (fun b => w.heap.size + 3 ≤ b) wq A1' 0 X := by rw [hwq]; exact rX2.alloc _
      clear hwq y0 y1 y2
      have hsz := hF.size
      have hfq := hf.keep hF.hb
      have hRq := hR.below hF.hb
      have lX := hX.lt
      have lY := hY.lt
      obtain ⟨d0, d1, d2⟩ := hF.h2.three
      have e0 := hF.h2.frozen 0
      have e1 := hF.h2.frozen 1
      have e2 := hF.h2.frozen 2
      go_wp2_with fail
      refine bodyPost_ret (v := .tuple #[.agg #[.int .i64 0, .int .i64 0, .slice none 0 0], .bool false]) ?_ rfl ?_
      · simp [results, Try.results56, go_sem, d0, d1, d2]
      · rw [hz'.out]
        have hb3 := by_set3 (W := w) hF.hb (g := w.heap.size + 1 + 1) (by omega) (.int .i64 0) (.int .i64 0) (.slice none 0 0)
        exact ⟨_, _, Chg.of_below hb3, .refl _ _, .refl _ _, hf.keep hb3, rfl, hR.below hb3⟩
    | some y =>
      obtain ⟨ky, ny, Y⟩ := y
      have hz : holeOf holeI d (.mk k n ks) (.mk ku nu us) (l, r) = (match idx2 (.mk kx nx X) (.mk ky ny Y) l r with | some i => some (holeI i, (l, r)) | none => some (holeI l.length, (l ++ [.mk kx nx X], r ++ [.mk ky ny Y]))) := by
        rw [holeOf, hx, hy]; rfl
      have hz' := hide hz
      have hx' := hide hx
      have hy' := hide hy
      clear hz hx hy
      go_enter Try.func56, Try.ntmps56
      go_upto_region 1 with fail
      refine name_world ?_
      intro w0 hw0
      have hF0 : Fr w k n ks A c ku nu us U cu w0 := by
        rw [hw0]
        exact ⟨((Blk.new_ _ 28 _ rfl).alloc _).alloc _, (Blk.new_ _ 28 _ (by simp)).alloc _, Blk.new_ _ 28 _ (by simp), by_alloc (by_alloc (by_alloc (by_refl _) _) _) _⟩
      clear hw0
      obtain ⟨x0, x1, x2⟩ := hF0.h0.three
      obtain ⟨y0, y1, y2⟩ := hF0.h1.three
      go_upto_region 3 with (first
        | (go_at_call 78; have _t := tok1; refine (shift_any ku nu us U cu (-d) 0 _ (by omega) (by omega) (by omega) hsu'.out (hru.below hF1.hb)).mono ?_; rw [hy'.out]; intro e w2 hgo; obtain ⟨A2', c2', rfl, hl2, hf2, hb2⟩ := gotO_someF hgo; have rY2 := (Fresh.rdp hf2).mono (q := fun b => w.heap.size + 3 ≤ b) (fun b hb => by have := hF1.size; omega); have rX2 := (rX1.alloc (.cells #[.int .i64 kx, .int .i64 nx, .slice A1' X.length c1'] 28)).below hb2; have hF2 := hF1.below hb2; have hX2 := hX1.keep hb2)
        | (go_at_call 78; refine (shift_any k n ks A c (-d) 0 _ (by omega) (by omega) (by omega) hsa'.out (hr.below hF0.hb)).mono ?_; rw [hx'.out]; intro e w1 hgo; obtain ⟨A1', c1', rfl, hl1, hf1, hb1⟩ := gotO_someF hgo; have rX1 := (Fresh.rdp hf1).mono (q := fun b => w.heap.size + 3 ≤ b) (fun b hb => by have := hF0.size; omega); have hF1 := (hF0.below hb1).alloc (.cells #[.int .i64 kx, .int .i64 nx, .slice A1' X.length c1'] 28); have hX1 := Blk.new_ w1 28 #[.int .i64 kx, .int .i64 nx, .slice A1' X.length c1'] rfl; have s1 := hF0.size; have s1' := (hF0.below hb1).size; have s1'' : w.heap.size + 1 < w1.heap.size := (by omega); clear x0 x1 x2 y0 y1 y2; obtain ⟨y0, y1, y2⟩ := (hF0.below hb1).h1.three; have tok1 := trivial))
      refine name_world ?_
      intro wq hwq
      have hF : Fr w k n ks A c ku nu us U cu wq := by rw [hwq]; exact hF2.alloc _
      have hX : Blk wq w1.heap.size #[.int .i64 kx, .int .i64 nx, .slice A1' X.length c1'] := by rw [hwq]; exact hX2.alloc _
      have hY : Blk wq w2.heap.size #[.int .i64 ky, .int .i64 ny, .slice A2' Y.length c2'] := by rw [hwq]; exact Blk.new_ _ _ _ rfl
      have rX : RdP (fun b => w.heap.size + 3 ≤ b) wq A1' 0 X := by rw [hwq]; exact rX2.alloc _
      have rY : RdP (fun b => w.heap.size + 3 ≤ b) wq A2' 0 Y := by rw [hwq]; exact rY2.alloc _
      clear hwq y0 y1 y2
      have hsz := hF.size
      have hfq := hf.keep hF.hb
      have hRq := (hR.mono (E' := (fun b => E b ∨ b = w.heap.size + 1 + 1)) (fun b hb h => h.elim id (fun h => by omega))).below hF.hb
      have lX := hX.lt
      have lY := hY.lt
      obtain ⟨f0, f1⟩ := hfq.two
      have hg1 : gf < wq.heap.size := by omega
      go_wp2_with fail
      go_loopw [41] (fun i wr => ∃ (j : Nat), j ≤ l.length ∧ i = .int .i64 j ∧ (∀ i, i < j → bothAt (.mk kx nx X) (.mk ky ny Y) l r i = false) ∧ Below wq.heap.size wq wr) (fun i _ => l.length - (intOf i).toNat)
      case atStart => exact ⟨0, Nat.zero_le _, rfl, fun i hi => absurd hi (Nat.not_lt_zero _), Below.refl _ _⟩
      case round =>
        obtain ⟨j, hj, rfl, hall, hbq⟩ := hrel
        have hall' := hide hall
        clear hall f0 f1
        replace hX := hX.keep hbq
        replace hY := hY.keep hbq
        replace hF := hF.below hbq
        replace rX := rX.below hbq
        replace rY := rY.below hbq
        replace hfq := hfq.keep hbq
        replace hRq := hRq.below hbq
        have t5 := hbq.size
        have hsz := hF.size
        have rdX := rX.rd
        have rdY := rY.rd
        obtain ⟨qL, qR⟩ := hRq.rdl
        have rdL := qL.rd
        have rdR := qR.rd
        obtain ⟨f0, f1⟩ := hfq.two
        obtain ⟨x0, x1, x2⟩ := hX.three
        obtain ⟨y0, y1, y2⟩ := hY.three
        by_cases hlt : j < l.length
        · obtain ⟨b1, o1, k1, n1, ks1, A1'', c1'', hA1, hk1, v0, v1, v2, hl1', hr1⟩ := rdL.at_ hlt
          obtain ⟨b2, o2, k2, n2, ks2, A2'', c2'', hA2, hk2, z0, z1, z2, hl2', hr2⟩ := rdR.at_ (j := j) (by have := hrl'.out; omega)
          subst hA1 hA2
          have hba : bothAt (.mk kx nx X) (.mk ky ny Y) l r j = (tmEq (.mk k1 n1 ks1) (.mk kx nx X) && tmEq (.mk k2 n2 ks2) (.mk ky ny Y)) := by rw [bothAt, getD_at hlt hk1, getD_at (by have := hrl'.out; omega) hk2]
          obtain ⟨tq1, ht1⟩ : ∃ tq1, tmEq (.mk k1 n1 ks1) (.mk kx nx X) = tq1 := ⟨_, rfl⟩
          obtain ⟨tq2, ht2⟩ : ∃ tq2, tmEq (.mk k2 n2 ks2) (.mk ky ny Y) = tq2 := ⟨_, rfl⟩
          rw [ht1, ht2] at hba
          have hba' := hide hba
          have hlj : (j : Int) < (l.length : Int) := by omega
          have lXr := hX.lt
          have lYr := hY.lt
          have sm1 : ∀ w', Below wr.heap.size wr w' → Calls Try.prog 18 #[.agg #[.int .i64 k1, .int .i64 n1, .slice A1'' ks1.length c1''], .agg #[.int .i64 kx, .int .i64 nx, .slice A1' X.length c1']] w' fun e w'' => e = .returned (.bool tq1) ∧ Below w'.heap.size w' w'' := fun w' hw' => by rw [← ht1]; exact iSame_any k1 n1 ks1 A1'' c1'' kx nx X A1' c1' w' hl1' hl1 (hr1.below hw') (rdX.below hw')
          have sm2 : ∀ w', Below wr.heap.size wr w' → Calls Try.prog 18 #[.agg #[.int .i64 k2, .int .i64 n2, .slice A2'' ks2.length c2''], .agg #[.int .i64 ky, .int .i64 ny, .slice A2' Y.length c2']] w' fun e w'' => e = .returned (.bool tq2) ∧ Below w'.heap.size w' w'' := fun w' hw' => by rw [← ht2]; exact iSame_any k2 n2 ks2 A2'' c2'' ky ny Y A2' c2' w' hl2' hl2 (hr2.below hw') (rdY.below hw')
          clear hk1 hk2 hba ht1 ht2
          cases tq1 with
          | false =>
            go_wp2_with fail
            have f0r := rule_of f0
            have f1r := rule_of f1
            have y0r := rule_of y0
            have y1r := rule_of y1
            have y2r := rule_of y2
            have x0r := rule_of x0
            have x1r := rule_of x1
            have x2r := rule_of x2
            have v0r := rule_of v0
            have v1r := rule_of v1
            have v2r := rule_of v2
            have z0r := rule_of z0
            have z1r := rule_of z1
            have z2r := rule_of z2
            refine wp_region_class (fun w' => Below wr.heap.size wr w') (by kernel_rfl) (by kernel_rfl) (Below.refl _ _).drew ?_
            repeat (first | ((refine quiet_skip (a' := ?_) ?_ ?_ ?_); (rotate_left); (· (simp [Region.wanted, yielded]; done)); (· (simp only [List.getElem_toArray, List.getElem_cons_zero, List.getElem_cons_succ, Act.put, List.setIfInBounds_toArray, List.set_cons_zero, List.set_cons_succ]; exact rfl))) | ((refine quiet_one (v := ?_) (a' := ?_) ?_ ?_ ?_ ?_); (rotate_left 2); (· (simp [Region.wanted, yielded]; done)); (· (intro w' hS'; go_simp; try (with_reducible rfl))); (· (simp only [List.getElem_toArray, List.getElem_cons_zero, List.getElem_cons_succ, Act.put, List.setIfInBounds_toArray, List.set_cons_zero, List.set_cons_succ]; exact rfl))) | ((refine quiet_below (v := ?_) (a' := ?_) 18 ?_ ?_ ?_ ?_ ?_ ?_); (rotate_left 3); (· (simp [Region.wanted, yielded]; done)); (· (intro w' hS'; go_simp; try (with_reducible rfl))); (· (intro w' hS'; with_reducible exact sm1 w' hS')); (· (simp only [List.getElem_toArray, List.getElem_cons_zero, List.getElem_cons_succ, Act.put, List.setIfInBounds_toArray, List.set_cons_zero, List.set_cons_succ]; exact rfl))) | ((refine quiet_below (v := ?_) (a' := ?_) 18 ?_ ?_ ?_ ?_ ?_ ?_); (rotate_left 3); (· (simp [Region.wanted, yielded]; done)); (· (intro w' hS'; go_simp; try (with_reducible rfl))); (· (intro w' hS'; with_reducible exact sm2 w' hS')); (· (simp only [List.getElem_toArray, List.getElem_cons_zero, List.getElem_cons_succ, Act.put, List.setIfInBounds_toArray, List.set_cons_zero, List.set_cons_succ]; exact rfl))))
            refine quiet_nil ?_
            intro wa hx1
            clear f0r f1r x0r x1r x2r y0r y1r y2r v0r v1r v2r z0r z1r z2r f0 f1 x0 x1 x2 y0 y1 y2 v0 v1 v2 z0 z1 z2
            go_wp2_with fail
            go_roundw
            case rel => exact ⟨j + 1, hlt, by go_num, all_succ hall'.out hba'.out, hbq.trans (hx1.mono hbq.size)⟩
            case measure => simp [intOf]; omega
          | true =>
            cases tq2 with
            | false =>
              go_wp2_with fail
              have f0r := rule_of f0
              have f1r := rule_of f1
              have y0r := rule_of y0
              have y1r := rule_of y1
              have y2r := rule_of y2
              have x0r := rule_of x0
              have x1r := rule_of x1
              have x2r := rule_of x2
              have v0r := rule_of v0
              have v1r := rule_of v1
              have v2r := rule_of v2
              have z0r := rule_of z0
              have z1r := rule_of z1
              have z2r := rule_of z2
              refine wp_region_class (fun w' => Below wr.heap.size wr w') (by kernel_rfl) (by kernel_rfl) (Below.refl _ _).drew ?_
              repeat (first | ((refine quiet_skip (a' := ?_) ?_ ?_ ?_); (rotate_left); (· (simp [Region.wanted, yielded]; done)); (· (simp only [List.getElem_toArray, List.getElem_cons_zero, List.getElem_cons_succ, Act.put, List.setIfInBounds_toArray, List.set_cons_zero, List.set_cons_succ]; exact rfl))) | ((refine quiet_one (v := ?_) (a' := ?_) ?_ ?_ ?_ ?_); (rotate_left 2); (· (simp [Region.wanted, yielded]; done)); (· (intro w' hS'; go_simp; try (with_reducible rfl))); (· (simp only [List.getElem_toArray, List.getElem_cons_zero, List.getElem_cons_succ, Act.put, List.setIfInBounds_toArray, List.set_cons_zero, List.set_cons_succ]; exact rfl))) | ((refine quiet_below (v := ?_) (a' := ?_) 18 ?_ ?_ ?_ ?_ ?_ ?_); (rotate_left 3); (· (simp [Region.wanted, yielded]; done)); (· (intro w' hS'; go_simp; try (with_reducible rfl))); (· (intro w' hS'; with_reducible exact sm1 w' hS')); (· (simp only [List.getElem_toArray, List.getElem_cons_zero, List.getElem_cons_succ, Act.put, List.setIfInBounds_toArray, List.set_cons_zero, List.set_cons_succ]; exact rfl))) | ((refine quiet_below (v := ?_) (a' := ?_) 18 ?_ ?_ ?_ ?_ ?_ ?_); (rotate_left 3); (· (simp [Region.wanted, yielded]; done)); (· (intro w' hS'; go_simp; try (with_reducible rfl))); (· (intro w' hS'; with_reducible exact sm2 w' hS')); (· (simp only [List.getElem_toArray, List.getElem_cons_zero, List.getElem_cons_succ, Act.put, List.setIfInBounds_toArray, List.set_cons_zero, List.set_cons_succ]; exact rfl))))
              refine quiet_nil ?_
              intro wa hx1
              clear f0r f1r x0r x1r x2r y0r y1r y2r v0r v1r v2r z0r z1r z2r f0 f1 x0 x1 x2 y0 y1 y2 v0 v1 v2 z0 z1 z2
              go_wp2_with fail
              go_roundw
              case rel => exact ⟨j + 1, hlt, by go_num, all_succ hall'.out hba'.out, hbq.trans (hx1.mono hbq.size)⟩
              case measure => simp [intOf]; omega
            | true =>
              go_wp2_with fail
              have f0r := rule_of f0
              have f1r := rule_of f1
              have y0r := rule_of y0
              have y1r := rule_of y1
              have y2r := rule_of y2
              have x0r := rule_of x0
              have x1r := rule_of x1
              have x2r := rule_of x2
              have v0r := rule_of v0
              have v1r := rule_of v1
              have v2r := rule_of v2
              have z0r := rule_of z0
              have z1r := rule_of z1
              have z2r := rule_of z2
              refine wp_region_class (fun w' => Below wr.heap.size wr w') (by kernel_rfl) (by kernel_rfl) (Below.refl _ _).drew ?_
              repeat (first | ((refine quiet_skip (a' := ?_) ?_ ?_ ?_); (rotate_left); (· (simp [Region.wanted, yielded]; done)); (· (simp only [List.getElem_toArray, List.getElem_cons_zero, List.getElem_cons_succ, Act.put, List.setIfInBounds_toArray, List.set_cons_zero, List.set_cons_succ]; exact rfl))) | ((refine quiet_one (v := ?_) (a' := ?_) ?_ ?_ ?_ ?_); (rotate_left 2); (· (simp [Region.wanted, yielded]; done)); (· (intro w' hS'; go_simp; try (with_reducible rfl))); (· (simp only [List.getElem_toArray, List.getElem_cons_zero, List.getElem_cons_succ, Act.put, List.setIfInBounds_toArray, List.set_cons_zero, List.set_cons_succ]; exact rfl))) | ((refine quiet_below (v := ?_) (a' := ?_) 18 ?_ ?_ ?_ ?_ ?_ ?_); (rotate_left 3); (· (simp [Region.wanted, yielded]; done)); (· (intro w' hS'; go_simp; try (with_reducible rfl))); (· (intro w' hS'; with_reducible exact sm1 w' hS')); (· (simp only [List.getElem_toArray, List.getElem_cons_zero, List.getElem_cons_succ, Act.put, List.setIfInBounds_toArray, List.set_cons_zero, List.set_cons_succ]; exact rfl))) | ((refine quiet_below (v := ?_) (a' := ?_) 18 ?_ ?_ ?_ ?_ ?_ ?_); (rotate_left 3); (· (simp [Region.wanted, yielded]; done)); (· (intro w' hS'; go_simp; try (with_reducible rfl))); (· (intro w' hS'; with_reducible exact sm2 w' hS')); (· (simp only [List.getElem_toArray, List.getElem_cons_zero, List.getElem_cons_succ, Act.put, List.setIfInBounds_toArray, List.set_cons_zero, List.set_cons_succ]; exact rfl))))
              refine quiet_nil ?_
              intro wa hx1
              clear f0r f1r x0r x1r x2r y0r y1r y2r v0r v1r v2r z0r z1r z2r f0 f1 x0 x1 x2 y0 y1 y2 v0 v1 v2 z0 z1 z2
              have hF9 := hF.below hx1
              obtain ⟨d0, d1, d2⟩ := hF9.h2.three
              have e0 := hF9.h2.frozen 0
              have e1 := hF9.h2.frozen 1
              have e2 := hF9.h2.frozen 2
              go_wp2_with fail
              have hi2 := idx2_some (x := .mk kx nx X) (y := .mk ky ny Y) (l := l) (r := r) hrl'.out hall'.out hlt hba'.out
              refine bodyPost_ret (v := .tuple #[.agg #[.int .i64 (-1), .int .i64 j, .slice none 0 0], .bool true]) ?_ rfl ?_
              · simp [results, Try.results56, go_sem, d0, d1, d2]
              · rw [hz'.out, hi2]
                have hb3 := by_set3 (W := w) hF9.hb (g := w.heap.size + 1 + 1) (by omega) (.int .i64 (-1)) (.int .i64 j) (.slice none 0 0)
                exact ⟨_, _, Chg.of_below hb3, .refl _ _, .refl _ _, hf.keep hb3, ⟨none, 0, rfl, by simp [holeI, Tm.ks], RdP.nil⟩, hR.below hb3⟩
        · have hjl : j = l.length := by omega
          subst hjl
          have hi2 := hide (idx2_none (x := .mk kx nx X) (y := .mk ky ny Y) (l := l) (r := r) hrl'.out hall'.out)
          clear hall'
          clear f0 f1 x0 x1 x2 y0 y1 y2
          have own0 := hR.own
          have hSwr : (S3 gf w1.heap.size w2.heap.size #[.slice A1 l.length c1, .slice A2 l.length c2] #[.int .i64 kx, .int .i64 nx, .slice A1' X.length c1'] #[.int .i64 ky, .int .i64 ny, .slice A2' Y.length c2']) wr := ⟨hfq, hX, hY⟩
          have g0 : ∀ w', (S3 gf w1.heap.size w2.heap.size #[.slice A1 l.length c1, .slice A2 l.length c2] #[.int .i64 kx, .int .i64 nx, .slice A1' X.length c1'] #[.int .i64 ky, .int .i64 ny, .slice A2' Y.length c2']) w' → w'.cell? ⟨gf, 0, none⟩ = some (.slice A1 l.length c1) := fun w' h => h.1.two.1
          have g1 : ∀ w', (S3 gf w1.heap.size w2.heap.size #[.slice A1 l.length c1, .slice A2 l.length c2] #[.int .i64 kx, .int .i64 nx, .slice A1' X.length c1'] #[.int .i64 ky, .int .i64 ny, .slice A2' Y.length c2']) w' → w'.cell? ⟨gf, 1, none⟩ = some (.slice A2 l.length c2) := fun w' h => h.1.two.2
          have k0 : ∀ w', (S3 gf w1.heap.size w2.heap.size #[.slice A1 l.length c1, .slice A2 l.length c2] #[.int .i64 kx, .int .i64 nx, .slice A1' X.length c1'] #[.int .i64 ky, .int .i64 ny, .slice A2' Y.length c2']) w' → w'.cell? ⟨w1.heap.size, 0, none⟩ = some (.int .i64 kx) := fun w' h => h.2.1.three.1
          have k1 : ∀ w', (S3 gf w1.heap.size w2.heap.size #[.slice A1 l.length c1, .slice A2 l.length c2] #[.int .i64 kx, .int .i64 nx, .slice A1' X.length c1'] #[.int .i64 ky, .int .i64 ny, .slice A2' Y.length c2']) w' → w'.cell? ⟨w1.heap.size, 1, none⟩ = some (.int .i64 nx) := fun w' h => h.2.1.three.2.1
          have k2 : ∀ w', (S3 gf w1.heap.size w2.heap.size #[.slice A1 l.length c1, .slice A2 l.length c2] #[.int .i64 kx, .int .i64 nx, .slice A1' X.length c1'] #[.int .i64 ky, .int .i64 ny, .slice A2' Y.length c2']) w' → w'.cell? ⟨w1.heap.size, 2, none⟩ = some (.slice A1' X.length c1') := fun w' h => h.2.1.three.2.2
          have m0 : ∀ w', (S3 gf w1.heap.size w2.heap.size #[.slice A1 l.length c1, .slice A2 l.length c2] #[.int .i64 kx, .int .i64 nx, .slice A1' X.length c1'] #[.int .i64 ky, .int .i64 ny, .slice A2' Y.length c2']) w' → w'.cell? ⟨w2.heap.size, 0, none⟩ = some (.int .i64 ky) := fun w' h => h.2.2.three.1
          have m1 : ∀ w', (S3 gf w1.heap.size w2.heap.size #[.slice A1 l.length c1, .slice A2 l.length c2] #[.int .i64 kx, .int .i64 nx, .slice A1' X.length c1'] #[.int .i64 ky, .int .i64 ny, .slice A2' Y.length c2']) w' → w'.cell? ⟨w2.heap.size, 1, none⟩ = some (.int .i64 ny) := fun w' h => h.2.2.three.2.1
          have m2 : ∀ w', (S3 gf w1.heap.size w2.heap.size #[.slice A1 l.length c1, .slice A2 l.length c2] #[.int .i64 kx, .int .i64 nx, .slice A1' X.length c1'] #[.int .i64 ky, .int .i64 ny, .slice A2' Y.length c2']) w' → w'.cell? ⟨w2.heap.size, 2, none⟩ = some (.slice A2' Y.length c2') := fun w' h => h.2.2.three.2.2
          have l1 := hF2.size
          have lw1 : w.heap.size + 1 + 1 < w1.heap.size := by omega
          have lX := hX.lt
          have lY := hY.lt
          obtain ⟨q0, hq0⟩ : ∃ q0, q0 = wr.drew := ⟨_, rfl⟩
          have hRq0 : Rows2 B (fun b => E b ∨ b = w.heap.size + 1 + 1) q0 (.slice A1 l.length c1) (.slice A2 l.length c2) l r := by rw [hq0]; exact hRq.drew
          have hSq0 : (S3 gf w1.heap.size w2.heap.size #[.slice A1 l.length c1, .slice A2 l.length c2] #[.int .i64 kx, .int .i64 nx, .slice A1' X.length c1'] #[.int .i64 ky, .int .i64 ny, .slice A2' Y.length c2']) q0 := by rw [hq0]; exact hSwr
          have hCq0 : Chg gf (.slice A1 l.length c1) (.slice A2 l.length c2) w q0 := by rw [hq0]; exact (Chg.of_below hF.hb).drew
          have rXq0 : RdP (fun b => w.heap.size + 3 ≤ b ∧ b < wr.heap.size) q0 A1' 0 X := by rw [hq0]; exact (rdp_ltC.2 _ _ _ rX).drew
          have rYq0 : RdP (fun b => w.heap.size + 3 ≤ b ∧ b < wr.heap.size) q0 A2' 0 Y := by rw [hq0]; exact (rdp_ltC.2 _ _ _ rY).drew
          have hZq0 : Blk q0 (w.heap.size + 1 + 1) #[.int .i64 0, .int .i64 0, .slice none 0 0] := by rw [hq0]; exact hF.h2.drew
          have sq0 : wr.heap.size ≤ q0.heap.size := by rw [hq0]; exact Nat.le_refl _
          go_wp2_with fail
          refine wp_region_firstA2 (S3 gf w1.heap.size w2.heap.size #[.slice A1 l.length c1, .slice A2 l.length c2] #[.int .i64 kx, .int .i64 nx, .slice A1' X.length c1'] #[.int .i64 ky, .int .i64 ny, .slice A2' Y.length c2']) [1] [0, 2, 3, 4, 5, 6, 9, 10, 11, 12, 13] [16, 17, 18, 19, 20, 21] 4 [_] [_, _, _, _, _, _, _, _, _, _, _] #[false, true, false, false, false, false, false, false, false, false, false, false, false, false, false, false, false, false, false, false, false, false] #[true, true, true, true, true, true, true, false, false, true, true, true, true, true, false, false, false, false, false, false, false, false] (by kernel_rfl) (by kernel_rfl) (by kernel_rfl) (by kernel_rfl) rfl rfl (fun _ _ d _ _ h => by cases d <;> exact h) hSwr ?_
          repeat (first | ((refine takeY_skip (a' := ?_) ?_ ?_ ?_); (rotate_left); (· (simp [Region.wanted, yielded]; done)); (· (simp only [List.getElem_toArray, List.getElem_cons_zero, List.getElem_cons_succ, Act.put, List.setIfInBounds_toArray, List.set_cons_zero, List.set_cons_succ]; exact rfl))) | ((refine takeY_step (v := ?_) (a' := ?_) ?_ ?_ ?_ ?_); (rotate_left 2); (· (simp [Region.wanted, yielded]; done)); (· (intro w' hS'; go_simp; try (with_reducible rfl))); (· (simp only [List.getElem_toArray, List.getElem_cons_zero, List.getElem_cons_succ, Act.put, List.setIfInBounds_toArray, List.set_cons_zero, List.set_cons_succ]; exact rfl))))
          refine takeY_nil ?_
          repeat (first | ((refine takeY_skip (a' := ?_) ?_ ?_ ?_); (rotate_left); (· (simp [Region.wanted, yielded]; done)); (· (simp only [List.getElem_toArray, List.getElem_cons_zero, List.getElem_cons_succ, Act.put, List.setIfInBounds_toArray, List.set_cons_zero, List.set_cons_succ]; exact rfl))) | ((refine takeY_step (v := ?_) (a' := ?_) ?_ ?_ ?_ ?_); (rotate_left 2); (· (simp [Region.wanted, yielded]; done)); (· (intro w' hS'; go_simp; try (with_reducible rfl))); (· (simp only [List.getElem_toArray, List.getElem_cons_zero, List.getElem_cons_succ, Act.put, List.setIfInBounds_toArray, List.set_cons_zero, List.set_cons_succ]; exact rfl))))
          refine takeY_nil ?_
          clear g0 g1 k0 k1 k2 m0 m1 m2
          rw [← hq0]
          clear hq0
          refine anyA_two (i := 7) (j := 14) (by kernel_rfl) rfl rfl ?_ ?_
          · go_wp2_with fail
            refine name_midw ?_
            intro q1 hn
            have hRq1 : Rows2 B (fun b => E b ∨ b = w.heap.size + 1 + 1) q1 (.slice A1 l.length c1) (.slice A2 l.length c2) l r := by rw [hn]; exact hRq0.alloc _
            have hSq1 : (S3 gf w1.heap.size w2.heap.size #[.slice A1 l.length c1, .slice A2 l.length c2] #[.int .i64 kx, .int .i64 nx, .slice A1' X.length c1'] #[.int .i64 ky, .int .i64 ny, .slice A2' Y.length c2']) q1 := by rw [hn]; exact hSq0.alloc _
            have hCq1 : Chg gf (.slice A1 l.length c1) (.slice A2 l.length c2) w q1 := by rw [hn]; exact hCq0.alloc _
            have rXq1 : RdP (fun b => w.heap.size + 3 ≤ b ∧ b < wr.heap.size) q1 A1' 0 X := by rw [hn]; exact rXq0.alloc _
            have rYq1 : RdP (fun b => w.heap.size + 3 ≤ b ∧ b < wr.heap.size) q1 A2' 0 Y := by rw [hn]; exact rYq0.alloc _
            have hZq1 : Blk q1 (w.heap.size + 1 + 1) #[.int .i64 0, .int .i64 0, .slice none 0 0] := by rw [hn]; exact hZq0.alloc _
            have hVq1 : Blk q1 q0.heap.size #[.int .i64 kx, .int .i64 nx, .slice A1' X.length c1'] := by rw [hn]; exact Blk.new_ _ 28 _ rfl
            have sq1 : wr.heap.size ≤ q1.heap.size := by have := sq0; rw [hn]; simp; omega
            clear hn
            refine mid_intro hSq1 ?_
            refine anyA_two (i := 8) (j := 14) (by kernel_rfl) rfl rfl ?_ ?_
            · refine wpList_append_rows (q := fun b => w.heap.size + 3 ≤ b ∧ b < wr.heap.size) hRq1 (by omega) (fun b h => h.elim (fun h => by have := hE b h; omega) (fun h => by omega)) rXq1 (fun b hb => ⟨by omega, by omega, fun e => by have := (own0.1 b e).2; omega, fun e => by have := (own0.2 b e).2; omega, fun e => e.elim (fun e => by have := hE b e; omega) (fun e => by omega)⟩) hl1 rfl (by omega) _ 1 hVq1 rfl (.tmp 72) (.tmp 74) rfl rfl rfl ?_
              intro A5 c5 q2 hRq2 hgq2 ho5
              go_wp2_with fail
              have hSq2 := hSq1.grown hgq2 (fun e => by have := (own0.1 _ e.symm).1; omega) (fun e => by have := (own0.1 _ e.symm).2; omega) (fun e => by have := (own0.1 _ e.symm).2; omega)
              have hCq2 := hCq1.grown1 hgq2
              have rXq2 := rXq1.grown hgq2 (fun b hb e => by have := (own0.1 b e.symm).2; omega)
              have rYq2 := rYq1.grown hgq2 (fun b hb e => by have := (own0.1 b e.symm).2; omega)
              have hZq2 := hZq1.grown hgq2 (fun e => by have := (own0.1 _ e.symm).2; omega)
              have hVq2 := hVq1.grown hgq2 (fun e => by have := (own0.1 _ e.symm).2; omega)
              have sq2 : wr.heap.size ≤ q2.heap.size := Nat.le_trans sq1 hgq2.size
              have o5 : (Value.slice A5 (l.length + 1) c5).ownBlock = (Value.slice A1 l.length c1).ownBlock ∨ ∃ g, wr.heap.size ≤ g ∧ (Value.slice A5 (l.length + 1) c5).ownBlock = some g := ho5.imp id (fun h => ⟨_, sq1, h⟩)
              refine mid_intro hSq2 ?_
              refine anyA_one (i := 14) (by kernel_rfl) rfl ?_
              · go_wp2_with fail
                refine name_midw ?_
                intro q3 hn
                have hRq3 : Rows2 B (fun b => E b ∨ b = w.heap.size + 1 + 1) q3 (.slice A5 (l.length + 1) c5) (.slice A2 l.length c2) (l ++ [.mk kx nx X]) r := by rw [hn]; exact hRq2.alloc _
                have hSq3 : (S3 gf w1.heap.size w2.heap.size #[.slice A1 l.length c1, .slice A2 l.length c2] #[.int .i64 kx, .int .i64 nx, .slice A1' X.length c1'] #[.int .i64 ky, .int .i64 ny, .slice A2' Y.length c2']) q3 := by rw [hn]; exact hSq2.alloc _
                have hCq3 : Chg gf (.slice A1 l.length c1) (.slice A2 l.length c2) w q3 := by rw [hn]; exact hCq2.alloc _
                have rXq3 : RdP (fun b => w.heap.size + 3 ≤ b ∧ b < wr.heap.size) q3 A1' 0 X := by rw [hn]; exact rXq2.alloc _
                have rYq3 : RdP (fun b => w.heap.size + 3 ≤ b ∧ b < wr.heap.size) q3 A2' 0 Y := by rw [hn]; exact rYq2.alloc _
                have hZq3 : Blk q3 (w.heap.size + 1 + 1) #[.int .i64 0, .int .i64 0, .slice none 0 0] := by rw [hn]; exact hZq2.alloc _
                have hVq3 : Blk q3 q0.heap.size #[.int .i64 kx, .int .i64 nx, .slice A1' X.length c1'] := by rw [hn]; exact hVq2.alloc _
                have hWq3 : Blk q3 q2.heap.size #[.int .i64 ky, .int .i64 ny, .slice A2' Y.length c2'] := by rw [hn]; exact Blk.new_ _ 28 _ rfl
                have sq3 : wr.heap.size ≤ q3.heap.size := by have := sq2; rw [hn]; simp; omega
                clear hn
                refine mid_intro hSq3 ?_
                refine anyA_one (i := 15) (by kernel_rfl) rfl ?_
                · refine wpList_append_rows (q := fun b => w.heap.size + 3 ≤ b ∧ b < wr.heap.size) hRq3.symm (by omega) (fun b h => h.elim (fun h => by have := hE b h; omega) (fun h => by omega)) rYq3 (fun b hb => ⟨by omega, by omega, fun e => by have := (own0.2 b e).2; omega, fun e => by rcases o5 with h | ⟨g, h1, h⟩; (have := (own0.1 b (h.symm.trans e)).2; omega); (have := Option.some.inj (h.symm.trans e); omega), fun e => e.elim (fun e => by have := hE b e; omega) (fun e => by omega)⟩) hl2 hrl'.out (by omega) _ 1 hWq3 rfl (.tmp 79) (.tmp 81) rfl rfl rfl ?_
                  intro A6 c6 q4 hRq4 hgq4 ho6
                  go_wp2_with fail
                  have hSq4 := hSq3.grown hgq4 (fun e => by have := (own0.2 _ e.symm).1; omega) (fun e => by have := (own0.2 _ e.symm).2; omega) (fun e => by have := (own0.2 _ e.symm).2; omega)
                  have hCq4 := hCq3.grown2 hgq4
                  have hZq4 := hZq3.grown hgq4 (fun e => by have := (own0.2 _ e.symm).2; omega)
                  have sq4 : wr.heap.size ≤ q4.heap.size := Nat.le_trans sq3 hgq4.size
                  have o6 : (Value.slice A6 (l.length + 1) c6).ownBlock = (Value.slice A2 l.length c2).ownBlock ∨ ∃ g, wr.heap.size ≤ g ∧ (Value.slice A6 (l.length + 1) c6).ownBlock = some g := ho6.imp id (fun h => ⟨_, sq3, h⟩)
                  refine mid_intro hSq4 ?_
                  refine anyA_end (lB := [_, _, _, _, _, _]) (by kernel_rfl) rfl ?_
                  have hfq4 := hSq4.1
                  obtain ⟨f0, f1⟩ := hfq4.two
                  have i0 := hfq4.frozen 0
                  have i1 := hfq4.frozen 1
                  obtain ⟨d0, d1, d2⟩ := hZq4.three
                  have e0 := hZq4.frozen 0
                  have e1 := hZq4.frozen 1
                  have e2 := hZq4.frozen 2
                  go_wp2_with fail
                  have hgz : gf ≠ w.heap.size + 1 + 1 := by omega
                  refine bodyPost_ret (v := .tuple #[.agg #[.int .i64 (-1), .int .i64 l.length, .slice none 0 0], .bool true]) ?_ rfl ?_
                  · simp [results, Try.results56, go_sem, d0, d1, d2, hgz, Ne.symm hgz]
                  · rw [hz'.out, hi2.out]
                    refine ⟨_, _, ((((hCq4.set (.inl rfl) _).set (.inl rfl) _).set (.inr (by show w.heap.size ≤ w.heap.size + 1 + 1; omega)) _).set (.inr (by show w.heap.size ≤ w.heap.size + 1 + 1; omega)) _).set (.inr (by show w.heap.size ≤ w.heap.size + 1 + 1; omega)) _, o5.imp id (fun ⟨g, h1, h2⟩ => ⟨g, by omega, h2⟩), o6.imp id (fun ⟨g, h1, h2⟩ => ⟨g, by omega, h2⟩), ((((hfq4.set_ 0 _).set_ 1 _).far hgz _).far hgz _).far hgz _, ⟨none, 0, rfl, by simp [holeI, Tm.ks], RdP.nil⟩, ?_⟩
                    exact (((((hRq4.symm.setCell (.inl hgf) _).setCell (.inl hgf) _).setCell (.inr (.inl (.inr rfl))) _).setCell (.inr (.inl (.inr rfl))) _).setCell (.inr (.inl (.inr rfl))) _).mono (fun b _ h => .inl h)
            · go_wp2_with fail
              refine name_midw ?_
              intro q5 hn
              have hRq5 : Rows2 B (fun b => E b ∨ b = w.heap.size + 1 + 1) q5 (.slice A1 l.length c1) (.slice A2 l.length c2) l r := by rw [hn]; exact hRq1.alloc _
              have hSq5 : (S3 gf w1.heap.size w2.heap.size #[.slice A1 l.length c1, .slice A2 l.length c2] #[.int .i64 kx, .int .i64 nx, .slice A1' X.length c1'] #[.int .i64 ky, .int .i64 ny, .slice A2' Y.length c2']) q5 := by rw [hn]; exact hSq1.alloc _
              have hCq5 : Chg gf (.slice A1 l.length c1) (.slice A2 l.length c2) w q5 := by rw [hn]; exact hCq1.alloc _
              have rXq5 : RdP (fun b => w.heap.size + 3 ≤ b ∧ b < wr.heap.size) q5 A1' 0 X := by rw [hn]; exact rXq1.alloc _
              have rYq5 : RdP (fun b => w.heap.size + 3 ≤ b ∧ b < wr.heap.size) q5 A2' 0 Y := by rw [hn]; exact rYq1.alloc _
              have hZq5 : Blk q5 (w.heap.size + 1 + 1) #[.int .i64 0, .int .i64 0, .slice none 0 0] := by rw [hn]; exact hZq1.alloc _
              have hVq5 : Blk q5 q0.heap.size #[.int .i64 kx, .int .i64 nx, .slice A1' X.length c1'] := by rw [hn]; exact hVq1.alloc _
              have hWq5 : Blk q5 q1.heap.size #[.int .i64 ky, .int .i64 ny, .slice A2' Y.length c2'] := by rw [hn]; exact Blk.new_ _ 28 _ rfl
              have sq5 : wr.heap.size ≤ q5.heap.size := by have := sq1; rw [hn]; simp; omega
              clear hn
              refine mid_intro hSq5 ?_
              refine anyA_one (i := 8) (by kernel_rfl) rfl ?_
              · refine wpList_append_rows (q := fun b => w.heap.size + 3 ≤ b ∧ b < wr.heap.size) hRq5 (by omega) (fun b h => h.elim (fun h => by have := hE b h; omega) (fun h => by omega)) rXq5 (fun b hb => ⟨by omega, by omega, fun e => by have := (own0.1 b e).2; omega, fun e => by have := (own0.2 b e).2; omega, fun e => e.elim (fun e => by have := hE b e; omega) (fun e => by omega)⟩) hl1 rfl (by omega) _ 1 hVq5 rfl (.tmp 72) (.tmp 74) rfl rfl rfl ?_
                intro A5 c5 q6 hRq6 hgq6 ho5
                go_wp2_with fail
                have hSq6 := hSq5.grown hgq6 (fun e => by have := (own0.1 _ e.symm).1; omega) (fun e => by have := (own0.1 _ e.symm).2; omega) (fun e => by have := (own0.1 _ e.symm).2; omega)
                have hCq6 := hCq5.grown1 hgq6
                have rXq6 := rXq5.grown hgq6 (fun b hb e => by have := (own0.1 b e.symm).2; omega)
                have rYq6 := rYq5.grown hgq6 (fun b hb e => by have := (own0.1 b e.symm).2; omega)
                have hZq6 := hZq5.grown hgq6 (fun e => by have := (own0.1 _ e.symm).2; omega)
                have hVq6 := hVq5.grown hgq6 (fun e => by have := (own0.1 _ e.symm).2; omega)
                have hWq6 := hWq5.grown hgq6 (fun e => by have := (own0.1 _ e.symm).2; omega)
                have sq6 : wr.heap.size ≤ q6.heap.size := Nat.le_trans sq5 hgq6.size
                have o5 : (Value.slice A5 (l.length + 1) c5).ownBlock = (Value.slice A1 l.length c1).ownBlock ∨ ∃ g, wr.heap.size ≤ g ∧ (Value.slice A5 (l.length + 1) c5).ownBlock = some g := ho5.imp id (fun h => ⟨_, sq5, h⟩)
                refine mid_intro hSq6 ?_
                refine anyA_one (i := 15) (by kernel_rfl) rfl ?_
                · refine wpList_append_rows (q := fun b => w.heap.size + 3 ≤ b ∧ b < wr.heap.size) hRq6.symm (by omega) (fun b h => h.elim (fun h => by have := hE b h; omega) (fun h => by omega)) rYq6 (fun b hb => ⟨by omega, by omega, fun e => by have := (own0.2 b e).2; omega, fun e => by rcases o5 with h | ⟨g, h1, h⟩; (have := (own0.1 b (h.symm.trans e)).2; omega); (have := Option.some.inj (h.symm.trans e); omega), fun e => e.elim (fun e => by have := hE b e; omega) (fun e => by omega)⟩) hl2 hrl'.out (by omega) _ 1 hWq6 rfl (.tmp 79) (.tmp 81) rfl rfl rfl ?_
                  intro A6 c6 q7 hRq7 hgq7 ho6
                  go_wp2_with fail
                  have hSq7 := hSq6.grown hgq7 (fun e => by have := (own0.2 _ e.symm).1; omega) (fun e => by have := (own0.2 _ e.symm).2; omega) (fun e => by have := (own0.2 _ e.symm).2; omega)
                  have hCq7 := hCq6.grown2 hgq7
                  have hZq7 := hZq6.grown hgq7 (fun e => by have := (own0.2 _ e.symm).2; omega)
                  have sq7 : wr.heap.size ≤ q7.heap.size := Nat.le_trans sq6 hgq7.size
                  have o6 : (Value.slice A6 (l.length + 1) c6).ownBlock = (Value.slice A2 l.length c2).ownBlock ∨ ∃ g, wr.heap.size ≤ g ∧ (Value.slice A6 (l.length + 1) c6).ownBlock = some g := ho6.imp id (fun h => ⟨_, sq6, h⟩)
                  refine mid_intro hSq7 ?_
                  refine anyA_end (lB := [_, _, _, _, _, _]) (by kernel_rfl) rfl ?_
                  have hfq7 := hSq7.1
                  obtain ⟨f0, f1⟩ := hfq7.two
                  have i0 := hfq7.frozen 0
                  have i1 := hfq7.frozen 1
                  obtain ⟨d0, d1, d2⟩ := hZq7.three
                  have e0 := hZq7.frozen 0
                  have e1 := hZq7.frozen 1
                  have e2 := hZq7.frozen 2
                  go_wp2_with fail
                  have hgz : gf ≠ w.heap.size + 1 + 1 := by omega
                  refine bodyPost_ret (v := .tuple #[.agg #[.int .i64 (-1), .int .i64 l.length, .slice none 0 0], .bool true]) ?_ rfl ?_
                  · simp [results, Try.results56, go_sem, d0, d1, d2, hgz, Ne.symm hgz]
                  · rw [hz'.out, hi2.out]
                    refine ⟨_, _, ((((hCq7.set (.inl rfl) _).set (.inl rfl) _).set (.inr (by show w.heap.size ≤ w.heap.size + 1 + 1; omega)) _).set (.inr (by show w.heap.size ≤ w.heap.size + 1 + 1; omega)) _).set (.inr (by show w.heap.size ≤ w.heap.size + 1 + 1; omega)) _, o5.imp id (fun ⟨g, h1, h2⟩ => ⟨g, by omega, h2⟩), o6.imp id (fun ⟨g, h1, h2⟩ => ⟨g, by omega, h2⟩), ((((hfq7.set_ 0 _).set_ 1 _).far hgz _).far hgz _).far hgz _, ⟨none, 0, rfl, by simp [holeI, Tm.ks], RdP.nil⟩, ?_⟩
                    exact (((((hRq7.symm.setCell (.inl hgf) _).setCell (.inl hgf) _).setCell (.inr (.inl (.inr rfl))) _).setCell (.inr (.inl (.inr rfl))) _).setCell (.inr (.inl (.inr rfl))) _).mono (fun b _ h => .inl h)
          · go_wp2_with fail
            refine name_midw ?_
            intro q8 hn
            have hRq8 : Rows2 B (fun b => E b ∨ b = w.heap.size + 1 + 1) q8 (.slice A1 l.length c1) (.slice A2 l.length c2) l r := by rw [hn]; exact hRq0.alloc _
            have hSq8 : (S3 gf w1.heap.size w2.heap.size #[.slice A1 l.length c1, .slice A2 l.length c2] #[.int .i64 kx, .int .i64 nx, .slice A1' X.length c1'] #[.int .i64 ky, .int .i64 ny, .slice A2' Y.length c2']) q8 := by rw [hn]; exact hSq0.alloc _
            have hCq8 : Chg gf (.slice A1 l.length c1) (.slice A2 l.length c2) w q8 := by rw [hn]; exact hCq0.alloc _
            have rXq8 : RdP (fun b => w.heap.size + 3 ≤ b ∧ b < wr.heap.size) q8 A1' 0 X := by rw [hn]; exact rXq0.alloc _
            have rYq8 : RdP (fun b => w.heap.size + 3 ≤ b ∧ b < wr.heap.size) q8 A2' 0 Y := by rw [hn]; exact rYq0.alloc _
            have hZq8 : Blk q8 (w.heap.size + 1 + 1) #[.int .i64 0, .int .i64 0, .slice none 0 0] := by rw [hn]; exact hZq0.alloc _
            have hWq8 : Blk q8 q0.heap.size #[.int .i64 ky, .int .i64 ny, .slice A2' Y.length c2'] := by rw [hn]; exact Blk.new_ _ 28 _ rfl
            have sq8 : wr.heap.size ≤ q8.heap.size := by have := sq0; rw [hn]; simp; omega
            clear hn
            refine mid_intro hSq8 ?_
            refine anyA_one (i := 7) (by kernel_rfl) rfl ?_
            · go_wp2_with fail
              refine name_midw ?_
              intro q9 hn
              have hRq9 : Rows2 B (fun b => E b ∨ b = w.heap.size + 1 + 1) q9 (.slice A1 l.length c1) (.slice A2 l.length c2) l r := by rw [hn]; exact hRq8.alloc _
              have hSq9 : (S3 gf w1.heap.size w2.heap.size #[.slice A1 l.length c1, .slice A2 l.length c2] #[.int .i64 kx, .int .i64 nx, .slice A1' X.length c1'] #[.int .i64 ky, .int .i64 ny, .slice A2' Y.length c2']) q9 := by rw [hn]; exact hSq8.alloc _
              have hCq9 : Chg gf (.slice A1 l.length c1) (.slice A2 l.length c2) w q9 := by rw [hn]; exact hCq8.alloc _
              have rXq9 : RdP (fun b => w.heap.size + 3 ≤ b ∧ b < wr.heap.size) q9 A1' 0 X := by rw [hn]; exact rXq8.alloc _
              have rYq9 : RdP (fun b => w.heap.size + 3 ≤ b ∧ b < wr.heap.size) q9 A2' 0 Y := by rw [hn]; exact rYq8.alloc _
              have hZq9 : Blk q9 (w.heap.size + 1 + 1) #[.int .i64 0, .int .i64 0, .slice none 0 0] := by rw [hn]; exact hZq8.alloc _
              have hWq9 : Blk q9 q0.heap.size #[.int .i64 ky, .int .i64 ny, .slice A2' Y.length c2'] := by rw [hn]; exact hWq8.alloc _
              have hVq9 : Blk q9 q8.heap.size #[.int .i64 kx, .int .i64 nx, .slice A1' X.length c1'] := by rw [hn]; exact Blk.new_ _ 28 _ rfl
              have sq9 : wr.heap.size ≤ q9.heap.size := by have := sq8; rw [hn]; simp; omega
              clear hn
              refine mid_intro hSq9 ?_
              refine anyA_one (i := 8) (by kernel_rfl) rfl ?_
              · refine wpList_append_rows (q := fun b => w.heap.size + 3 ≤ b ∧ b < wr.heap.size) hRq9 (by omega) (fun b h => h.elim (fun h => by have := hE b h; omega) (fun h => by omega)) rXq9 (fun b hb => ⟨by omega, by omega, fun e => by have := (own0.1 b e).2; omega, fun e => by have := (own0.2 b e).2; omega, fun e => e.elim (fun e => by have := hE b e; omega) (fun e => by omega)⟩) hl1 rfl (by omega) _ 1 hVq9 rfl (.tmp 72) (.tmp 74) rfl rfl rfl ?_
                intro A5 c5 q10 hRq10 hgq10 ho5
                go_wp2_with fail
                have hSq10 := hSq9.grown hgq10 (fun e => by have := (own0.1 _ e.symm).1; omega) (fun e => by have := (own0.1 _ e.symm).2; omega) (fun e => by have := (own0.1 _ e.symm).2; omega)
                have hCq10 := hCq9.grown1 hgq10
                have rXq10 := rXq9.grown hgq10 (fun b hb e => by have := (own0.1 b e.symm).2; omega)
                have rYq10 := rYq9.grown hgq10 (fun b hb e => by have := (own0.1 b e.symm).2; omega)
                have hZq10 := hZq9.grown hgq10 (fun e => by have := (own0.1 _ e.symm).2; omega)
                have hWq10 := hWq9.grown hgq10 (fun e => by have := (own0.1 _ e.symm).2; omega)
                have hVq10 := hVq9.grown hgq10 (fun e => by have := (own0.1 _ e.symm).2; omega)
                have sq10 : wr.heap.size ≤ q10.heap.size := Nat.le_trans sq9 hgq10.size
                have o5 : (Value.slice A5 (l.length + 1) c5).ownBlock = (Value.slice A1 l.length c1).ownBlock ∨ ∃ g, wr.heap.size ≤ g ∧ (Value.slice A5 (l.length + 1) c5).ownBlock = some g := ho5.imp id (fun h => ⟨_, sq9, h⟩)
                refine mid_intro hSq10 ?_
                refine anyA_one (i := 15) (by kernel_rfl) rfl ?_
                · refine wpList_append_rows (q := fun b => w.heap.size + 3 ≤ b ∧ b < wr.heap.size) hRq10.symm (by omega) (fun b h => h.elim (fun h => by have := hE b h; omega) (fun h => by omega)) rYq10 (fun b hb => ⟨by omega, by omega, fun e => by have := (own0.2 b e).2; omega, fun e => by rcases o5 with h | ⟨g, h1, h⟩; (have := (own0.1 b (h.symm.trans e)).2; omega); (have := Option.some.inj (h.symm.trans e); omega), fun e => e.elim (fun e => by have := hE b e; omega) (fun e => by omega)⟩) hl2 hrl'.out (by omega) _ 1 hWq10 rfl (.tmp 79) (.tmp 81) rfl rfl rfl ?_
                  intro A6 c6 q11 hRq11 hgq11 ho6
                  go_wp2_with fail
                  have hSq11 := hSq10.grown hgq11 (fun e => by have := (own0.2 _ e.symm).1; omega) (fun e => by have := (own0.2 _ e.symm).2; omega) (fun e => by have := (own0.2 _ e.symm).2; omega)
                  have hCq11 := hCq10.grown2 hgq11
                  have hZq11 := hZq10.grown hgq11 (fun e => by have := (own0.2 _ e.symm).2; omega)
                  have sq11 : wr.heap.size ≤ q11.heap.size := Nat.le_trans sq10 hgq11.size
                  have o6 : (Value.slice A6 (l.length + 1) c6).ownBlock = (Value.slice A2 l.length c2).ownBlock ∨ ∃ g, wr.heap.size ≤ g ∧ (Value.slice A6 (l.length + 1) c6).ownBlock = some g := ho6.imp id (fun h => ⟨_, sq10, h⟩)
                  refine mid_intro hSq11 ?_
                  refine anyA_end (lB := [_, _, _, _, _, _]) (by kernel_rfl) rfl ?_
                  have hfq11 := hSq11.1
                  obtain ⟨f0, f1⟩ := hfq11.two
                  have i0 := hfq11.frozen 0
                  have i1 := hfq11.frozen 1
                  obtain ⟨d0, d1, d2⟩ := hZq11.three
                  have e0 := hZq11.frozen 0
                  have e1 := hZq11.frozen 1
                  have e2 := hZq11.frozen 2
                  go_wp2_with fail
                  have hgz : gf ≠ w.heap.size + 1 + 1 := by omega
                  refine bodyPost_ret (v := .tuple #[.agg #[.int .i64 (-1), .int .i64 l.length, .slice none 0 0], .bool true]) ?_ rfl ?_
                  · simp [results, Try.results56, go_sem, d0, d1, d2, hgz, Ne.symm hgz]
                  · rw [hz'.out, hi2.out]
                    refine ⟨_, _, ((((hCq11.set (.inl rfl) _).set (.inl rfl) _).set (.inr (by show w.heap.size ≤ w.heap.size + 1 + 1; omega)) _).set (.inr (by show w.heap.size ≤ w.heap.size + 1 + 1; omega)) _).set (.inr (by show w.heap.size ≤ w.heap.size + 1 + 1; omega)) _, o5.imp id (fun ⟨g, h1, h2⟩ => ⟨g, by omega, h2⟩), o6.imp id (fun ⟨g, h1, h2⟩ => ⟨g, by omega, h2⟩), ((((hfq11.set_ 0 _).set_ 1 _).far hgz _).far hgz _).far hgz _, ⟨none, 0, rfl, by simp [holeI, Tm.ks], RdP.nil⟩, ?_⟩
                    exact (((((hRq11.symm.setCell (.inl hgf) _).setCell (.inl hgf) _).setCell (.inr (.inl (.inr rfl))) _).setCell (.inr (.inl (.inr rfl))) _).setCell (.inr (.inl (.inr rfl))) _).mono (fun b _ h => .inl h)

end Go.Proofs.Ytgmljpmnfncceaa
