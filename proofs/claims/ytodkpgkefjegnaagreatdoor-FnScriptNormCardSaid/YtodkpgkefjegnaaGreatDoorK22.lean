/-
  Contracts of the functions that the law reaches, and plain lemmas. No condition.
-/
import Derived.Test.YtodkpgkefjegnaaGreatDoorK6
import Derived.Test.YtodkpgkefjegnaaGreatDoorK7
import Derived.Test.YtodkpgkefjegnaaGreatDoorK9
import Derived.Test.YtodkpgkefjegnaaGreatDoorK12
import Derived.Test.YtodkpgkefjegnaaGreatDoorK14
import Derived.Test.YtodkpgkefjegnaaGreatDoorK15
import Derived.Test.YtodkpgkefjegnaaGreatDoorK20
import Derived.Test.YtodkpgkefjegnaaGreatDoorK21
import Derived.Outline
import Derived.Test.YtodkpgkefjegnaaGreatDoorChecked
import Derived.ChangeSlices
import Derived.ProofKit
import Derived.OpenShut
import Derived.JoinedCond
import Derived.Carry
import Derived.Below
import Derived.ChangeSame
namespace Go.Proofs.YtodkpgkefjegnaaGreatDoor
set_option linter.unusedSimpArgs false
set_option linter.unusedVariables false
open Go.RowKit
/-- a term that has been drawn: it can be read, in blocks that are new -/
def DrawnR (B : Nat) (w : World) (r p q s : Nat) (e : Ending) (w' : World) : Prop :=
  ∃ (k n : Int) (ks : List Tm) (A : Option Addr) (c p' : Nat), e = .returned (.agg #[.int .i64 k, .int .i64 n, .slice A ks.length c]) ∧ ks.length ≤ 9223372036854775807 ∧ sizes ks + 1 ≤ s ∧ (validT (.mk k n ks) = true → hi3 (.mk k n ks) = true) ∧ p' ≤ p + q ∧ RdP (fun b => w.heap.size ≤ b ∧ b < w'.heap.size) w' A 0 ks ∧ Rdr B w' r p' ∧ w.grownBy w' (some r)
set_option maxHeartbeats 8000000 in
set_option maxRecDepth 100000 in
theorem mutate_any (B r p : Nat) (k n : Int) (ks : List Tm) (A : Option Addr) (c : Nat) (w : World) (hp : p ≤ 900000000) (hB : B ≤ w.heap.size) (hr : Rdr B w r p) (hM : sizes ks ≤ 1000000) (h3 : hi3 (.mk k n ks) = true) (hrk : Rd w A 0 ks) :
    Calls Tryz.prog 12 #[.pointer (some ⟨r, 0, none⟩), .agg #[.int .i64 k, .int .i64 n, .slice A ks.length c]] w (DrawnR B w r p 2 (sizes ks + 3)) := by
  have hrl := hr.lt
  have h3h := hide h3
  clear h3
  have hlen := length_le_sizes ks
  go_enter Tryz.func12, Tryz.ntmps12
  go_wp2_with (go_at_call 29; refine (sCopyV_any _ k n ks A c _ (Nat.lt_succ_self _) (by omega) ((hrk.alloc _).alloc _)).mono ?_; rintro e w2 ⟨v, rfl, hl2, hq, hb2⟩; obtain ⟨A1, c1, rfl⟩ := hq.shape; have hZ : Blk w2 (w.heap.size + 1) #[.int .i64 0, .int .i64 0, .slice none 0 0] := (Blk.new_ (w.alloc (.cells #[.int .i64 k, .int .i64 n, .slice A ks.length c] 25)) 25 #[.int .i64 0, .int .i64 0, .slice none 0 0] (by simp)).keep hb2; have g2 : w.grownBy w2 (some r) := only_below (only_alloc (only_alloc (World.grownBy.refl _ _) _) _) hb2; have s2 : w.heap.size + 1 + 1 ≤ w2.heap.size := (by have := hb2.size; simpa using this); have hr2 : Rdr B w2 r p := ((hr.alloc (by omega) _).alloc (by simp; omega) _).below hb2 (by simp; omega); replace hq := hq.mono (B' := w.heap.size + 2) (by simp))
  refine (pick_any B r p 50 _ (by omega) (by omega) (by simp; omega) (hr2.alloc (by omega) _)).mono ?_
  rintro e w3 ⟨m, rfl, hm, hm0, hr3, hg3⟩
  clear hm hm0
  have hX := (Blk.new_ w2 25 #[.int .i64 k, .int .i64 n, .slice A1 ks.length c1] rfl).grown hg3 (by simp; omega)
  replace hZ := (hZ.alloc (.cells #[.int .i64 k, .int .i64 n, .slice A1 ks.length c1] 25)).grown hg3 (by simp; omega)
  have hfr : ∀ b, w.heap.size + 2 ≤ b → b < w2.heap.size → w3.heap[b]? = w2.heap[b]? := fun b h1 h2 => (hg3.block b (by simp; omega) (by simp; omega)).trans (Below.heap_alloc _ _ b h2)
  have g3 := grown_trans (only_alloc g2 _) hg3
  have s3 : w2.heap.size + 1 ≤ w3.heap.size := by have := hg3.size; simpa using this
  have lx := hX.lt
  have lz := hZ.lt
  have hq3 : RdP (fun b => w.heap.size + 2 ≤ b ∧ b < w2.heap.size) w3 A1 0 ks := by
    obtain ⟨A', c', e, hf⟩ := hq.fresh
    injection e with e1
    subst e1
    exact hf.rdp.blocks fun b h1 h2 => hfr b h1.1 h1.2
  have x0 := hX.at_ (i := 0) rfl
  have x1 := hX.at_ (i := 1) rfl
  have x2 := hX.at_ (i := 2) rfl
  have d0 := hZ.at_ (i := 0) rfl
  have d1 := hZ.at_ (i := 1) rfl
  have d2 := hZ.at_ (i := 2) rfl
  have e0 := hZ.frozen 0
  have e1 := hZ.frozen 1
  have e2 := hZ.frozen 2
  have hne : r ≠ w2.heap.size := by omega
  by_cases m0 : m = 0
  · subst m0
    go_wp2_with (go_at_call 31; refine (num_any [0, 17, 1, 5, 6] B r (p + 1) w3.heap.size _ (by decide) (by decide) (by omega) (by simp; omega) (hr3.alloc (by omega) _) (Blk.new_ _ 3 _ rfl) (by omega)).mono ?_; rintro e w4 ⟨x, hx, rfl, hr4, hg4⟩; clear d0 d1 d2 e0 e1 e2 x0 x1 x2; replace hX := (hX.alloc (.cells (intc [0, 17, 1, 5, 6]) 3)).grown hg4 (by simp; omega); replace hZ := (hZ.alloc (.cells (intc [0, 17, 1, 5, 6]) 3)).grown hg4 (by simp; omega); replace hq3 := (hq3.alloc (.cells (intc [0, 17, 1, 5, 6]) 3)).blocks (w' := w4) (fun b h1 h2 => hg4.block b h2 (by simp; omega)); have g4 := grown_trans (only_alloc g3 _) hg4; have s4 : w3.heap.size + 1 ≤ w4.heap.size := (by have := hg4.size; simpa using this); have lx4 := hX.lt; have lz4 := hZ.lt; have x0 := hX.at_ (i := 0) rfl; have x1 := hX.at_ (i := 1) rfl; have x2 := hX.at_ (i := 2) rfl; have f0 := hX.frozen 0; have f1 := hX.frozen 1; have d0 := hZ.at_ (i := 0) rfl; have d1 := hZ.at_ (i := 1) rfl; have d2 := hZ.at_ (i := 2) rfl; have e0 := hZ.frozen 0; have e1 := hZ.frozen 1; have e2 := hZ.frozen 2)
    refine bodyPost_ret (v := .agg #[.int .i64 x, .int .i64 n, .slice A1 ks.length c1]) (by simp [results, Tryz.results12, go_sem, d0, d1, d2]) rfl ⟨x, n, ks, A1, c1, p + 1 + 1, rfl, hl2, by omega, (fun _ => by have h := h3h.out; rw [hi3] at h ⊢; exact h), by omega, ?_, ?_, ?_⟩
    · exact ((((hq3.setCell (a := ⟨w2.heap.size, 0, none⟩) (by simp) _).setCell (by simp) _).setCell (by simp) _).setCell (by simp) _).mono fun b h => ⟨by omega, by simp; omega⟩
    · exact (((hr4.setCell (a := ⟨w2.heap.size, 0, none⟩) (by simp; omega) _).setCell (by simp; omega) _).setCell (by simp; omega) _).setCell (by simp; omega) _
    · exact only_setCell (only_setCell (only_setCell (only_setCell g4 (p := ⟨w2.heap.size, 0, none⟩) (.inr (by simp; omega)) _) (.inr (by simp)) _) (.inr (by simp)) _) (.inr (by simp)) _

  by_cases m1 : m = 1
  · subst m1
    go_wp2_with (go_at_call 31; refine (num_any [21, -1, 1, 9223372036854775807] B r (p + 1) w3.heap.size _ (by decide) (by decide) (by omega) (by simp; omega) (hr3.alloc (by omega) _) (Blk.new_ _ 3 _ rfl) (by omega)).mono ?_; rintro e w4 ⟨x, hx, rfl, hr4, hg4⟩; clear d0 d1 d2 e0 e1 e2 x0 x1 x2; replace hX := (hX.alloc (.cells (intc [21, -1, 1, 9223372036854775807]) 3)).grown hg4 (by simp; omega); replace hZ := (hZ.alloc (.cells (intc [21, -1, 1, 9223372036854775807]) 3)).grown hg4 (by simp; omega); replace hq3 := (hq3.alloc (.cells (intc [21, -1, 1, 9223372036854775807]) 3)).blocks (w' := w4) (fun b h1 h2 => hg4.block b h2 (by simp; omega)); have g4 := grown_trans (only_alloc g3 _) hg4; have s4 : w3.heap.size + 1 ≤ w4.heap.size := (by have := hg4.size; simpa using this); have lx4 := hX.lt; have lz4 := hZ.lt; have x0 := hX.at_ (i := 0) rfl; have x1 := hX.at_ (i := 1) rfl; have x2 := hX.at_ (i := 2) rfl; have f0 := hX.frozen 0; have f1 := hX.frozen 1; have d0 := hZ.at_ (i := 0) rfl; have d1 := hZ.at_ (i := 1) rfl; have d2 := hZ.at_ (i := 2) rfl; have e0 := hZ.frozen 0; have e1 := hZ.frozen 1; have e2 := hZ.frozen 2)
    refine bodyPost_ret (v := .agg #[.int .i64 k, .int .i64 x, .slice A1 ks.length c1]) (by simp [results, Tryz.results12, go_sem, d0, d1, d2]) rfl ⟨k, x, ks, A1, c1, p + 1 + 1, rfl, hl2, by omega, (fun hv => by have h := h3h.out; rw [hi3, Bool.and_eq_true] at h ⊢; exact ⟨decide_eq_true (by have := valid_n20 hv; simp only [List.mem_cons, List.not_mem_nil, or_false] at hx; omega), h.2⟩), by omega, ?_, ?_, ?_⟩
    · exact ((((hq3.setCell (a := ⟨w2.heap.size, 1, none⟩) (by simp) _).setCell (by simp) _).setCell (by simp) _).setCell (by simp) _).mono fun b h => ⟨by omega, by simp; omega⟩
    · exact (((hr4.setCell (a := ⟨w2.heap.size, 1, none⟩) (by simp; omega) _).setCell (by simp; omega) _).setCell (by simp; omega) _).setCell (by simp; omega) _
    · exact only_setCell (only_setCell (only_setCell (only_setCell g4 (p := ⟨w2.heap.size, 1, none⟩) (.inr (by simp; omega)) _) (.inr (by simp)) _) (.inr (by simp)) _) (.inr (by simp)) _

  have q0 : ((m : Int) == 0) = false := beq_eq_false_iff_ne.2 (by omega)
  have q1 : ((m : Int) == 1) = false := beq_eq_false_iff_ne.2 (by omega)
  by_cases m2 : m = 2
  · subst m2
    have x2r := hX.rule (i := 2) rfl
    go_wp2_with fail
    refine wp_region_firstY (fun w' => Below w3.heap.size w3 w') [0, 1] [2, 3] [4, 5, 6] [_, _] [_, _] [_, _, _] (by kernel_rfl) (by kernel_rfl) rfl rfl rfl (fun _ _ d _ _ h => by cases d <;> exact h) (Below.refl _ _).drew ?_
    repeat (first | ((refine takeY_skip (a' := ?_) ?_ ?_ ?_); (rotate_left); (· (simp [Region.wanted, yielded]; done)); (· (simp only [List.getElem_toArray, List.getElem_cons_zero, List.getElem_cons_succ, Act.put, List.setIfInBounds_toArray, List.set_cons_zero, List.set_cons_succ]; exact rfl))) | ((refine takeY_step (v := ?_) (a' := ?_) ?_ ?_ ?_ ?_); (rotate_left 2); (· (simp [Region.wanted, yielded]; done)); (· (intro w' hS'; go_simp; try (with_reducible rfl))); (· (simp only [List.getElem_toArray, List.getElem_cons_zero, List.getElem_cons_succ, Act.put, List.setIfInBounds_toArray, List.set_cons_zero, List.set_cons_succ]; exact rfl))))
    refine takeY_nil (then_cons ?_)
    go_wp2_with (go_at_call 32; refine (sLeaf_any _ _ _).mono ?_; rintro e w4 ⟨rfl, hb4⟩)
    have hx1 : Below w3.heap.size w3 w4 := (Below.refl _ _).drew.trans hb4
    have s4 := hx1.size
    refine mid_intro hx1 (then_cons ?_)
    go_wp2_with fail
    refine mid_intro (hx1.alloc hx1.size _) (then_nil ?_)
    refine wpList_append_leaf hq (fun b h1 h2 => (hx1.block b (by omega)).trans (hfr b h1 h2)) (by omega) (by omega) (m := ks.length) rfl (by omega) 7 0 0 rfl (.tmp 25) (.tmp 27) rfl rfl rfl ?_
    intro A2 c2 w5 hrd hg5 hown
    have hvo : ∀ g, (Value.slice A1 ks.length c1).ownBlock = some g → w.heap.size + 2 ≤ g ∧ g < w2.heap.size := hown
    have hX5 := (hX.keep hx1).grown hg5 (fun e => by have := hvo _ e.symm; omega)
    have hZ5 := (hZ.keep hx1).grown hg5 (fun e => by have := hvo _ e.symm; omega)
    have s5 := hg5.size
    have r5 : Rdr B w5 r (p + 1) := (hr3.below hx1 (by omega)).keep fun b hb => hg5.block b (by omega) (fun e => by have := hvo _ e.symm; omega)
    have g5 : w.grownBy w5 (some r) := ⟨hg5.os.trans ((only_below g3 hx1).os), hg5.tape.trans ((only_below g3 hx1).tape), hg5.output.trans ((only_below g3 hx1).output), by have := g3.size; omega, fun b hb hn => (hg5.block b (by have := g3.size; omega) (fun e => by have := hvo _ e.symm; omega)).trans ((only_below g3 hx1).block b hb hn)⟩
    clear x0 x1 x2 d0 d1 d2 e0 e1 e2 x2r
    have x0 := hX5.at_ (i := 0) rfl
    have x1 := hX5.at_ (i := 1) rfl
    have x2 := hX5.at_ (i := 2) rfl
    have f2 := hX5.frozen 2
    have d0 := hZ5.at_ (i := 0) rfl
    have d1 := hZ5.at_ (i := 1) rfl
    have d2 := hZ5.at_ (i := 2) rfl
    have e0 := hZ5.frozen 0
    have e1 := hZ5.frozen 1
    have e2 := hZ5.frozen 2
    have lx5 := hX5.lt
    have lz5 := hZ5.lt
    go_wp2_with fail
    refine bodyPost_ret (v := .agg #[.int .i64 k, .int .i64 n, .slice A2 (ks.length + 1) c2]) (by simp [results, Tryz.results12, go_sem, d0, d1, d2]) rfl ⟨k, n, ks ++ [.mk 7 0 []], A2, c2, p + 1, by simp, by simp; omega, by simp [sizes_append, sizes, Tm.size], (fun _ => by have h := h3h.out; rw [hi3, Bool.and_eq_true] at h ⊢; exact ⟨h.1, by rw [hi3L_append, h.2]; rfl⟩), by omega, ?_, ?_, ?_⟩
    · exact ((((hrd.setCell (a := ⟨w2.heap.size, 2, none⟩) (by simp; omega) _).setCell (by simp) _).setCell (by simp) _).setCell (by simp) _).mono fun b h => ⟨by omega, by simp; omega⟩
    · exact (((r5.setCell (a := ⟨w2.heap.size, 2, none⟩) (by simp; omega) _).setCell (by simp; omega) _).setCell (by simp; omega) _).setCell (by simp; omega) _
    · exact only_setCell (only_setCell (only_setCell (only_setCell g5 (p := ⟨w2.heap.size, 2, none⟩) (.inr (by simp; omega)) _) (.inr (by simp)) _) (.inr (by simp)) _) (.inr (by simp)) _
  have q2 : ((m : Int) == 2) = false := beq_eq_false_iff_ne.2 (by omega)
  by_cases m3 : m = 3
  · subst m3
    obtain ⟨A', c', e, hf⟩ := hq.fresh
    injection e with e1 e2 e3
    subst e1 e3
    clear e2
    obtain ⟨fp, hO, hnd, hge⟩ := (hf.keep (w' := w3) hfr).node hl2 k n c1
    go_wp2_with (go_at_call 33; refine (l1Node_any (B := w.heap.size + 2) (us := [.mk k n ks]) _ (by simp; omega) (hO.alloc _) hnd hge (by simp) _ 1 (Blk.new_ _ 25 _ rfl)).mono ?_; rintro e w4 ⟨A2, c2, rfl, hf4, hb4⟩; replace hZ := (hZ.alloc _).keep hb4; clear d0 d1 d2 e0 e1 e2; have d0 := hZ.at_ (i := 0) rfl; have d1 := hZ.at_ (i := 1) rfl; have d2 := hZ.at_ (i := 2) rfl; have e0 := hZ.frozen 0; have e1 := hZ.frozen 1; have e2 := hZ.frozen 2)
    have s4 : w3.heap.size + 1 ≤ w4.heap.size := by have := hb4.size; simpa using this
    have r4 := (hr3.alloc (by omega) (.cells #[.int .i64 k, .int .i64 n, .slice A1 ks.length c1] 25)).below hb4 (by simp; omega)
    have g4 := only_below (only_alloc g3 (.cells #[.int .i64 k, .int .i64 n, .slice A1 ks.length c1] 25)) hb4
    refine bodyPost_ret (v := .agg #[.int .i64 8, .int .i64 0, .slice A2 1 c2]) (by simp [results, Tryz.results12, go_sem, d0, d1, d2]) rfl ⟨8, 0, [.mk k n ks], A2, c2, p + 1, rfl, by simp, by simp [sizes, Tm.size], (fun _ => by rw [hi3, hi3L, h3h.out]; rfl), by omega, ?_, ?_, ?_⟩
    · exact (((hf4.rdp.setCell (by simp) _).setCell (by simp) _).setCell (by simp) _).mono fun b h => ⟨by omega, by simp; omega⟩
    · exact ((r4.setCell (by simp; omega) _).setCell (by simp; omega) _).setCell (by simp; omega) _
    · exact only_setCell (only_setCell (only_setCell g4 (.inr (by simp)) _) (.inr (by simp)) _) (.inr (by simp)) _
  have q3 : ((m : Int) == 3) = false := beq_eq_false_iff_ne.2 (by omega)
  by_cases m4 : m = 4
  · subst m4
    cases ks with
    | nil =>
      go_wp2_with fail
      refine bodyPost_ret (v := .agg #[.int .i64 k, .int .i64 n, .slice A1 0 c1]) (by simp [results, Tryz.results12, go_sem, d0, d1, d2]) rfl ⟨k, n, [], A1, c1, p + 1, rfl, hl2, by omega, (fun _ => h3h.out), by omega, ?_, ?_, ?_⟩
      · exact ((((hq3).setCell (by simp) _).setCell (by simp) _).setCell (by simp) _).mono fun b h => ⟨by omega, by simp; omega⟩
      · exact (((hr3).setCell (by simp; omega) _).setCell (by simp; omega) _).setCell (by simp; omega) _
      · exact only_setCell (only_setCell (only_setCell (g3) (.inr (by simp)) _) (.inr (by simp)) _) (.inr (by simp)) _
    | cons t ts =>
      obtain ⟨g, cap, hv, hgB, hgl, hW⟩ := hq.head_set
      injection hv with hv1 hv2 hv3
      subst hv1 hv3
      clear hv2
      simp only [List.length_cons] at hlen hl2 x2
      have hpos : 0 < ts.length + 1 := by omega
      have x2r := hX.rule (i := 2) rfl
      simp only [List.length_cons] at x2r
      go_wp2_with fail
      refine wp_region_firstY (fun w' => Below w3.heap.size w3 w') [0, 1] [2] [3, 4] [_, _] [_] [_, _] (by kernel_rfl) (by kernel_rfl) rfl rfl rfl (fun _ _ d _ _ h => by cases d <;> exact h) (Below.refl _ _).drew ?_
      repeat (first | ((refine takeY_skip (a' := ?_) ?_ ?_ ?_); (rotate_left); (· (simp [Region.wanted, yielded]; done)); (· (simp only [List.getElem_toArray, List.getElem_cons_zero, List.getElem_cons_succ, Act.put, List.setIfInBounds_toArray, List.set_cons_zero, List.set_cons_succ]; exact rfl))) | ((refine takeY_step (v := ?_) (a' := ?_) ?_ ?_ ?_ ?_); (rotate_left 2); (· (simp [Region.wanted, yielded]; done)); (· (intro w' hS'; go_simp; try (with_reducible rfl))); (· (simp only [List.getElem_toArray, List.getElem_cons_zero, List.getElem_cons_succ, Act.put, List.setIfInBounds_toArray, List.set_cons_zero, List.set_cons_succ]; exact rfl))))
      refine takeY_nil (then_cons ?_)
      go_wp2_with (go_at_call 32; refine (sLeaf_any _ _ _).mono ?_; rintro e w4 ⟨rfl, hb4⟩)
      have hx1 : Below w3.heap.size w3 w4 := (Below.refl _ _).drew.trans hb4
      have s4 := hx1.size
      refine mid_intro hx1 (then_nil ?_)
      obtain ⟨⟨u0, u1, u2, y0, y1, y2⟩, yf, hset⟩ := hW w4 (fun b h1 h2 => (hx1.block b (by omega)).trans (hfr b h1 h2))
      have yf0 := yf 0
      have yf1 := yf 1
      have yf2 := yf 2
      have hset' := hset 1 25 0
      have hX4 := hX.keep hx1
      have hZ4 := hZ.keep hx1
      have r4 := hr3.below hx1 (by omega)
      have g4 := only_below g3 hx1
      clear x0 x1 x2 d0 d1 d2 e0 e1 e2 x2r hset yf
      have x0 := hX4.at_ (i := 0) rfl
      have x1 := hX4.at_ (i := 1) rfl
      have x2 := hX4.at_ (i := 2) rfl
      have d0 := hZ4.at_ (i := 0) rfl
      have d1 := hZ4.at_ (i := 1) rfl
      have d2 := hZ4.at_ (i := 2) rfl
      have e0 := hZ4.frozen 0
      have e1 := hZ4.frozen 1
      have e2 := hZ4.frozen 2
      simp only [List.length_cons] at x2
      have n1 : g ≠ w2.heap.size := by omega
      have n2 : g ≠ w.heap.size + 1 := by omega
      have n3 : w2.heap.size ≠ g := by omega
      have n4 : w.heap.size + 1 ≠ g := by omega
      have hs : g ≠ r := by omega
      go_wp2_with fail
      refine bodyPost_ret (v := .agg #[.int .i64 k, .int .i64 n, .slice (some ⟨g, 0, none⟩) (ts.length + 1) c1]) (by simp [results, Tryz.results12, go_sem, d0, d1, d2, n1, n2, n3, n4]) rfl ⟨k, n, .mk 1 25 [] :: ts, some ⟨g, 0, none⟩, c1, p + 1, by simp, by simp; omega, by simp [sizes, Tm.size]; omega, (fun hv => absurd (valid_n20 (validT_kid hv List.mem_cons_self)) (by omega)), by omega, ?_, ?_, ?_⟩
      · exact (((hset'.setCell (by simp) _).setCell (by simp) _).setCell (by simp) _).mono fun b h => ⟨by omega, by simp; omega⟩
      · exact (((((r4.setCell (by simp; omega) _).setCell (by simp; omega) _).setCell (by simp; omega) _).setCell (by simp; omega) _).setCell (by simp; omega) _).setCell (by simp; omega) _
      · exact only_setCell (only_setCell (only_setCell (only_setCell (only_setCell (only_setCell g4 (.inr (by simp; omega)) _) (.inr (by simp; omega)) _) (.inr (by simp; omega)) _) (.inr (by simp)) _) (.inr (by simp)) _) (.inr (by simp)) _
  have q4 : ((m : Int) == 4) = false := beq_eq_false_iff_ne.2 (by omega)
  · go_wp2_with fail
    refine bodyPost_ret (v := .agg #[.int .i64 k, .int .i64 n, .slice A1 ks.length c1]) (by simp [results, Tryz.results12, go_sem, d0, d1, d2]) rfl ⟨k, n, ks, A1, c1, p + 1, rfl, hl2, by omega, (fun _ => h3h.out), by omega, ?_, ?_, ?_⟩
    · exact ((((hq3).setCell (by simp) _).setCell (by simp) _).setCell (by simp) _).mono fun b h => ⟨by omega, by simp; omega⟩
    · exact (((hr3).setCell (by simp; omega) _).setCell (by simp; omega) _).setCell (by simp; omega) _
    · exact only_setCell (only_setCell (only_setCell (g3) (.inr (by simp)) _) (.inr (by simp)) _) (.inr (by simp)) _
open Go.RowKit
theorem name_callsN {P : Program} {f : FuncId} {args : Array Value} {w : World} {Q : Ending → World → Prop} (h : ∀ wx, wx = w → Calls P f args wx Q) : Calls P f args w Q := h w rfl
/-- what Normalize answers -/
def nrmR (t : Tm) : Option Tm × Int := if validT t = true then redI outP 200 t else (none, 3)
set_option maxHeartbeats 2000000 in
set_option maxRecDepth 100000 in
theorem sFits_any (k n : Int) (ks : List Tm) (A : Option Addr) (c : Nat) (w : World) (hM : sizes ks ≤ 1000000) (hr : Rd w A 0 ks) :
    Calls Tryz.prog 18 #[.agg #[.int .i64 k, .int .i64 n, .slice A ks.length c], .int .i64 200] w fun e w' => e = .returned (.bool (validT (.mk k n ks))) ∧ Below w.heap.size w w' := by
  obtain ⟨vv, hvv⟩ : ∃ vv, validT (.mk k n ks) = vv := ⟨_, rfl⟩
  rw [hvv]
  cases vv with
  | true =>
    have hvh := hide hvv
    clear hvv
    go_enter Tryz.func18, Tryz.ntmps18
    go_wp2_with (go_at_call 43; refine (sTermValid_any k n ks A c _ (by omega) (hr.alloc _)).mono ?_; rw [hvh.out]; rintro e w1 ⟨rfl, hb1⟩; have g1 : Below w.heap.size w w1 := ((Below.refl _ _).alloc (Nat.le_refl _) _).trans (hb1.mono (by simp)))
    go_ret
    exact ⟨rfl, g1⟩
  | false =>
    have hvh := hide hvv
    clear hvv
    go_enter Tryz.func18, Tryz.ntmps18
    go_wp2_with (go_at_call 43; refine (sTermValid_any k n ks A c _ (by omega) (hr.alloc _)).mono ?_; rw [hvh.out]; rintro e w1 ⟨rfl, hb1⟩; have g1 : Below w.heap.size w w1 := ((Below.refl _ _).alloc (Nat.le_refl _) _).trans (hb1.mono (by simp)))
    go_ret
    exact ⟨rfl, g1⟩
set_option maxHeartbeats 4000000 in
set_option maxRecDepth 100000 in
theorem sNormalize_any (k n : Int) (ks : List Tm) (A : Option Addr) (c : Nat) (w : World) (hl : ks.length ≤ 9223372036854775807) (hM : sizes ks ≤ 1000000) (hr : Rd w A 0 ks) :
    Calls Tryz.prog 6 #[.agg #[.int .i64 k, .int .i64 n, .slice A ks.length c], .int .i64 200] w (GotM w (nrmR (.mk k n ks))) := by
  by_cases hv : validT (.mk k n ks) = true
  · rw [nrmR, if_pos hv, ← norm_same 200 _ hv]
    obtain ⟨R, hR⟩ : ∃ R, normS 200 (.mk k n ks) = R := ⟨_, rfl⟩
    rw [hR]
    have hN := hide (fun A c w hr => by have := sNorm_any contract3 k n ks A c 200 (by omega) w hv hl hr; rwa [hR] at this)
    have hvh := hide hv
    clear hv hR
    go_enter Tryz.func6, Tryz.ntmps6
    go_wp2_with (first
      | (go_at_call 19; have _t := tok2; refine (hN.out A1 c1 _ (hf1.rd.below hb2)).mono ?_; rintro e w3 ⟨k3, n3, ks3, A3, c3, hk3, rfl, hl3, r3, hb3⟩; have hZ3 := hZ2.keep hb3; have g3 := g2.trans (hb3.mono g2.size); obtain ⟨d0, d1, d2⟩ := hZ3.three; have e0 := hZ3.frozen 0; have e1 := hZ3.frozen 1; have e2 := hZ3.frozen 2)
      | (go_at_call 18; have _t := tok1; refine name_callsN ?_; intro wa hwa; have hX : Blk wa w.heap.size #[.int .i64 k, .int .i64 n, .slice A1 ks.length c1] := (by rw [hwa]; exact ((hX1.set_ 0 _).set_ 1 _).set_ 2 _); have hZ : Blk wa (w.heap.size + 1) #[.int .i64 0, .int .i64 0, .slice none 0 0] := (by rw [hwa]; exact ((hZ1.far (by simp) _).far (by simp) _).far (by simp) _); have ga : Below w.heap.size w wa := (by rw [hwa]; exact ((g1.setCell (by simp) _).setCell (by simp) _).setCell (by simp) _); replace hf1 : Fresh w1s wa A1 ks := (by rw [hwa]; exact ((hf1.setCell (by simp; omega) _).setCell (by simp; omega) _).setCell (by simp; omega) _); clear hwa; refine (sFits_any k n ks A1 c1 _ hM hf1.rd).mono ?_; rw [hvh.out]; rintro e w2 ⟨rfl, hb2⟩; have hX2 := hX.keep hb2; have hZ2 := hZ.keep hb2; have g2 := ga.trans (hb2.mono ga.size); clear x0 x1 x2; obtain ⟨x0, x1, x2⟩ := hX2.three; have lz := hZ2.lt; have tok2 := trivial)
      | (go_at_call 17; refine (sOwn_any k n ks A c _ (by omega) ((hr.alloc _).alloc _)).mono ?_; rintro e w1 ⟨A1, c1, rfl, hl1, hf1, hb1⟩; obtain ⟨w1s, hw1s⟩ : ∃ s, s = w.heap.size + 2 := ⟨_, rfl⟩; replace hf1 : Fresh w1s w1 A1 ks := (by rw [hw1s]; exact hf1.mono (by simp)); have hX1 : Blk w1 w.heap.size #[.int .i64 k, .int .i64 n, .slice A ks.length c] := ((Blk.new_ w 25 _ rfl).alloc _).keep hb1; have hZ1 : Blk w1 (w.heap.size + 1) #[.int .i64 0, .int .i64 0, .slice none 0 0] := (Blk.new_ _ 25 _ (by simp)).keep hb1; have g1 : Below w.heap.size w w1 := (((Below.refl _ _).alloc (Nat.le_refl _) _).alloc (by simp) _).trans (hb1.mono (by simp; omega)); have lz1 := hZ1.lt; obtain ⟨x0, x1, x2⟩ := hX1.three; have f0 := hX1.frozen 0; have f1 := hX1.frozen 1; have f2 := hX1.frozen 2; have tok1 := trivial))
    refine bodyPost_ret (v := .tuple #[.agg #[.int .i64 k3, .int .i64 n3, .slice A3 ks3.length c3], .int .i64 R.2]) (by simp [results, Tryz.results6, go_sem, d0, d1, d2]) rfl ⟨k3, n3, ks3, A3, c3, hk3, rfl, hl3, ?_, ((g3.setCell (by simp) _).setCell (by simp) _).setCell (by simp) _⟩
    exact (((r3.setCell (by simp; omega) _).setCell (by simp; omega) _).setCell (by simp; omega) _).mono (fun b hb => by have := g2.size; omega)
  · rw [nrmR, if_neg hv]
    have hvh := hide (show validT (.mk k n ks) = false by simpa using hv)
    clear hv
    go_enter Tryz.func6, Tryz.ntmps6
    go_wp2_with (first
      | (go_at_call 18; have _t := tok1; refine name_callsN ?_; intro wa hwa; have hZ : Blk wa (w.heap.size + 1) #[.int .i64 0, .int .i64 0, .slice none 0 0] := (by rw [hwa]; exact ((hZ1.far (by simp) _).far (by simp) _).far (by simp) _); have ga : Below w.heap.size w wa := (by rw [hwa]; exact ((g1.setCell (by simp) _).setCell (by simp) _).setCell (by simp) _); replace hf1 : Fresh w1s wa A1 ks := (by rw [hwa]; exact ((hf1.setCell (by simp; omega) _).setCell (by simp; omega) _).setCell (by simp; omega) _); clear hwa; refine (sFits_any k n ks A1 c1 _ hM hf1.rd).mono ?_; rw [hvh.out]; rintro e w2 ⟨rfl, hb2⟩; have hZ2 := hZ.keep hb2; have g2 := ga.trans (hb2.mono ga.size); clear x0 x1 x2; obtain ⟨d0, d1, d2⟩ := hZ2.three; have e0 := hZ2.frozen 0; have e1 := hZ2.frozen 1; have e2 := hZ2.frozen 2; have lz := hZ2.lt; have tok2 := trivial)
      | (go_at_call 17; refine (sOwn_any k n ks A c _ (by omega) ((hr.alloc _).alloc _)).mono ?_; rintro e w1 ⟨A1, c1, rfl, hl1, hf1, hb1⟩; obtain ⟨w1s, hw1s⟩ : ∃ s, s = w.heap.size + 2 := ⟨_, rfl⟩; replace hf1 : Fresh w1s w1 A1 ks := (by rw [hw1s]; exact hf1.mono (by simp)); have hX1 : Blk w1 w.heap.size #[.int .i64 k, .int .i64 n, .slice A ks.length c] := ((Blk.new_ w 25 _ rfl).alloc _).keep hb1; have hZ1 : Blk w1 (w.heap.size + 1) #[.int .i64 0, .int .i64 0, .slice none 0 0] := (Blk.new_ _ 25 _ (by simp)).keep hb1; have g1 : Below w.heap.size w w1 := (((Below.refl _ _).alloc (Nat.le_refl _) _).alloc (by simp) _).trans (hb1.mono (by simp; omega)); have lz1 := hZ1.lt; obtain ⟨x0, x1, x2⟩ := hX1.three; have f0 := hX1.frozen 0; have f1 := hX1.frozen 1; have f2 := hX1.frozen 2; have tok1 := trivial))
    refine bodyPost_ret (v := .tuple #[.agg #[.int .i64 0, .int .i64 0, .slice none 0 0], .int .i64 3]) (by simp [results, Tryz.results6, go_sem, d0, d1, d2]) rfl ⟨0, 0, [], none, 0, rfl, rfl, by simp, RdP.nil, ((g2.setCell (by simp) _).setCell (by simp) _).setCell (by simp) _⟩
set_option maxHeartbeats 4000000 in
set_option maxRecDepth 100000 in
theorem iReduce_no (k n : Int) (ks : List Tm) (A : Option Addr) (c : Nat) (w : World) (hv : validT (.mk k n ks) = false) (hM : sizes ks ≤ 1000000) (hr : Rd w A 0 ks) :
    Calls Tryz.prog 15 #[.agg #[.int .i64 k, .int .i64 n, .slice A ks.length c], .int .i64 200, .func (.func 16) #[] #[]] w fun e w' => e = .returned (.tuple #[.agg #[.int .i64 0, .int .i64 0, .slice none 0 0], .int .i64 0, .int .i64 3]) ∧ Below w.heap.size w w' := by
  have hvh := hide hv
  clear hv
  go_enter Tryz.func15, Tryz.ntmps15
  go_wp2_with (go_at_call 20; refine (iTermValid_any k n ks A c _ (by omega) ((hr.alloc _).alloc _)).mono ?_; rw [hvh.out]; rintro e w1 ⟨rfl, hb1⟩; have hZ1 : Blk w1 (w.heap.size + 1) #[.int .i64 0, .int .i64 0, .slice none 0 0] := (Blk.new_ _ 25 _ (by simp)).keep hb1; have g1 : Below w.heap.size w w1 := (((Below.refl _ _).alloc (Nat.le_refl _) _).alloc (by simp) _).trans (hb1.mono (by simp; omega)); obtain ⟨d0, d1, d2⟩ := hZ1.three; have e0 := hZ1.frozen 0; have e1 := hZ1.frozen 1; have e2 := hZ1.frozen 2)
  exact bodyPost_ret (v := .tuple #[.agg #[.int .i64 0, .int .i64 0, .slice none 0 0], .int .i64 0, .int .i64 3]) (by simp [results, Tryz.results15, go_sem, d0, d1, d2]) rfl ⟨rfl, ((g1.setCell (by simp) _).setCell (by simp) _).setCell (by simp) _⟩
set_option maxHeartbeats 4000000 in
set_option maxRecDepth 100000 in
theorem iNormalize_any (k n : Int) (ks : List Tm) (A : Option Addr) (c : Nat) (w : World) (hM : sizes ks ≤ 1000000) (hr : Rd w A 0 ks) :
    Calls Tryz.prog 5 #[.agg #[.int .i64 k, .int .i64 n, .slice A ks.length c], .int .i64 200] w (GotM w (nrmR (.mk k n ks))) := by
  by_cases hv : validT (.mk k n ks) = true
  · rw [nrmR, if_pos hv]; exact iNorm_any k n ks A c 200 w hv (Nat.le_refl _) hr
  · rw [nrmR, if_neg hv]
    have hvh := hide (show validT (.mk k n ks) = false by simpa using hv)
    clear hv
    go_enter Tryz.func5, Tryz.ntmps5
    go_wp2_with (go_at_call 15; refine (iReduce_no k n ks A c _ hvh.out hM ((hr.alloc _).alloc _)).mono ?_; rintro e w1 ⟨rfl, hb1⟩; have hZ1 : Blk w1 (w.heap.size + 1) #[.int .i64 0, .int .i64 0, .slice none 0 0] := (Blk.new_ _ 25 _ (by simp)).keep hb1; have g1 : Below w.heap.size w w1 := (((Below.refl _ _).alloc (Nat.le_refl _) _).alloc (by simp) _).trans (hb1.mono (by simp; omega)); obtain ⟨d0, d1, d2⟩ := hZ1.three; have e0 := hZ1.frozen 0; have e1 := hZ1.frozen 1; have e2 := hZ1.frozen 2; have lz := hZ1.lt; have n1 : w.heap.size + 1 ≠ w1.heap.size := (by omega))
    have y := fun (o : Obj) => (((((hZ1.set_ 0 (.int .i64 0)).set_ 1 (.int .i64 0)).set_ 2 (.slice none 0 0)).alloc o : Blk _ _ #[.int .i64 0, .int .i64 0, .slice none 0 0])).three
    refine bodyPost_ret (v := .tuple #[.agg #[.int .i64 0, .int .i64 0, .slice none 0 0], .int .i64 3]) (by simp [results, Tryz.results5, go_sem, y]) rfl ⟨0, 0, [], none, 0, rfl, rfl, by simp, RdP.nil, ?_⟩
    exact (((g1.setCell (by simp) _).setCell (by simp) _).setCell (by simp) _).alloc (by simp [World.setCell]; exact g1.size) _
section
open Go.ChangeShapes Go.WideShapes Go.ChangeAt Go.RowKit
set_option maxRecDepth 100000 in
theorem open_code {H : Type} {enc : TypeId × Value → H} {W : World} {base : Nat} {spare : Nat → Bool} {held : Bool} {r : Reach} {b0 : Nat} {v : Value} {d : DataW H} {p : List MemPlace} (hv : Value.okWide Tryz.prog W r b0 22 v) (h : DataW.Trod enc Tryz.prog W base spare held 22 v d p) :
    ∃ (xs : List Int) (A : Option Addr) (c : Nat), v = .slice A xs.length c ∧ xs.length ≤ 9223372036854775807 ∧ xs.length ≤ c ∧ RdY W A xs := by
  obtain ⟨a, len, cap, rfl⟩ := Go.WideShapes.okWide_slice Tryz.underlying22 hv
  obtain ⟨fuel, hf⟩ := h
  have hmax : maxLen ≤ 9223372036854775807 := by decide
  rcases open_ints Tryz.underlying22 Tryz.underlying5 (by kernel_rfl) hf with ⟨hcs, _⟩ | ⟨a', len', cap', zs, hcs, _, hl, hm, hz, _, hcell, hwf⟩
  · injection hcs with hcs
    injection hcs with e1 e2 e3
    subst e1 e2 e3
    exact ⟨[], none, 0, rfl, by simp, by simp, fun j hj => absurd hj (Nat.not_lt_zero _)⟩
  · injection hcs with hcs
    injection hcs with e1 e2 e3
    subst e1 e2 e3
    have hzl : len ≤ zs.length := by rw [hz]; split <;> omega
    refine ⟨zs.take len, some a', cap, by rw [List.length_take, Nat.min_eq_left hzl], by rw [List.length_take]; omega, by rw [List.length_take]; omega, fun j hj => ?_⟩
    rw [List.length_take, Nat.min_eq_left hzl] at hj
    have h1 := hcell j (by omega)
    have h00 := hcell 0 (by omega)
    obtain ⟨b, off, spot⟩ := a'
    have hspot : spot = none := by
      have := World.cell?_spot h00
      simpa [Addr.add] using this
    subst hspot
    have e : (⟨b, off, none⟩ : Addr).add j = ⟨b, off + j, none⟩ := by unfold Addr.add; split <;> simp_all
    rw [e, List.getD_eq_getElem?_getD, List.getElem?_eq_getElem (by omega), Option.getD_some] at h1
    have hw := hwf zs[j] (List.getElem_mem _)
    have hw' : (decide ((0 : Int) ≤ zs[j]) && decide (zs[j] ≤ 255)) = true := hw
    simp only [Bool.and_eq_true, decide_eq_true_eq] at hw'
    exact ⟨b, off, rfl, by rw [h1, List.getElem_take], by rw [List.getElem_take]; exact hw'.1, by rw [List.getElem_take]; exact hw'.2⟩
section
variable {H : Type} {enc : TypeId × Value → H} {P : Program}
/-- the row's last step, where of the world behind the call 'Below' alone is known -/
theorem post_below {f : Func} {s : ChangeSpec} {apart fresh handsOn again : Bool} {W W' : World} {args : Array Value} {v : Value} {ds gs : List (DataW H)} {before pa pv : List MemPlace}
    (hW : DataW.Whole enc P f.params.toList s.vars apart W args.toList ds gs before)
    (hres : ∀ (b : Nat) (sp : Nat → Bool) (hd : Bool), DataW.TrodAll enc P W' b sp hd f.resultTypes.toList (v.resultList f.resultTypes.size) (s.fn H (ds ++ gs)).results [])
    (hargs : ∀ sp : Nat → Bool, (∀ p ∈ before, sp p.block = true) → DataW.TrodAll enc P W' 0 sp true f.params.toList args.toList (s.fn H (ds ++ gs)).args pa)
    (hvars : ∀ sp : Nat → Bool, (∀ p ∈ before, sp p.block = true) → DataW.TrodVars enc P W' sp s.vars (s.fn H (ds ++ gs)).vars pv)
    (hps : before = pa ++ pv) (hb : Below W.heap.size W W')
    (hok : ∀ (j : Nat) (t : TypeId) (r : Value), f.resultTypes[j]? = some t → (v.resultList f.resultTypes.size)[j]? = some r → Value.okWide P W' .any 0 t r) :
    s.post enc P f apart fresh handsOn again W args v W' := by
  have hlt : ∀ p ∈ before, p.block < W.heap.size := fun p hp => hW.lt p hp
  have hold : ∀ p ∈ before, (fun b => decide (b < W.heap.size)) p.block = true := fun p hp => by simpa using hlt p hp
  refine ⟨ds, gs, before, [], pa, pv, hW, hres _ _ _, hargs _ hold, hvars _ hold, World.keptBut_mono (fun p hp => ⟨hp, ?_⟩) (hb.frame (· ∈ before)), fun _ => ?_⟩
  · rw [hps, List.mem_append] at hp
    exact Or.inr hp
  · obtain ⟨_, _, _, _, _, hz, hn⟩ := hW
    refine ⟨hok, _, _, ([] ++ pa) ++ pv, ⟨[] ++ pa, pv, trodAll_append (hargs _ (fun _ _ => rfl)) (hres _ _ _), hvars _ (fun _ _ => rfl), rfl, ?_, ?_⟩, ?_⟩
    · intro b off hp
      have hin : MemPlace.cell b off ∈ before := by rw [hps]; simpa using hp
      rw [hb.frozen (hlt _ hin)]
      exact hz b off hin
    · intro ha
      have := hn ha
      rw [hps] at this
      simpa using this
    · intro p hp _
      rw [hps]
      simpa using hp
end
end
open Go.RowKit
def fuelL : List Int := [60, 100, 30, 5, 1, 0, 200, 201, -1]
theorem grown_belowN {B r : Nat} {w w' : World} (h : w.grownBy w' (some r)) (hB : B ≤ w.heap.size) (hr : B ≤ r) : Below B w w' := ⟨h.os, h.tape, h.output, h.size, fun k hk => h.block k (by omega) (fun e => by injection e; omega)⟩
set_option maxRecDepth 100000 in
theorem l3Fuel_any (B r p : Nat) (w : World) (hp : p ≤ 1000000000) (hB : B ≤ w.heap.size) (hr : Rdr B w r p) : Calls Tryz.prog 14 #[.pointer (some ⟨r, 0, none⟩)] w (Drawn B w r p fuelL) := by
  have hrl := hr.lt
  go_enter Tryz.func14, Tryz.ntmps14
  go_wp2_with (go_at_call 31; refine (num_any fuelL B r p w.heap.size _ (by decide) (by decide) (by omega) (by simp; omega) (hr.alloc (by omega) _) (Blk.new_ _ 3 _ rfl) (by omega)).mono ?_; rintro e w3 ⟨x, hx, rfl, hr3, hg3⟩)
  go_ret
  exact ⟨x, hx, rfl, hr3, grown_trans (only_alloc (World.grownBy.refl _ _) _) hg3⟩
/-- a term (whose numbers are small, if it is valid) and a number -/
def DrawnN (w : World) (e : Ending) (w' : World) : Prop := ∃ (k n : Int) (ks : List Tm) (A : Option Addr) (c : Nat) (f : Int), e = .returned (.tuple #[.agg #[.int .i64 k, .int .i64 n, .slice A ks.length c], .int .i64 f]) ∧ ks.length ≤ 9223372036854775807 ∧ sizes ks ≤ 1000 ∧ (validT (.mk k n ks) = true → hi3 (.mk k n ks) = true) ∧ Rd w' A 0 ks ∧ Below w.heap.size w w'
set_option maxHeartbeats 4000000 in
set_option maxRecDepth 100000 in
theorem drawNorm_any (bs : List Int) (A : Option Addr) (c : Nat) (w : World) (hl : bs.length ≤ 9223372036854775807) (hc : bs.length ≤ c) (hr : RdY w A bs) : Calls Tryz.prog 4 #[.slice A bs.length c] w (DrawnN w) := by
  go_enter Tryz.func4, Tryz.ntmps4
  go_wp2_with (first
    | (go_at_call 12; have _t := tok2; refine (mutate_any w1.heap.size r p2 k n ks A2 c2 _ (by omega) (by omega) hr2 (by omega) h32 hf2.rd).mono ?_; rintro e w3 ⟨k3, n3, ks3, A3, c3, p3, rfl, hl3, hs3, h33, hp3, hf3, hr3, hg3⟩; have s3 := hg3.size; replace hZ := hZ.grown hg3 (by simp; omega); have tok3 := trivial)
    | (go_at_call 13; have _t := tok1; refine (l3draw_any w1.heap.size r 0 _ (by omega) (Nat.le_refl _) hr1).mono ?_; rintro e w2 ⟨k, n, ks, A2, c2, p2, rfl, hl2, hs2, h32, hp2, hf2, hr2, hg2⟩; have s2 := hg2.size; replace hZ := hZ.grown hg2 (by simp; omega); have tok2 := trivial)
    | (go_at_call 11; refine (open_any bs A c _ hl hc (hr.keeps (.alloc _ _))).mono ?_; rintro e w1 ⟨r, rfl, hr0, hrlt, hr1, hb1⟩; have hZ : Blk w1 w.heap.size #[.int .i64 0, .int .i64 0, .slice none 0 0] := (Blk.new_ w 25 _ rfl).keep hb1; have s1 := hb1.size; have lz1 := hZ.lt; simp at s1 hr0; have tok1 := trivial))
  refine name_world ?_
  intro wx hwx
  have hX : Blk wx w3.heap.size #[.int .i64 k3, .int .i64 n3, .slice A3 ks3.length c3] := by rw [hwx]; exact Blk.new_ _ 25 _ rfl
  have hZx : Blk wx w.heap.size #[.int .i64 0, .int .i64 0, .slice none 0 0] := by rw [hwx]; exact hZ.alloc _
  have hRx : Rdr w1.heap.size wx r p3 := by rw [hwx]; exact hr3.alloc (by omega) _
  have hFx : RdP (fun b => w2.heap.size ≤ b ∧ b < w3.heap.size) wx A3 0 ks3 := by rw [hwx]; exact hf3.alloc _
  have gx : w3.grownBy wx (some r) := by rw [hwx]; exact only_alloc (World.grownBy.refl _ _) _
  have sx : w3.heap.size < wx.heap.size := hX.lt
  clear hwx
  have x0 := hX.ruleG (g := r) (by omega) (i := 0) rfl
  have x1 := hX.ruleG (g := r) (by omega) (i := 1) rfl
  have x2 := hX.ruleG (g := r) (by omega) (i := 2) rfl
  refine wp_region_firstY (fun w' => wx.grownBy w' (some r)) [0, 1] [2] [3, 4] [_, _] [_] [_, _] (by kernel_rfl) (by kernel_rfl) rfl rfl rfl (fun _ _ d _ _ h => by cases d <;> exact h) (only_drew (World.grownBy.refl _ _)) ?_
  repeat (first | ((refine takeY_skip (a' := ?_) ?_ ?_ ?_); (rotate_left); (· (simp [Region.wanted, yielded]; done)); (· (simp only [List.getElem_toArray, List.getElem_cons_zero, List.getElem_cons_succ, Act.put, List.setIfInBounds_toArray, List.set_cons_zero, List.set_cons_succ]; exact rfl))) | ((refine takeY_step (v := ?_) (a' := ?_) ?_ ?_ ?_ ?_); (rotate_left 2); (· (simp [Region.wanted, yielded]; done)); (· (intro w' hS'; go_simp; try (with_reducible rfl))); (· (simp only [List.getElem_toArray, List.getElem_cons_zero, List.getElem_cons_succ, Act.put, List.setIfInBounds_toArray, List.set_cons_zero, List.set_cons_succ]; exact rfl))))
  refine takeY_nil (then_cons ?_)
  go_wp2_with (go_at_call 14; refine (l3Fuel_any w1.heap.size r p3 _ (by omega) (by simp; omega) hRx.drew).mono ?_; rintro e wq ⟨f, hf, rfl, hRq, hgq⟩)
  have hxq : wx.grownBy wq (some r) := grown_trans (only_drew (World.grownBy.refl _ _)) hgq
  have hwq : wx.heap.size ≤ wq.heap.size := hxq.size
  refine mid_intro hxq (then_nil ?_)
  have hZq := hZx.grown hxq (by simp; omega)
  obtain ⟨d0, d1, d2⟩ := hZq.three
  have e0 := hZq.frozen 0
  have e1 := hZq.frozen 1
  have e2 := hZq.frozen 2
  have hFq : RdP (fun b => w2.heap.size ≤ b ∧ b < w3.heap.size) wq A3 0 ks3 := hFx.blocks fun b h1 h2 => hxq.block b h2 (by simp; omega)
  have g1 : Below w.heap.size w w1 := ((Below.refl _ _).alloc (Nat.le_refl _) _).trans (hb1.mono (by simp))
  have gq : Below w.heap.size w1 wq := grown_belowN (grown_trans (grown_trans (grown_trans hg2 hg3) gx) hxq) (by omega) (by omega)
  clear x0 x1 x2
  go_wp2_with fail
  refine bodyPost_ret (v := .tuple #[.agg #[.int .i64 k3, .int .i64 n3, .slice A3 ks3.length c3], .int .i64 f]) (by simp [results, Tryz.results4, go_sem, d0, d1, d2]) rfl ⟨k3, n3, ks3, A3, c3, f, rfl, hl3, by omega, h33, ?_, (((g1.trans gq).setCell (by simp) _).setCell (by simp) _).setCell (by simp) _⟩
  exact (((hFq.setCell (by simp; omega) _).setCell (by simp; omega) _).setCell (by simp; omega) _).rd
end Go.Proofs.YtodkpgkefjegnaaGreatDoor
