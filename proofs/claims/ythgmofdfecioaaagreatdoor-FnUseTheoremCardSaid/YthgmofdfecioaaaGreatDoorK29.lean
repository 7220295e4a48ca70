/-
  Contracts of the functions that the law reaches, and plain lemmas. No condition.
-/
import Derived.Test.YthgmofdfecioaaaGreatDoorK28
namespace Go.Proofs.YthgmofdfecioaaaGreatDoor
set_option linter.unusedSimpArgs false
set_option linter.unusedVariables false
open Go.RowKit
set_option maxRecDepth 100000 in
set_option maxHeartbeats 8000000 in
theorem iinferForm_any {N : Nat} (ih : InfO N) (ctx : List Tm) (C : Option Addr) (cc : Nat) (k n : Int) (ks : List Tm) (A : Option Addr) (c : Nat) (kind n3 : Int) (s3 : List Tm) (w : World) (hs : fmS (infS N ctx (.mk k n ks)) kind = some (.mk kind n3 s3)) (hv : validT (.mk k n ks) = true) (hvc : ∀ u, u ∈ ctx → validT u = true) (hm : ctx.length ≤ 20) (hrc : Rd w C 0 ctx) (hra : Rd w A 0 ks) :
    Calls Tryz.prog 68 #[.slice C ctx.length cc, .agg #[.int .i64 k, .int .i64 n, .slice A ks.length c], .int .i64 kind] w (GotI w kind n3 s3) := by
  obtain ⟨k1, n1, s1, h1, h2⟩ : ∃ k1 n1 s1, infS N ctx (.mk k n ks) = some (.mk k1 n1 s1) ∧ shpS (.mk k1 n1 s1) kind = some (.mk kind n3 s3) := by
    cases h : infS N ctx (.mk k n ks) with
    | none => rw [h] at hs; cases hs
    | some s => rw [h] at hs; obtain ⟨a, b, l⟩ := s; exact ⟨a, b, l, rfl, hs⟩
  have hv3 := hide (shpS_inv h2).2.2.2.2
  have h2' := hide h2
  have hI := hide (fun (w : World) (hrc : Rd w C 0 ctx) (hra : Rd w A 0 ks) => ih ctx k n ks k1 n1 s1 h1 hv hvc hm C cc A c w hrc hra)
  clear hs h1 h2 hv hvc ih
  go_enter Tryz.func68, Tryz.ntmps68
  go_wp2_with (first
    | (go_at_call 94; have _t := tok1; refine (ishaped_any k1 n1 s1 A1 c1 kind n3 s3 _ h2'.out (r1.alloc _)).mono ?_; rintro e w2 ⟨A3, c3, rfl, hl3, r3, hb2⟩; have hZ2 := (hZ.alloc (.cells #[.int .i64 k1, .int .i64 n1, .slice A1 s1.length c1] 27)).keep hb2; have g2 := (g1.alloc g1.size (.cells #[.int .i64 k1, .int .i64 n1, .slice A1 s1.length c1] 27)).trans (hb2.mono (by have := g1.size; simp; omega)); obtain ⟨d0, d1, d2⟩ := hZ2.three; have e0 := hZ2.frozen 0; have e1 := hZ2.frozen 1; have e2 := hZ2.frozen 2)
    | (go_at_call 71; refine (hI.out _ ((hrc.alloc _).alloc _) ((hra.alloc _).alloc _)).mono ?_; rintro e w1 ⟨A1, c1, rfl, hl1, r1, hb1⟩; have hZ : Blk w1 (w.heap.size + 1) #[.int .i64 0, .int .i64 0, .slice none 0 0] := (Blk.new_ _ 27 _ (by simp)).keep hb1; have g1 : Below w.heap.size w w1 := (((Below.refl _ _).alloc (Nat.le_refl _) _).alloc (by simp) _).trans (hb1.mono (by simp; omega)); have lz := hZ.lt; have tok1 := trivial))
  refine bodyPost_ret (v := .tuple #[.agg #[.int .i64 kind, .int .i64 n3, .slice A3 s3.length c3], .int .i64 0]) (by simp [results, Tryz.results68, go_sem, d0, d1, d2]) rfl ⟨A3, c3, rfl, hl3, ?_, ?_⟩
  · exact rd_set0 hZ2 hv3.out r3 _ _ _
  · exact ((g2.setCell (by simp) _).setCell (by simp) _).setCell (by simp) _
set_option maxRecDepth 100000 in
set_option maxHeartbeats 8000000 in
theorem ilevelF_any {N : Nat} (ih : InfO N) (ctx : List Tm) (C : Option Addr) (cc : Nat) (k n : Int) (ks : List Tm) (A : Option Addr) (c : Nat) (l : Int) (w : World) (hs : lvS (infS N ctx (.mk k n ks)) = some l) (hv : validT (.mk k n ks) = true) (hvc : ∀ u, u ∈ ctx → validT u = true) (hm : ctx.length ≤ 20) (hrc : Rd w C 0 ctx) (hra : Rd w A 0 ks) :
    Calls Tryz.prog 42 #[.slice C ctx.length cc, .agg #[.int .i64 k, .int .i64 n, .slice A ks.length c]] w fun e w' => e = .returned (.tuple #[.int .i64 l, .int .i64 0]) ∧ Below w.heap.size w w' := by
  obtain ⟨s3, h1⟩ := lvS_inv hs
  have hI := hide (fun (w : World) (hrc : Rd w C 0 ctx) (hra : Rd w A 0 ks) => iinferForm_any ih ctx C cc k n ks A c 2 l s3 w h1 hv hvc hm hrc hra)
  clear hs h1 hv hvc ih
  go_enter Tryz.func42, Tryz.ntmps42
  go_wp2_with (go_at_call 68; refine (hI.out _ (hrc.alloc _) (hra.alloc _)).mono ?_; rintro e w1 ⟨A3, c3, rfl, hl3, r3, hb1⟩; have g1 : Below w.heap.size w w1 := ((Below.refl _ _).alloc (Nat.le_refl _) _).trans (hb1.mono (by simp)))
  go_ret2
  exact ⟨rfl, g1.alloc g1.size _⟩
set_option maxRecDepth 100000 in
set_option maxHeartbeats 8000000 in
theorem icheckF_any {N : Nat} (ih : InfO N) (ctx : List Tm) (C : Option Addr) (cc : Nat) (k n : Int) (ks : List Tm) (A : Option Addr) (c : Nat) (k2 n2 : Int) (s2 : List Tm) (A2 : Option Addr) (c2 : Nat) (w : World) (hs : chkS (infS N ctx (.mk k n ks)) (.mk k2 n2 s2) = true) (hv : validT (.mk k n ks) = true) (hvc : ∀ u, u ∈ ctx → validT u = true) (hm : ctx.length ≤ 20) (hrc : Rd w C 0 ctx) (hra : Rd w A 0 ks) (hr2 : Rd w A2 0 s2) :
    Calls Tryz.prog 44 #[.slice C ctx.length cc, .agg #[.int .i64 k, .int .i64 n, .slice A ks.length c], .agg #[.int .i64 k2, .int .i64 n2, .slice A2 s2.length c2]] w fun e w' => e = .returned (.int .i64 0) ∧ Below w.heap.size w w' := by
  obtain ⟨k1, n1, s1, h1, h2⟩ := chkS_inv hs
  have h2' := hide h2
  have hI := hide (fun (w : World) (hrc : Rd w C 0 ctx) (hra : Rd w A 0 ks) => ih ctx k n ks k1 n1 s1 h1 hv hvc hm C cc A c w hrc hra)
  clear hs h1 h2 hv hvc ih
  go_enter Tryz.func44, Tryz.ntmps44
  go_wp2_with (first
    | (go_at_call 72; have _t := tok1; refine (iconverts_any k1 n1 s1 A1 c1 k2 n2 s2 A2 c2 _ h2'.out (r1.alloc _) ((hr2.below g1).alloc _)).mono ?_; rintro e w2 ⟨rfl, hb2⟩; have g2 := (g1.alloc g1.size (.cells #[.int .i64 k1, .int .i64 n1, .slice A1 s1.length c1] 27)).trans (hb2.mono (by have := g1.size; simp; omega)))
    | (go_at_call 71; refine (hI.out _ ((hrc.alloc _).alloc _) ((hra.alloc _).alloc _)).mono ?_; rintro e w1 ⟨A1, c1, rfl, hl1, r1, hb1⟩; have hZ : Blk w1 (w.heap.size + 1) #[.int .i64 k2, .int .i64 n2, .slice A2 s2.length c2] := (Blk.new_ _ 27 _ (by simp)).keep hb1; have g1 : Below w.heap.size w w1 := (((Below.refl _ _).alloc (Nat.le_refl _) _).alloc (by simp) _).trans (hb1.mono (by simp; omega)); have lz := hZ.lt; obtain ⟨d0, d1, d2⟩ := hZ.three; have tok1 := trivial))
  go_ret
  exact ⟨rfl, g2⟩
open Go.RowKit
set_option maxRecDepth 100000 in
set_option maxHeartbeats 16000000 in
theorem ijudged_11 (C : Option Addr) (m cc : Nat) (n : Int) (A : Option Addr) (c b2 b3 : Nat) (ka na : Int) (sa : List Tm) (kt nt : Int) (st : List Tm) (l : Int) (ty : Nat → Option Tm) (w : World) (h1 : ty 0 = some (.mk kt nt st)) (hv : validT (.mk 10 0 [.mk kt nt st, .mk ka na sa, .mk ka na sa]) = true) (hT : TyOk b2 b3 w ty) (hr : Rd w A 0 [.mk ka na sa])
    (hL : Hid (∀ (Ao : Option Addr) (co : Nat) (w' : World), Below w.heap.size w w' → Rd w' Ao 0 st → Calls Tryz.prog 42 #[.slice C m cc, .agg #[.int .i64 kt, .int .i64 nt, .slice Ao st.length co]] w' fun e w'' => e = .returned (.tuple #[.int .i64 l, .int .i64 0]) ∧ Below w'.heap.size w' w'')) :
    Calls Tryz.prog 97 #[.agg #[.slice C m cc, .int .i64 11, .int .i64 n, .slice A 1 c, .func (.func 95) #[] #[.pointer (some ⟨b2, 0, none⟩), .pointer (some ⟨b3, 0, none⟩)]]] w (GotI w 10 0 [.mk kt nt st, .mk ka na sa, .mk ka na sa]) := by
  have hv' := hide hv
  have h1' := hide h1
  clear hv h1
  obtain ⟨ba, oa, x1, x2, x3, Aa, ca, rfl, hk1, i1, i2, i3, hla, ra0⟩ := hr.at_ (j := 0) (by simp)
  injection hk1 with e1 e2 e3
  subst e1 e2 e3
  simp only [Nat.zero_mul, Nat.add_zero, Nat.one_mul, Nat.reduceMul] at i1 i2 i3
  go_enter Tryz.func97, Tryz.ntmps97
  go_upto_region 42 with (first
    | (go_at_call 42; have _t := tok1; refine (hL.out A1 c1 _ (g1.alloc g1.size _) (r1.alloc _)).mono ?_; rintro e w2 ⟨rfl, hb2⟩; have hJ2 := (hJ1.alloc (.cells #[.int .i64 kt, .int .i64 nt, .slice A1 st.length c1] 27)).keep hb2; have hZ2 := (hZ1.alloc (.cells #[.int .i64 kt, .int .i64 nt, .slice A1 st.length c1] 27)).keep hb2; have hT2 := (hT1.alloc (.cells #[.int .i64 kt, .int .i64 nt, .slice A1 st.length c1] 27)).keep hb2; have h92 : Blk w2 w1.heap.size #[.int .i64 kt, .int .i64 nt, .slice A1 st.length c1] := (Blk.new_ _ 27 _ rfl).keep hb2; have r12 := (r1.alloc (.cells #[.int .i64 kt, .int .i64 nt, .slice A1 st.length c1] 27)).below hb2; have g2 := (g1.alloc g1.size (.cells #[.int .i64 kt, .int .i64 nt, .slice A1 st.length c1] 27)).trans (hb2.mono (by have := g1.size; simp; omega)))
    | (go_at_call 95; refine (hT 0 kt nt st (by omega) h1'.out _ ((((Below.refl _ _).alloc (Nat.le_refl _) _).alloc (by simp) _).alloc (by simp; omega) _)).mono ?_; rintro e w1 ⟨A1, c1, rfl, hl1, r1, hb1⟩; have hJ1 := (((Blk.new_ w 104 #[.slice C m cc, .int .i64 11, .int .i64 n, .slice (some ⟨ba, oa, none⟩) 1 c, .func (.func 95) #[] #[.pointer (some ⟨b2, 0, none⟩), .pointer (some ⟨b3, 0, none⟩)]] rfl).alloc (.cells #[.int .i64 0, .int .i64 0, .slice none 0 0] 27)).alloc (.cells #[.int .i64 11, .int .i64 n, .slice (some ⟨ba, oa, none⟩) 1 c] 27)).keep hb1; have hZ1 : Blk w1 (w.heap.size + 1) #[.int .i64 0, .int .i64 0, .slice none 0 0] := ((Blk.new_ (n := w.heap.size + 1) (w.alloc (.cells #[.slice C m cc, .int .i64 11, .int .i64 n, .slice (some ⟨ba, oa, none⟩) 1 c, .func (.func 95) #[] #[.pointer (some ⟨b2, 0, none⟩), .pointer (some ⟨b3, 0, none⟩)]] 104)) 27 #[.int .i64 0, .int .i64 0, .slice none 0 0] (by simp)).alloc (.cells #[.int .i64 11, .int .i64 n, .slice (some ⟨ba, oa, none⟩) 1 c] 27)).keep hb1; have hT1 : Blk w1 (w.heap.size + 1 + 1) #[.int .i64 11, .int .i64 n, .slice (some ⟨ba, oa, none⟩) 1 c] := (Blk.new_ _ 27 _ (by simp)).keep hb1; have g1 : Below w.heap.size w w1 := ((((Below.refl _ _).alloc (Nat.le_refl _) _).alloc (by simp) _).alloc (by simp; omega) _).trans (hb1.mono (by simp; omega)); have lJ := hJ1.lt; have lZ := hZ1.lt; have lT := hT1.lt; have j0 := hJ1.at_ (i := 0) rfl; have j1 := hJ1.at_ (i := 1) rfl; have j2 := hJ1.at_ (i := 2) rfl; have j3 := hJ1.at_ (i := 3) rfl; have j4 := hJ1.at_ (i := 4) rfl; have tok1 := trivial))
  refine name_world ?_
  intro ws hws
  have hZs := (show Blk ws (w.heap.size + 1) _ by rw [hws]; exact hZ2)
  have hTs := (show Blk ws (w.heap.size + 1 + 1) _ by rw [hws]; exact hT2)
  have h9s := (show Blk ws w1.heap.size _ by rw [hws]; exact h92)
  have r1s := (show Rd ws A1 0 st by rw [hws]; exact r12)
  have gs : Below w.heap.size w ws := by rw [hws]; exact g2
  clear hws j0 j1 j2 j3 j4
  have ras := ra0.below gs
  have t2' := rule_of hTs.three.2.2
  have v0 := rule_of h9s.three.1
  have v1 := rule_of h9s.three.2.1
  have v2 := rule_of h9s.three.2.2
  have z0 := rule_of ((Keeps.of_below gs) _ _ i1)
  have z1 := rule_of ((Keeps.of_below gs) _ _ i2)
  have z2 := rule_of ((Keeps.of_below gs) _ _ i3)
  obtain ⟨q0, hq0⟩ : ∃ q0, q0 = ws.drew := ⟨_, rfl⟩
  have bq0 : Below ws.heap.size ws q0 := by rw [hq0]; exact (Below.refl _ _).drew
  refine gC_start (fun w' => Below ws.heap.size ws w') [12, 13, 14, 15] 16 (by kernel_rfl) rfl ?_
  refine gC_take [0, 1, 2, 3, 4, 5, 6, 7, 8] (f := 7) (l' := #[true, true, true, true, true, true, true, true, true, false, false, false, false, false, false, false]) (lT := [_, _, _, _, _, _, _, _, _]) (by rw [← hq0]; exact bq0) rfl (by kernel_rfl) (by kernel_rfl) (by kernel_rfl) rfl (fun _ _ d _ _ h => by cases d <;> exact h) ?_
  repeat (first | ((refine takeY_skip (a' := ?_) ?_ ?_ ?_); (rotate_left); (· (simp [Region.wanted, yielded, Go.undef]; done)); (· (simp only [List.getElem_toArray, List.getElem_cons_zero, List.getElem_cons_succ, Act.put, List.setIfInBounds_toArray, List.set_cons_zero, List.set_cons_succ]; exact rfl))) | ((refine takeY_step (v := ?_) (a' := ?_) ?_ ?_ ?_ ?_); (rotate_left 2); (· (simp [Region.wanted, yielded, Go.undef]; done)); (· (intro w' hS'; go_simp; try (with_reducible rfl))); (· (simp only [List.getElem_toArray, List.getElem_cons_zero, List.getElem_cons_succ, Act.put, List.setIfInBounds_toArray, List.set_cons_zero, List.set_cons_succ]; exact rfl))))
  refine takeY_nil ?_
  rw [← hq0]
  clear hq0
  refine gC_one (i := 9) (by kernel_rfl) rfl ?_
  · go_wp2_with fail
    refine name_midw ?_
    intro q1 hn
    have hbq1 : Below q0.heap.size q0 q1 := by rw [hn]; exact (Below.refl _ _).alloc (Nat.le_refl _) _
    have zq1 : Blk q1 q0.heap.size #[.int .i64 kt, .int .i64 nt, .slice A1 st.length c1, .int .i64 ka, .int .i64 na, .slice Aa sa.length ca, .int .i64 ka, .int .i64 na, .slice Aa sa.length ca] := by rw [hn]; exact Blk.new_ _ 27 _ rfl
    have seq1 : q0.heap.size < q1.heap.size := by rw [hn]; simp
    clear hn
    have rq1 : Rd q1 (some ⟨q0.heap.size, 0, none⟩) 0 [.mk kt nt st, .mk ka na sa, .mk ka na sa] := rd_row3 (s0 := st) (s1 := sa) (s2 := sa) zq1 hl1 hla hla ((r1s.below bq0).below hbq1) ((ras.below bq0).below hbq1) ((ras.below bq0).below hbq1)
    have bq1 : Below ws.heap.size ws q1 := bq0.trans (hbq1.mono bq0.size)
    have lq1 := hbq1.size
    refine mid_intro bq1 ?_
    refine gC_one (i := 10) (by kernel_rfl) rfl ?_
    · go_wp2_with (go_at_call 26; refine (inode_any 10 _ ⟨_, _, _, rfl⟩ _).mono ?_; rintro e q2 ⟨rfl, hbq2⟩)
      have Pq2 := rq1.below hbq2
      have bq2 : Below ws.heap.size ws q2 := bq1.trans (hbq2.mono bq1.size)
      have lq2 := hbq2.size
      refine mid_intro bq2 ?_
      refine gC_one (i := 11) (by kernel_rfl) rfl ?_
      · go_wp2_with (go_at_call 124; refine (imade_yes 10 0 [.mk kt nt st, .mk ka na sa, .mk ka na sa] _ 3 _ hv'.out Pq2).mono ?_; rintro e q3 ⟨rfl, hbq3⟩)
        have Pq3 := Pq2.below hbq3
        have bq3 : Below ws.heap.size ws q3 := bq2.trans (hbq3.mono bq2.size)
        have lq3 := hbq3.size
        refine mid_intro bq3 ?_
        refine gC_takeT [12, 13] (f := 2) (l' := #[true, true, true, true, true, true, true, true, true, true, true, true, true, true, false, false]) (lT := [_, _]) rfl (by kernel_rfl) (by kernel_rfl) (by kernel_rfl) rfl (fun _ _ d _ _ h => by cases d <;> exact h) ?_
        repeat (first | ((refine takeY_skip (a' := ?_) ?_ ?_ ?_); (rotate_left); (· (simp [Region.wanted, yielded, Go.undef]; done)); (· (simp only [List.getElem_toArray, List.getElem_cons_zero, List.getElem_cons_succ, Act.put, List.setIfInBounds_toArray, List.set_cons_zero, List.set_cons_succ]; exact rfl))) | ((refine takeY_step (v := ?_) (a' := ?_) ?_ ?_ ?_ ?_); (rotate_left 2); (· (simp [Region.wanted, yielded, Go.undef]; done)); (· (intro w' hS'; go_simp; try (with_reducible rfl))); (· (simp only [List.getElem_toArray, List.getElem_cons_zero, List.getElem_cons_succ, Act.put, List.setIfInBounds_toArray, List.set_cons_zero, List.set_cons_succ]; exact rfl))))
        refine takeY_nil ?_
        refine gC_end [14, 15] (lB := [_, _]) (by simp) (by kernel_rfl) (by kernel_rfl) rfl ?_
        have hZ2 := hZs.keep bq3
        obtain ⟨d0, d1, d2⟩ := hZ2.three
        have e0 := hZ2.frozen 0
        have e1 := hZ2.frozen 1
        have e2 := hZ2.frozen 2
        have gf := gs.trans (bq3.mono gs.size)
        have rP := Pq3
        go_wp2_with fail
        refine bodyPost_ret (v := .tuple #[.agg #[.int .i64 10, .int .i64 0, .slice (some ⟨q0.heap.size, 0, none⟩) 3 3], .int .i64 0]) (by simp [results, Tryz.results97, go_sem, d0, d1, d2]) rfl ⟨some ⟨q0.heap.size, 0, none⟩, 3, rfl, by simp, rd_set0 hZ2 hv'.out rP _ _ _, ?_⟩
        exact ((gf.setCell (by simp) _).setCell (by simp) _).setCell (by simp) _
open Go.RowKit
set_option maxRecDepth 100000 in
set_option maxHeartbeats 16000000 in
theorem ijudged_1 (ctx : List Tm) (C : Option Addr) (cc nn p : Nat) (A : Option Addr) (la c b2 b3 : Nat) (ku nu : Int) (su : List Tm) (kr nr : Int) (sr : List Tm) (w : World) (hm : ctx.length ≤ 20) (hp : p + 1 + nn = ctx.length) (hpl : p < ctx.length) (hg : ctx[p] = .mk ku nu su) (hvu : validT (.mk ku nu su) = true) (hs : shiftI ((nn : Int) + 1) 0 (.mk ku nu su) = some (.mk kr nr sr)) (hr : Rd w C 0 ctx) :
    Calls Tryz.prog 97 #[.agg #[.slice C ctx.length cc, .int .i64 1, .int .i64 nn, .slice A la c, .func (.func 95) #[] #[.pointer (some ⟨b2, 0, none⟩), .pointer (some ⟨b3, 0, none⟩)]]] w (GotI w kr nr sr) := by
  have hz := validT_size' hvu
  have hsh := validT_shape hvu
  have hvr' := hide (shiftI_valid hs)
  obtain ⟨bc, oc, x1, x2, x3, Au, cu, rfl, hk1, i1, i2, i3, hlu, ru⟩ := hr.at_ hpl
  rw [hg] at hk1
  injection hk1 with e1 e2 e3
  subst e1 e2 e3
  have hS := hide (fun (w : World) (hr : Rd w Au 0 su) => by have := shift_any ku nu su Au cu ((nn : Int) + 1) 0 w (by omega) (by omega) (by omega) hsh hr; rw [hs] at this; exact this)
  clear hs hvu hsh hg
  go_enter Tryz.func97, Tryz.ntmps97
  go_upto_region 6 with fail
  refine name_world ?_
  intro ws hws
  have hJs : Blk ws w.heap.size #[.slice (some ⟨bc, oc, none⟩) ctx.length cc, .int .i64 1, .int .i64 nn, .slice A la c, .func (.func 95) #[] #[.pointer (some ⟨b2, 0, none⟩), .pointer (some ⟨b3, 0, none⟩)]] := by rw [hws]; exact ((Blk.new_ _ 104 _ rfl).alloc _).alloc _
  have hZs : Blk ws (w.heap.size + 1) #[.int .i64 0, .int .i64 0, .slice none 0 0] := by rw [hws]; exact (Blk.new_ _ 27 _ (by simp)).alloc _
  have hTs : Blk ws (w.heap.size + 1 + 1) #[.int .i64 1, .int .i64 nn, .slice A la c] := by rw [hws]; exact Blk.new_ _ 27 _ (by simp)
  have gs : Below w.heap.size w ws := by rw [hws]; exact (((Below.refl _ _).alloc (Nat.le_refl _) _).alloc (by simp) _).alloc (by simp; omega) _
  clear hws
  have rus := ru.below gs
  have wq1 : IntKind.i64.wrap ((ctx.length : Int) - 1) = (ctx.length : Int) - 1 := IntWalk.i64_in _ (by omega)
  have wq2 : IntKind.i64.wrap ((ctx.length : Int) - 1 - (nn : Int)) = (p : Int) := by rw [show (ctx.length : Int) - 1 - (nn : Int) = (p : Int) from by omega]; exact IntWalk.i64_in _ (by omega)
  have wq3 : IntKind.i64.wrap ((nn : Int) + 1) = (nn : Int) + 1 := IntWalk.i64_in _ (by omega)
  have wq4 : (0 : Int) ≤ (p : Int) := by omega
  have wq5 : (p : Int) < (ctx.length : Int) := by omega
  have u0 := rule_of (hJs.at_ (i := 0) rfl)
  have t1' := rule_of hTs.three.2.1
  have z0 := rule_of ((Keeps.of_below gs) _ _ i1)
  have z1 := rule_of ((Keeps.of_below gs) _ _ i2)
  have z2 := rule_of ((Keeps.of_below gs) _ _ i3)
  obtain ⟨q0, hq0⟩ : ∃ q0, q0 = ws.drew := ⟨_, rfl⟩
  have bq0 : Below ws.heap.size ws q0 := by rw [hq0]; exact (Below.refl _ _).drew
  refine gC_start (fun w' => Below ws.heap.size ws w') [15, 16, 18, 19, 20, 21] 22 (by kernel_rfl) rfl ?_
  refine gC_take [0, 1, 2, 3, 4, 5, 6, 7, 8, 9, 10, 11, 12, 13] (f := 8) (l' := #[true, true, true, true, true, true, true, true, true, true, true, true, true, true, false, false, false, false, false, false, false, false]) (lT := [_, _, _, _, _, _, _, _, _, _, _, _, _, _]) (by rw [← hq0]; exact bq0) rfl (by kernel_rfl) (by kernel_rfl) (by kernel_rfl) rfl (fun _ _ d _ _ h => by cases d <;> exact h) ?_
  repeat (first | ((refine takeY_skip (a' := ?_) ?_ ?_ ?_); (rotate_left); (· (simp [Region.wanted, yielded, Go.undef]; done)); (· (simp only [List.getElem_toArray, List.getElem_cons_zero, List.getElem_cons_succ, Act.put, List.setIfInBounds_toArray, List.set_cons_zero, List.set_cons_succ]; exact rfl))) | ((refine takeY_step (v := ?_) (a' := ?_) ?_ ?_ ?_ ?_); (rotate_left 2); (· (simp [Region.wanted, yielded, Go.undef]; done)); (· (intro w' hS'; go_simp; try (with_reducible rfl))); (· (simp only [List.getElem_toArray, List.getElem_cons_zero, List.getElem_cons_succ, Act.put, List.setIfInBounds_toArray, List.set_cons_zero, List.set_cons_succ]; exact rfl))))
  refine takeY_nil ?_
  rw [← hq0]
  clear hq0
  refine gC_one (i := 14) (by kernel_rfl) rfl ?_
  · go_wp2_with (go_at_call 52; refine (hS.out _ (rus.below bq0)).mono ?_; intro e q1 hgo; obtain ⟨A7, c7, rfl, hl7, hfq1, hbq1⟩ := gotO_some hgo; clear hgo)
    have rdq1 := hfq1.rd
    have bq1 : Below ws.heap.size ws q1 := bq0.trans (hbq1.mono bq0.size)
    have lq1 := hbq1.size
    refine mid_intro bq1 ?_
    refine gC_takeT [15, 16] (f := 5) (l' := #[true, true, true, true, true, true, true, true, true, true, true, true, true, true, true, true, true, false, false, false, false, false]) (lT := [_, _]) rfl (by kernel_rfl) (by kernel_rfl) (by kernel_rfl) rfl (fun _ _ d _ _ h => by cases d <;> exact h) ?_
    repeat (first | ((refine takeY_skip (a' := ?_) ?_ ?_ ?_); (rotate_left); (· (simp [Region.wanted, yielded, Go.undef]; done)); (· (simp only [List.getElem_toArray, List.getElem_cons_zero, List.getElem_cons_succ, Act.put, List.setIfInBounds_toArray, List.set_cons_zero, List.set_cons_succ]; exact rfl))) | ((refine takeY_step (v := ?_) (a' := ?_) ?_ ?_ ?_ ?_); (rotate_left 2); (· (simp [Region.wanted, yielded, Go.undef]; done)); (· (intro w' hS'; go_simp; try (with_reducible rfl))); (· (simp only [List.getElem_toArray, List.getElem_cons_zero, List.getElem_cons_succ, Act.put, List.setIfInBounds_toArray, List.set_cons_zero, List.set_cons_succ]; exact rfl))))
    refine takeY_nil ?_
    refine gC_one (i := 17) (by kernel_rfl) rfl ?_
    · go_wp2_with (go_at_call 124; refine (imade_yes kr nr sr A7 c7 _ hvr'.out rdq1).mono ?_; rintro e q2 ⟨rfl, hbq2⟩)
      have Oq2 := rdq1.below hbq2
      have bq2 : Below ws.heap.size ws q2 := bq1.trans (hbq2.mono bq1.size)
      have lq2 := hbq2.size
      refine mid_intro bq2 ?_
      refine gC_takeT [18, 19] (f := 2) (l' := #[true, true, true, true, true, true, true, true, true, true, true, true, true, true, true, true, true, true, true, true, false, false]) (lT := [_, _]) rfl (by kernel_rfl) (by kernel_rfl) (by kernel_rfl) rfl (fun _ _ d _ _ h => by cases d <;> exact h) ?_
      repeat (first | ((refine takeY_skip (a' := ?_) ?_ ?_ ?_); (rotate_left); (· (simp [Region.wanted, yielded, Go.undef]; done)); (· (simp only [List.getElem_toArray, List.getElem_cons_zero, List.getElem_cons_succ, Act.put, List.setIfInBounds_toArray, List.set_cons_zero, List.set_cons_succ]; exact rfl))) | ((refine takeY_step (v := ?_) (a' := ?_) ?_ ?_ ?_ ?_); (rotate_left 2); (· (simp [Region.wanted, yielded, Go.undef]; done)); (· (intro w' hS'; go_simp; try (with_reducible rfl))); (· (simp only [List.getElem_toArray, List.getElem_cons_zero, List.getElem_cons_succ, Act.put, List.setIfInBounds_toArray, List.set_cons_zero, List.set_cons_succ]; exact rfl))))
      refine takeY_nil ?_
      refine gC_end [20, 21] (lB := [_, _]) (by simp) (by kernel_rfl) (by kernel_rfl) rfl ?_
      have hZ2 := hZs.keep bq2
      obtain ⟨d0, d1, d2⟩ := hZ2.three
      have e0 := hZ2.frozen 0
      have e1 := hZ2.frozen 1
      have e2 := hZ2.frozen 2
      have gf := gs.trans (bq2.mono gs.size)
      have rP := Oq2
      go_wp2_with fail
      refine bodyPost_ret (v := .tuple #[.agg #[.int .i64 kr, .int .i64 nr, .slice A7 sr.length c7], .int .i64 0]) (by simp [results, Tryz.results97, go_sem, d0, d1, d2]) rfl ⟨A7, c7, rfl, hl7, rd_set0 hZ2 hvr'.out rP _ _ _, ?_⟩
      exact ((gf.setCell (by simp) _).setCell (by simp) _).setCell (by simp) _
open Go.RowKit
theorem vO_inv {t u : Tm} (h : vO t = some u) : u = t ∧ validT t = true := by
  unfold vO at h
  split at h
  · injection h with h; subst h; exact ⟨rfl, by assumption⟩
  · cases h
theorem hasS_vO {o : Option Tm} {t : Tm} (h : hasS o (vO t) = true) : chkS o t = true ∧ validT t = true := by
  unfold hasS at h
  split at h
  · rename_i x hx
    obtain ⟨rfl, hv⟩ := vO_inv hx
    exact ⟨h, hv⟩
  · cases h
theorem hasS_step {o : Option Tm} {p : Tm} (h : hasS o (stepS p) = true) : ∃ k1 n1 s1 k2 n2 s2, shiftI 1 0 p = some (.mk k1 n1 s1) ∧ shiftI 2 0 p = some (.mk k2 n2 s2) ∧ validT (.mk 3 0 [.mk 6 0 [], .mk 3 0 [.mk 5 0 [.mk k1 n1 s1, .mk 1 0 []], .mk 5 0 [.mk k2 n2 s2, .mk 8 0 [.mk 1 1 []]]]]) = true ∧ chkS o (.mk 3 0 [.mk 6 0 [], .mk 3 0 [.mk 5 0 [.mk k1 n1 s1, .mk 1 0 []], .mk 5 0 [.mk k2 n2 s2, .mk 8 0 [.mk 1 1 []]]]]) = true := by
  unfold stepS at h
  split at h
  · cases h
  · rename_i one h1
    split at h
    · cases h
    · rename_i two h2
      obtain ⟨k1, n1, s1⟩ := one
      obtain ⟨k2, n2, s2⟩ := two
      obtain ⟨hc, hv⟩ := hasS_vO h
      exact ⟨k1, n1, s1, k2, n2, s2, h1, h2, hv, hc⟩
set_option maxRecDepth 100000 in
set_option maxHeartbeats 8000000 in
theorem ijudged_any {N : Nat} (ih : InfO N) (ctx : List Tm) (C : Option Addr) (cc : Nat) (k n : Int) (ks : List Tm) (A : Option Addr) (c b2 b3 : Nat) (kr nr : Int) (sr : List Tm) (ty : Nat → Option Tm) (w : World) (h : judS (infS N ctx) ctx (.mk k n ks) ty = some (.mk kr nr sr)) (hv : validT (.mk k n ks) = true) (hvc : ∀ u, u ∈ ctx → validT u = true) (hm : ctx.length ≤ 20) (hT : TyOk b2 b3 w ty) (hty : ∀ i s, ty i = some s → validT s = true) (hrc : Rd w C 0 ctx) (hr : Rd w A 0 ks) :
    Calls Tryz.prog 97 #[.agg #[.slice C ctx.length cc, .int .i64 k, .int .i64 n, .slice A ks.length c, .func (.func 95) #[] #[.pointer (some ⟨b2, 0, none⟩), .pointer (some ⟨b3, 0, none⟩)]]] w (GotI w kr nr sr) := by
  have hvr := judS_valid h hv
  have har := validT_arity hv
  unfold judS at h
  by_cases e1 : k = 1
  · rw [if_pos (show (Tm.mk k n ks).k = 1 from e1)] at h
    subst e1
    split at h
    · rename_i hn
      obtain ⟨nn, hnn⟩ : ∃ nn : Nat, (nn : Int) = n := ⟨n.toNat, by have : 0 ≤ n := hn.1; omega⟩
      subst hnn
      have hlt : (nn : Int) < (ctx.length : Int) := hn.2
      have hpl : ctx.length - 1 - nn < ctx.length := by omega
      have hg : ctx.getD (ctx.length - 1 - (Tm.mk 1 (nn : Int) ks).n.toNat) default = ctx[ctx.length - 1 - nn] := by
        show ctx.getD (ctx.length - 1 - ((nn : Int)).toNat) default = _
        rw [Int.toNat_natCast]
        simp [List.getD, List.getElem?_eq_getElem hpl]
      rw [hg] at h
      have hvu := hvc _ (List.getElem_mem hpl)
      obtain ⟨ku, nu, su, hcu⟩ : ∃ ku nu su, ctx[ctx.length - 1 - nn] = .mk ku nu su := by
        cases hh : ctx[ctx.length - 1 - nn] with | mk a b l => exact ⟨a, b, l, rfl⟩
      rw [hcu] at h hvu
      exact ijudged_1 ctx C cc nn _ A _ c b2 b3 ku nu su kr nr sr w hm (by omega) hpl hcu hvu h hrc
    · cases h
  rw [if_neg (show ¬ (Tm.mk k n ks).k = 1 from e1)] at h
  by_cases e2 : k = 2
  · rw [if_pos (show (Tm.mk k n ks).k = 2 from e2)] at h
    subst e2
    have h3 : mostN 2 = 3 := rfl
    split at h
    · cases h
    · rename_i hn
      have hn3 : n ≠ 3 := hn
      injection h with h
      injection (show Tm.mk 2 (n + 1) [] = .mk kr nr sr from h) with q1 q2 q3
      subst q1 q2 q3
      exact ijudged_2 C _ cc n A _ c b2 b3 w hn3 (by omega)
  rw [if_neg (show ¬ (Tm.mk k n ks).k = 2 from e2)] at h
  by_cases e6 : k = 6
  · rw [if_pos (show (Tm.mk k n ks).k = 6 from e6)] at h
    subst e6
    injection h with h
    injection h with q1 q2 q3
    subst q1 q2 q3
    exact ijudged_6 C _ cc n A _ c b2 b3 w
  rw [if_neg (show ¬ (Tm.mk k n ks).k = 6 from e6)] at h
  by_cases e7 : k = 7
  · rw [if_pos (show (Tm.mk k n ks).k = 7 from e7)] at h
    subst e7
    injection h with h
    injection (show Tm.mk 6 0 [] = .mk kr nr sr from h) with q1 q2 q3
    subst q1 q2 q3
    exact ijudged_7 C _ cc n A _ c b2 b3 w
  rw [if_neg (show ¬ (Tm.mk k n ks).k = 7 from e7)] at h
  by_cases e8 : k = 8
  · rw [if_pos (show (Tm.mk k n ks).k = 8 from e8)] at h
    subst e8
    split at h
    · rename_i hc
      injection h with h
      injection (show Tm.mk 6 0 [] = .mk kr nr sr from h) with q1 q2 q3
      subst q1 q2 q3
      exact ijudged_8 C _ cc n A _ c b2 b3 ty w hc hT
    · cases h
  rw [if_neg (show ¬ (Tm.mk k n ks).k = 8 from e8)] at h
  by_cases e3 : k = 3
  · rw [if_pos (show (Tm.mk k n ks).k = 3 from e3)] at h
    subst e3
    split at h
    · cases h
    · rename_i i hi
      split at h
      · cases h
      · rename_i j hj
        injection h with h
        injection h with q1 q2 q3
        subst q1 q2 q3
        exact ijudged_3 C _ cc n A _ c b2 b3 _ _ _ w hvr (hide fun w' hw => iarrow_any C _ cc 3 n A c b2 b3 _ i j ty w' hi hj (hT.below hw))
  rw [if_neg (show ¬ (Tm.mk k n ks).k = 3 from e3)] at h
  by_cases e4 : k = 4
  · rw [if_pos (show (Tm.mk k n ks).k = 4 from e4)] at h
    subst e4
    obtain ⟨a, b, rfl⟩ := len2 (l := ks) (by have h3 : arity 4 = 2 := rfl; omega)
    obtain ⟨ka, na, sa⟩ := a
    split at h
    · cases h
    · rename_i l hl
      split at h
      · cases h
      · rename_i tb htb
        obtain ⟨kb, nb, sb⟩ := tb
        split at h
        · cases h
        · rename_i o ho
          obtain ⟨rfl, hvo⟩ := vO_inv ho
          split at h
          · rename_i hsome
            obtain ⟨⟨kq, nq, sq⟩, hq⟩ := Option.isSome_iff_exists.1 hsome
            injection h with h
            injection (show Tm.mk 3 0 [.mk ka na sa, .mk kb nb sb] = .mk kr nr sr from h) with q1 q2 q3
            subst q1 q2 q3
            exact ijudged_4 C _ cc n A _ c b2 b3 _ _ _ w hvr (hide fun w' hw => ifunction_any C _ cc 4 n A c b2 b3 l ka na sa b kb nb sb kq nq sq ty w' hl htb hvr (hT.below hw) (hr.below hw) (hide fun Ao co w2 hw2 hro => ih ctx 3 0 [.mk ka na sa, .mk kb nb sb] kq nq sq hq hvr hvc hm C cc Ao co w2 ((hrc.below hw).below hw2) hro))
          · cases h
  rw [if_neg (show ¬ (Tm.mk k n ks).k = 4 from e4)] at h
  by_cases e5 : k = 5
  · rw [if_pos (show (Tm.mk k n ks).k = 5 from e5)] at h
    subst e5
    obtain ⟨a, b, rfl⟩ := len2 (l := ks) (by have h3 : arity 5 = 2 := rfl; omega)
    obtain ⟨kx, nx, sx⟩ := b
    have hvx := validT_kid hv (t := .mk kx nx sx) (by simp)
    split at h
    · cases h
    · rename_i s hs
      obtain ⟨n3, s3, rfl, hv3⟩ := fmS_inv hs
      obtain ⟨d, e, rfl⟩ := len2 (l := s3) (by have := (validT_arity hv3).1; have h3 : arity 3 = 2 := rfl; omega)
      obtain ⟨kd, nd, sd⟩ := d
      obtain ⟨ke, ne, se⟩ := e
      split at h
      · rename_i hc
        exact ijudged_5 C _ cc n A c b2 b3 a kx nx sx n3 kd nd sd ke ne se kr nr sr ty w hs hc hvx h hT hr
      · cases h
  rw [if_neg (show ¬ (Tm.mk k n ks).k = 5 from e5)] at h
  by_cases e9 : k = 9
  · rw [if_pos (show (Tm.mk k n ks).k = 9 from e9)] at h
    subst e9
    obtain ⟨p, t1, t2, a, rfl⟩ := len4 (l := ks) (by have h3 : arity 9 = 4 := rfl; omega)
    obtain ⟨kp, np, sp⟩ := p
    obtain ⟨ka, na, sa⟩ := a
    have hvp := validT_kid hv (t := .mk kp np sp) (by simp)
    split at h
    · rename_i hc
      obtain ⟨c1, c2, c3, c4⟩ := hc
      obtain ⟨d1, d2⟩ := hasS_vO c2
      obtain ⟨k1, n1, s1, k2, n2, s2, f1, f2, f3, f4⟩ := hasS_step c3
      obtain ⟨g1, g2⟩ := vO_inv h
      injection (show Tm.mk kr nr sr = .mk 5 0 [.mk kp np sp, .mk ka na sa] from g1) with q1 q2 q3
      subst q1 q2 q3
      exact ijudged_9 C _ cc n A _ c b2 b3 _ _ _ w hvr (hide fun w' hw => irecursion_any C _ cc 9 n A c b2 b3 kp np sp t1 t2 ka na sa k1 n1 s1 k2 n2 s2 ty w' c1 hvp d2 d1 f1 f2 f3 f4 c4 hvr (hT.below hw) (hr.below hw))
    · cases h
  rw [if_neg (show ¬ (Tm.mk k n ks).k = 9 from e9)] at h
  by_cases e10 : k = 10
  · rw [if_pos (show (Tm.mk k n ks).k = 10 from e10)] at h
    subst e10
    obtain ⟨a, a1, a2, rfl⟩ := len3 (l := ks) (by have h3 : arity 10 = 3 := rfl; omega)
    obtain ⟨ka, na, sa⟩ := a
    split at h
    · cases h
    · rename_i l hl
      split at h
      · rename_i hc
        injection h with h
        injection h with q1 q2 q3
        subst q1 q2 q3
        exact ijudged_10 C _ cc n A _ c b2 b3 _ _ _ w hvr (hide fun w' hw => iequality_any C _ cc 10 n A c b2 b3 l ka na sa a1 a2 ty w' hl hc.1 hc.2 (hT.below hw) (hr.below hw))
      · cases h
  rw [if_neg (show ¬ (Tm.mk k n ks).k = 10 from e10)] at h
  by_cases e11 : k = 11
  · rw [if_pos (show (Tm.mk k n ks).k = 11 from e11)] at h
    subst e11
    obtain ⟨a, rfl⟩ := len1 (l := ks) (by have h3 : arity 11 = 1 := rfl; omega)
    obtain ⟨ka, na, sa⟩ := a
    split at h
    · cases h
    · rename_i s hs
      obtain ⟨kt, nt, st⟩ := s
      split at h
      · rename_i hc
        obtain ⟨l, hl⟩ := Option.isSome_iff_exists.1 hc
        obtain ⟨g1, g2⟩ := vO_inv h
        injection (show Tm.mk kr nr sr = .mk 10 0 [.mk kt nt st, .mk ka na sa, .mk ka na sa] from g1) with q1 q2 q3
        subst q1 q2 q3
        exact ijudged_11 C _ cc n A c b2 b3 ka na sa kt nt st l ty w hs hvr hT hr (hide fun Ao co w' hw hro => ilevelF_any ih ctx C cc kt nt st Ao co l w' hl (hty _ _ hs) hvc hm (hrc.below hw) hro)
      · cases h
  rw [if_neg (show ¬ (Tm.mk k n ks).k = 11 from e11)] at h
  by_cases e12 : k = 12
  · rw [if_pos (show (Tm.mk k n ks).k = 12 from e12)] at h
    subst e12
    obtain ⟨p, t1, t2, rfl⟩ := len3 (l := ks) (by have h3 : arity 12 = 3 := rfl; omega)
    obtain ⟨kp, np, sp⟩ := p
    split at h
    · cases h
    · rename_i e he
      obtain ⟨ni, s3, rfl, hv3⟩ := fmS_inv he
      obtain ⟨a, b, d, rfl⟩ := len3 (l := s3) (by have := (validT_arity hv3).1; have h3 : arity 10 = 3 := rfl; omega)
      obtain ⟨ka, na, sa⟩ := a
      obtain ⟨kb, nb, sb⟩ := b
      obtain ⟨kd, nd, sd⟩ := d
      split at h
      · rename_i hc
        obtain ⟨d1, d2⟩ := hasS_vO hc.2
        obtain ⟨g1, g2⟩ := vO_inv h
        injection (show Tm.mk kr nr sr = .mk 5 0 [.mk kp np sp, .mk kd nd sd] from g1) with q1 q2 q3
        subst q1 q2 q3
        exact ijudged_12 C _ cc n A _ c b2 b3 _ _ _ w hvr (hide fun w' hw => imoved_any C _ cc 12 n A c b2 b3 kp np sp t1 t2 ni ka na sa kb nb sb kd nd sd ty w' he hc.1 d2 d1 hvr (hT.below hw) (hr.below hw))
      · cases h
  rw [if_neg (show ¬ (Tm.mk k n ks).k = 12 from e12)] at h
  cases h
open Go.RowKit
theorem tyS_valid {N : Nat} {ctx : List Tm} {k n : Int} {ks : List Tm} (hv : validT (.mk k n ks) = true) (i : Nat) (s : Tm) (h : tyS (infS N) ctx (.mk k n ks) i = some s) : validT s = true := by
  have hi := tyS_lt h
  have hk : validT (kidT ks i) = true := by
    rw [kidT_get hi]
    have hm := List.getElem_mem hi
    obtain ⟨a, b, l, he⟩ : ∃ a b l, ks[i] = .mk a b l := by
      cases hh : ks[i] with | mk a b l => exact ⟨a, b, l, rfl⟩
    rw [he] at hm ⊢
    exact validT_kid hv hm
  unfold tyS at h
  split at h
  · exact infS_valid h hk
  · split at h
    · cases h
    · exact infS_valid h hk
set_option maxRecDepth 100000 in
set_option maxHeartbeats 8000000 in
theorem iinfer_step {N : Nat} (ih : InfO N) : InfO (N + 1) := by
  intro ctx k n ks kr nr sr h hv hvc hm C cc A c w hrc hra
  have hvr := hide (infS_valid h hv)
  have hj := hide (show judS (infS N ctx) ctx (.mk k n ks) (tyS (infS N) ctx (.mk k n ks)) = some (.mk kr nr sr) from h)
  have hvh := hide hv
  have hvch := hide hvc
  have hmh := hide hm
  have B3 : ∀ o1 o2 o3, Below w.heap.size w (((w.alloc o1).alloc o2).alloc o3) := fun o1 o2 o3 => (((Below.refl _ _).alloc (Nat.le_refl _) _).alloc (by simp) _).alloc (by simp; omega) _
  have hJ := hide (fun (wx : World) (hb : Below w.heap.size w wx) (hB2 : Blk wx w.heap.size #[.slice C ctx.length cc]) (hB3 : Blk wx (w.heap.size + 1) #[.int .i64 k, .int .i64 n, .slice A ks.length c]) => ijudged_any ih ctx C cc k n ks A c w.heap.size (w.heap.size + 1) kr nr sr _ wx hj.out hv hvc hm (iinfer1_any ih ctx C cc k n ks A c w.heap.size (w.heap.size + 1) wx hv hvc hm hB2 hB3 (hrc.below hb) (hra.below hb)) (tyS_valid hv) (hrc.below hb) (hra.below hb))
  clear h hv hvc hm
  go_enter Tryz.func71, Tryz.ntmps71
  go_wp2_with (go_at_call 97; refine (hJ.out _ (B3 _ _ _) (((Blk.new_ w 25 #[.slice C ctx.length cc] rfl).alloc _).alloc _) ((Blk.new_ (n := w.heap.size + 1) (w.alloc (.cells #[.slice C ctx.length cc] 25)) 27 #[.int .i64 k, .int .i64 n, .slice A ks.length c] (by simp)).alloc _)).mono ?_; rintro e w1 ⟨A1, c1, rfl, hl1, r1, hb1⟩; have hZ1 : Blk w1 (w.heap.size + 1 + 1) #[.int .i64 0, .int .i64 0, .slice none 0 0] := (Blk.new_ _ 27 _ (by simp)).keep hb1; have g1 : Below w.heap.size w w1 := (B3 _ _ _).trans (hb1.mono (by simp; omega)); obtain ⟨d0, d1, d2⟩ := hZ1.three; have e0 := hZ1.frozen 0; have e1 := hZ1.frozen 1; have e2 := hZ1.frozen 2)
  refine bodyPost_ret (v := .tuple #[.agg #[.int .i64 kr, .int .i64 nr, .slice A1 sr.length c1], .int .i64 0]) (by simp [results, Tryz.results71, go_sem, d0, d1, d2]) rfl ⟨A1, c1, rfl, hl1, rd_set0 hZ1 hvr.out r1 _ _ _, ?_⟩
  exact ((g1.setCell (by simp; omega) _).setCell (by simp; omega) _).setCell (by simp; omega) _
/-- the inference of the program, at every fuel -/
theorem iinfer_any : ∀ N, InfO N
  | 0 => fun _ _ _ _ _ _ _ h => by cases h
  | N + 1 => iinfer_step (iinfer_any N)
open Go.RowKit
set_option maxRecDepth 100000 in
set_option maxHeartbeats 8000000 in
theorem ictx0_any (C : Option Addr) (c : Nat) (w : World) : Calls Tryz.prog 65 #[.slice C 0 c] w fun e w' => e = .returned (.int .i64 0) ∧ Below w.heap.size w w' := by
  go_enter Tryz.func65, Tryz.ntmps65
  go_wp2_with fail
  go_loopw [14] (fun i wr => i = .int .i64 0 ∧ Below w.heap.size w wr)
    (fun i _ => (intOf i).toNat)
  case atStart => exact ⟨rfl, Below.refl _ _⟩
  case round =>
    obtain ⟨rfl, hb⟩ := hrel
    go_wp2_with fail
    go_loopw [24] (fun i wr => i = .int .i64 0 ∧ Below w.heap.size w wr)
      (fun i _ => (intOf i).toNat)
    case atStart => exact ⟨rfl, hb⟩
    case round =>
      obtain ⟨rfl, hb2⟩ := hrel
      go_wp2_with fail
      go_ret
      exact ⟨rfl, hb2⟩
set_option maxRecDepth 100000 in
set_option maxHeartbeats 8000000 in
theorem ivalidC_any (k n : Int) (ks : List Tm) (A : Option Addr) (c : Nat) (w : World) (hv : validT (.mk k n ks) = true) (hr : Rd w A 0 ks) :
    Calls Tryz.prog 67 #[.agg #[.int .i64 k, .int .i64 n, .slice A ks.length c]] w fun e w' => e = .returned (.bool false) ∧ Below w.heap.size w w' := by
  have hz := validT_size' hv
  have hv' := hide hv
  clear hv
  go_enter Tryz.func67, Tryz.ntmps67
  go_wp2_with (go_at_call 35; refine (iTermValid_any k n ks A c _ (by omega) (hr.alloc _)).mono ?_; rw [hv'.out]; rintro e w1 ⟨rfl, hb1⟩; have g1 : Below w.heap.size w w1 := ((Below.refl _ _).alloc (Nat.le_refl _) _).trans (hb1.mono (by simp)))
  go_ret
  exact ⟨rfl, g1⟩
set_option maxRecDepth 100000 in
set_option maxHeartbeats 8000000 in
theorem iindexF_any (ts : List Tm) (A : Option Addr) (c : Nat) (w : World) (hl : ts.length ≤ 20) (hts : ∀ u, u ∈ ts → validT u = true) (hr : Rd w A 0 ts) :
    Calls Tryz.prog 93 #[.slice A ts.length c, .func (.func 67) #[] #[]] w fun e w' => e = .returned (.int .i64 (-1)) ∧ Below w.heap.size w w' := by
  go_enter Tryz.func93, Tryz.ntmps93
  go_wp2_with fail
  go_loopw [8] (fun i wr => ∃ j : Nat, j ≤ ts.length ∧ i = .int .i64 j ∧ Below w.heap.size w wr)
    (fun i _ => ts.length - (intOf i).toNat)
  case atStart => exact ⟨0, Nat.zero_le _, rfl, Below.refl _ _⟩
  case round =>
    obtain ⟨j, hj, rfl, hb⟩ := hrel
    by_cases hlt : j < ts.length
    · obtain ⟨b, off, k1, n1, ks1, A1, c1, rfl, hkj, hc1, hc2, hc3, hl1, hr1⟩ := (hr.below hb).at_ hlt
      have hv1 := hts _ (List.getElem_mem hlt)
      rw [hkj] at hv1
      have hv1' := hide hv1
      clear hkj hv1
      go_wp2_with (go_at_call 67; refine (ivalidC_any k1 n1 ks1 A1 c1 _ hv1'.out hr1).mono ?_; rintro e w3 ⟨rfl, hb3⟩)
      go_roundw
      case rel => exact ⟨j + 1, by omega, by go_num, hb.trans (hb3.mono hb.size)⟩
      case measure => simp [intOf]; omega
    · go_wp2_with fail
      go_ret
      exact ⟨rfl, hb⟩
set_option maxRecDepth 100000 in
set_option maxHeartbeats 8000000 in
theorem iready_any (C : Option Addr) (c0 : Nat) (ts : List Tm) (A : Option Addr) (c : Nat) (w : World) (hl : ts.length ≤ 20) (hts : ∀ u, u ∈ ts → validT u = true) (hr : Rd w A 0 ts) :
    Calls Tryz.prog 41 #[.slice C 0 c0, .slice A ts.length c] w fun e w' => e = .returned (.int .i64 0) ∧ Below w.heap.size w w' := by
  have hC : ∀ w, Rd w A 0 ts → Calls Tryz.prog 66 #[.slice A ts.length c, .func (.func 67) #[] #[]] w fun e w' => e = .returned (.bool false) ∧ Below w.heap.size w w' := by
    intro w hr
    have htsh := hide hts
    go_enter Tryz.func66, Tryz.ntmps66
    go_wp2_with (go_at_call 93; refine (iindexF_any ts A c _ hl htsh.out hr).mono ?_; rintro e w1 ⟨rfl, hb1⟩)
    go_ret
    exact ⟨rfl, hb1⟩
  have hCh := hide hC
  clear hC hts
  go_enter Tryz.func41, Tryz.ntmps41
  go_wp2_with (first
    | (go_at_call 66; have _t := tok1; refine (hCh.out _ (hr.below hb1)).mono ?_; rintro e w2 ⟨rfl, hb2⟩)
    | (go_at_call 65; refine (ictx0_any C c0 _).mono ?_; rintro e w1 ⟨rfl, hb1⟩; have tok1 := trivial))
  go_ret
  exact ⟨rfl, hb1.trans (hb2.mono hb1.size)⟩
end Go.Proofs.YthgmofdfecioaaaGreatDoor
