/-
 Contracts of the functions that the law reaches, and plain lemmas. No condition.
-/
import Derived.Test.YtddkehjdjfmhmaaK26
import Derived.Deep.DeepCutAuto
namespace Go.Proofs.Ytddkehjdjfmhmaa
set_option linter.unusedSimpArgs false
set_option linter.unusedVariables false
open Go.RowKit
set_option maxRecDepth 100000 in
set_option maxHeartbeats 8000000 in
theorem sLam_any {N : Nat} (ih : InfC N) (ctx : List Tm) (C : Option Addr) (cc : Nat) (k n : Int) (A : Option Addr) (c : Nat) (ka na : Int) (sa : List Tm) (kb nb : Int) (sb : List Tm) (r : Rs Tm) (w : World) (hs : lamR (infR N) ctx (.mk ka na sa) (.mk kb nb sb) = some r) (hva : validT (.mk ka na sa) = true) (hvb : validT (.mk kb nb sb) = true) (hvc : ∀ u, u ∈ ctx → validT u = true) (hm : ctx.length ≤ 20) (hrc : Rd w C 0 ctx) (hr : Rd w A 0 [.mk ka na sa, .mk kb nb sb]) :
  Calls Try.prog 72 #[.slice C ctx.length cc, .agg #[.int .i64 k, .int .i64 n, .slice A 2 c]] w (GtT w r) := by
 obtain ⟨bk, ok, x1, x2, x3, Aa, ca, rfl, hk1, a1, a2, a3, hla, ra⟩ := hr.at_ (j := 0) (by simp)
 injection hk1 with e1 e2 e3
 subst e1 e2 e3
 obtain ⟨bb, ob, x1, x2, x3, Ab, cb, hAb, hk1, b1, b2, b3, hlb, rb⟩ := hr.at_ (j := 1) (by simp)
 injection hk1 with e1 e2 e3
 injection hAb with hA
 injection hA with hA1 hA2
 subst e1 e2 e3 hA1 hA2
 simp only [Nat.zero_mul, Nat.add_zero, Nat.one_mul, Nat.reduceMul] at a1 a2 a3 b1 b2 b3
 have lbp := World.block_lt_of_cell? _ _ a1
 rcases bd_inv hs with ⟨b, h1, rfl⟩ | ⟨li, h1, hs⟩
 ·have hS1 := hide (fun (w : World) (hrc : Rd w C 0 ctx) (hra : Rd w Aa 0 sa) => sSort_any ih ctx C cc ka na sa Aa ca _ w h1 hva hvc (by omega) hrc hra)
  have qb := cdB_q b
  clear hs h1 hva hvb hvc ih
  go_enter Try.func72, Try.ntmps72
  go_wp2_with (go_at_call 62; refine (hS1.out _ ((hrc.alloc _).alloc _) ((ra.alloc _).alloc _)).mono ?_; rintro e w1 ⟨l1, rfl, hb1⟩; have hTw1 : Blk w1 w.heap.size #[.int .i64 k, .int .i64 n, .slice (some ⟨bk, ok, none⟩) 2 c] := ((Blk.new_ w 25 #[.int .i64 k, .int .i64 n, .slice (some ⟨bk, ok, none⟩) 2 c] rfl).alloc _).keep hb1; have hZw1 : Blk w1 (w.heap.size + 1) #[.int .i64 0, .int .i64 0, .slice none 0 0] := (Blk.new_ _ 25 #[.int .i64 0, .int .i64 0, .slice none 0 0] (by simp)).keep hb1; have kww1 : Below w.heap.size w w1 := (((Below.refl _ _).alloc (by simp <;> omega) _).alloc (by simp <;> omega) _).trans (hb1.mono (by simp <;> omega)); obtain ⟨d0, d1, d2⟩ := hZw1.three; have e0 := hZw1.frozen 0; have e1 := hZw1.frozen 1; have e2 := hZw1.frozen 2; have lz := hZw1.lt)
  refine bodyPost_ret (v := .tuple #[.agg #[.int .i64 0, .int .i64 0, .slice none 0 0], .int .i64 (cdB b)]) (by simp [results, Try.results72, go_sem, d0, d1, d2]) rfl ⟨0, 0, none, 0, 0, rfl, ?_⟩
  exact ((kww1.setCell (by simp <;> omega) _).setCell (by simp <;> omega) _).setCell (by simp <;> omega) _
 ·have hS1 := hide (fun (w : World) (hrc : Rd w C 0 ctx) (hra : Rd w Aa 0 sa) => sSort_any ih ctx C cc ka na sa Aa ca _ w h1 hva hvc (by omega) hrc hra)
  rcases bd_inv hs with ⟨b, h2, rfl⟩ | ⟨⟨k1, n1, s1⟩, h2, hs⟩
  ·obtain ⟨cx, hcx⟩ : ∃ cx, ctx ++ [.mk ka na sa] = cx := ⟨_, rfl⟩; have hP := hide (show ∀ (w : World) (hrc : Rd w C 0 ctx) (hra : Rd w Aa 0 sa), Calls Try.prog 54 #[.slice C ctx.length cc, .agg #[.int .i64 ka, .int .i64 na, .slice Aa sa.length ca]] w (GotC5 w cx) from fun w hrc hra => by rw [← hcx]; exact sPush_any ctx C cc ka na sa Aa ca w (by omega) hla hrc hra); have hcl : cx.length ≤ 21 := (by rw [← hcx]; simp; omega); have hcv : ∀ u, u ∈ cx → validT u = true := (by rw [← hcx]; exact fun u hu => (List.mem_append.1 hu).elim (hvc u) (fun h => by rw [List.mem_singleton.1 h]; exact hva)); rw [hcx] at h2; clear hcx
   have hI := hide (fun (D : Option Addr) (d : Nat) (w : World) (hrD : Rd w D 0 cx) (hrb : Rd w Ab 0 sb) => gtz (ih cx kb nb sb _ h2 hvb hcv hcl D d Ab cb w hrD hrb))
   have qb := cdB_q b
   clear hs h1 h2 hva hvb hvc ih hcv
   go_enter Try.func72, Try.ntmps72
   go_upto_region 4 with (go_at_call 62; refine (hS1.out _ ((hrc.alloc _).alloc _) ((ra.alloc _).alloc _)).mono ?_; rintro e w1 ⟨rfl, hb1⟩; have hTw1 : Blk w1 w.heap.size #[.int .i64 k, .int .i64 n, .slice (some ⟨bk, ok, none⟩) 2 c] := ((Blk.new_ w 25 #[.int .i64 k, .int .i64 n, .slice (some ⟨bk, ok, none⟩) 2 c] rfl).alloc _).keep hb1; have hZw1 : Blk w1 (w.heap.size + 1) #[.int .i64 0, .int .i64 0, .slice none 0 0] := (Blk.new_ _ 25 #[.int .i64 0, .int .i64 0, .slice none 0 0] (by simp)).keep hb1; have kww1 : Below w.heap.size w w1 := (((Below.refl _ _).alloc (by simp <;> omega) _).alloc (by simp <;> omega) _).trans (hb1.mono (by simp <;> omega)))
   refine name_world ?_
   intro wx hwwx
   have hTwx : Blk wx w.heap.size #[.int .i64 k, .int .i64 n, .slice (some ⟨bk, ok, none⟩) 2 c] := by rw [hwwx]; exact hTw1
   have hZwx : Blk wx (w.heap.size + 1) #[.int .i64 0, .int .i64 0, .slice none 0 0] := by rw [hwwx]; exact hZw1
   have kwwx : Below w.heap.size w wx := by rw [hwwx]; exact kww1
   clear hwwx
   have v2 := rule_of hTwx.three.2.2
   have ua1 := rule_of (Keeps.of_below kwwx _ _ a1)
   have ua2 := rule_of (Keeps.of_below kwwx _ _ a2)
   have ua3 := rule_of (Keeps.of_below kwwx _ _ a3)
   have ub1 := rule_of (Keeps.of_below kwwx _ _ b1)
   have ub2 := rule_of (Keeps.of_below kwwx _ _ b2)
   have ub3 := rule_of (Keeps.of_below kwwx _ _ b3)
   go_cut [8, 9] (fun vp vc wy => ∃ (gz : Nat), vp = .pointer (some ⟨gz, 0, none⟩) ∧ vc = .int .i64 (cdB b) ∧ Below wx.heap.size wx wy)
   case first =>
    obtain ⟨q0, hq0⟩ : ∃ q0, q0 = wx.drew := ⟨_, rfl⟩
    have bq0 : Below wx.heap.size wx q0 := by rw [hq0]; exact (Below.refl _ _).drew
    refine gC_start (fun w' => Below wx.heap.size wx w') [11, 12, 13, 15, 16] 17 (by kernel_rfl) rfl ?_
    refine gC_take [0, 1, 2, 3, 4, 6, 7, 8, 9] (f := 8) (l' := #[true, true, true, true, true, false, true, true, true, true, false, false, false, false, false, false, false]) (lT := [_, _, _, _, _, _, _, _, _]) (by rw [← hq0]; exact bq0) rfl (by kernel_rfl) (by kernel_rfl) (by kernel_rfl) rfl (fun _ _ d _ _ h => by cases d <;> exact h) ?_
    repeat ((first | ((refine takeY_skip (a' := ?_) ?_ ?_ ?_); (rotate_left); (· (simp [Region.wanted, yielded, Go.undef]; done))) | ((refine takeY_step (v := ?_) (a' := ?_) ?_ ?_ ?_ ?_); (rotate_left 2); (· (simp [Region.wanted, yielded, Go.undef]; done)); (· (intro w' hS'; go_simp; try (with_reducible rfl))))); (· (simp only [List.getElem_toArray, List.getElem_cons_zero, List.getElem_cons_succ, Act.put, List.setIfInBounds_toArray, List.set_cons_zero, List.set_cons_succ]; exact rfl)))
    refine takeY_nil ?_
    rw [← hq0]
    clear hq0
    refine gC_two (i := 5) (j := 14) (by kernel_rfl) rfl rfl ?_ ?_
    ·go_wp2_with (go_at_call 54; refine (hP.out _ ((hrc.below kwwx).below bq0) ((ra.below kwwx).below bq0)).mono ?_; rintro e q1 ⟨D, d, rfl, rDq1, hbq1⟩)
     have bq1 : Below wx.heap.size wx q1 := bq0.trans (hbq1.mono bq0.size)
     have lq1 := hbq1.size
     refine mid_intro bq1 ?_
     refine gC_two (i := 10) (j := 14) (by kernel_rfl) rfl rfl ?_ ?_
     ·go_wp2_with (go_at_call 51; refine (hI.out _ _ _ rDq1 ((rb.below kwwx).below bq1)).mono ?_; rintro e q2 ⟨k1, n1, A1, l1, c1, rfl, hbq2⟩)
      have Dq2 := rDq1.below hbq2
      have bq2 : Below wx.heap.size wx q2 := bq1.trans (hbq2.mono bq1.size)
      have lq2 := hbq2.size
      refine mid_intro bq2 ?_
      refine gC_takeT [11, 12, 13] (f := 3) (l' := #[true, true, true, true, true, true, true, true, true, true, true, true, true, true, false, false, false]) (lT := [_, _, _]) rfl (by kernel_rfl) (by kernel_rfl) (by kernel_rfl) rfl (fun _ _ d _ _ h => by cases d <;> exact h) ?_
      repeat ((first | ((refine takeY_skip (a' := ?_) ?_ ?_ ?_); (rotate_left); (· (simp [Region.wanted, yielded, Go.undef]; done))) | ((refine takeY_step (v := ?_) (a' := ?_) ?_ ?_ ?_ ?_); (rotate_left 2); (· (simp [Region.wanted, yielded, Go.undef]; done)); (· (intro w' hS'; go_simp; try (with_reducible rfl))))); (· (simp only [List.getElem_toArray, List.getElem_cons_zero, List.getElem_cons_succ, Act.put, List.setIfInBounds_toArray, List.set_cons_zero, List.set_cons_succ]; exact rfl)))
      refine takeY_nil ?_
      refine gC_one (i := 14) (by kernel_rfl) rfl ?_
      ·go_wp2_with fail
       refine name_midw ?_
       intro q3 hn
       have hbq3 : Below q2.heap.size q2 q3 := by rw [hn]; exact (Below.refl _ _).alloc (Nat.le_refl _) _
       have zq3 : Blk q3 q2.heap.size #[.int .i64 0, .int .i64 0, .slice none 0 0] := by rw [hn]; exact Blk.new_ _ 25 _ rfl
       have seq3 : q2.heap.size < q3.heap.size := by rw [hn]; simp
       clear hn
       have Dq3 := Dq2.below hbq3
       have bq3 : Below wx.heap.size wx q3 := bq2.trans (hbq3.mono bq2.size)
       have lq3 := hbq3.size
       refine mid_intro bq3 ?_
       refine gC_end [15, 16] (lB := [_, _]) (by simp) (by kernel_rfl) (by kernel_rfl) rfl ?_
       simp only [List.getElem_toArray, List.getElem_cons_zero, List.getElem_cons_succ, Act.put, List.setIfInBounds_toArray, List.set_cons_zero, List.set_cons_succ]
       obtain ⟨d0, d1, d2⟩ := zq3.three
       have e0 := zq3.frozen 0
       have e1 := zq3.frozen 1
       have e2 := zq3.frozen 2
       have szb : wx.heap.size ≤ q2.heap.size := bq2.size
       go_wp2_with fail
       go_meet
       exact ⟨q2.heap.size, rfl, rfl, ((bq3.setCell szb _).setCell szb _).setCell szb _⟩
     ·go_wp2_with fail
      refine name_midw ?_
      intro q4 hn
      have hbq4 : Below q1.heap.size q1 q4 := by rw [hn]; exact (Below.refl _ _).alloc (Nat.le_refl _) _
      have zq4 : Blk q4 q1.heap.size #[.int .i64 0, .int .i64 0, .slice none 0 0] := by rw [hn]; exact Blk.new_ _ 25 _ rfl
      have seq4 : q1.heap.size < q4.heap.size := by rw [hn]; simp
      clear hn
      have Dq4 := rDq1.below hbq4
      have bq4 : Below wx.heap.size wx q4 := bq1.trans (hbq4.mono bq1.size)
      have lq4 := hbq4.size
      refine mid_intro bq4 ?_
      refine gC_one (i := 10) (by kernel_rfl) rfl ?_
      ·go_wp2_with (go_at_call 51; refine (hI.out _ _ _ Dq4 ((rb.below kwwx).below bq4)).mono ?_; rintro e q5 ⟨k1, n1, A1, l1, c1, rfl, hbq5⟩)
       have Dq5 := Dq4.below hbq5
       have Zq5 := zq4.keep hbq5
       have bq5 : Below wx.heap.size wx q5 := bq4.trans (hbq5.mono bq4.size)
       have lq5 := hbq5.size
       refine mid_intro bq5 ?_
       refine gC_takeT [11, 12, 13] (f := 2) (l' := #[true, true, true, true, true, true, true, true, true, true, true, true, true, true, true, false, false]) (lT := [_, _, _]) rfl (by kernel_rfl) (by kernel_rfl) (by kernel_rfl) rfl (fun _ _ d _ _ h => by cases d <;> exact h) ?_
       repeat ((first | ((refine takeY_skip (a' := ?_) ?_ ?_ ?_); (rotate_left); (· (simp [Region.wanted, yielded, Go.undef]; done))) | ((refine takeY_step (v := ?_) (a' := ?_) ?_ ?_ ?_ ?_); (rotate_left 2); (· (simp [Region.wanted, yielded, Go.undef]; done)); (· (intro w' hS'; go_simp; try (with_reducible rfl))))); (· (simp only [List.getElem_toArray, List.getElem_cons_zero, List.getElem_cons_succ, Act.put, List.setIfInBounds_toArray, List.set_cons_zero, List.set_cons_succ]; exact rfl)))
       refine takeY_nil ?_
       refine gC_end [15, 16] (lB := [_, _]) (by simp) (by kernel_rfl) (by kernel_rfl) rfl ?_
       simp only [List.getElem_toArray, List.getElem_cons_zero, List.getElem_cons_succ, Act.put, List.setIfInBounds_toArray, List.set_cons_zero, List.set_cons_succ]
       obtain ⟨d0, d1, d2⟩ := Zq5.three
       have e0 := Zq5.frozen 0
       have e1 := Zq5.frozen 1
       have e2 := Zq5.frozen 2
       have szb : wx.heap.size ≤ q1.heap.size := bq1.size
       go_wp2_with fail
       go_meet
       exact ⟨q1.heap.size, rfl, rfl, ((bq5.setCell szb _).setCell szb _).setCell szb _⟩
    ·go_wp2_with fail
     refine name_midw ?_
     intro q6 hn
     have hbq6 : Below q0.heap.size q0 q6 := by rw [hn]; exact (Below.refl _ _).alloc (Nat.le_refl _) _
     have zq6 : Blk q6 q0.heap.size #[.int .i64 0, .int .i64 0, .slice none 0 0] := by rw [hn]; exact Blk.new_ _ 25 _ rfl
     have seq6 : q0.heap.size < q6.heap.size := by rw [hn]; simp
     clear hn
     have bq6 : Below wx.heap.size wx q6 := bq0.trans (hbq6.mono bq0.size)
     have lq6 := hbq6.size
     refine mid_intro bq6 ?_
     refine gC_one (i := 5) (by kernel_rfl) rfl ?_
     ·go_wp2_with (go_at_call 54; refine (hP.out _ ((hrc.below kwwx).below bq6) ((ra.below kwwx).below bq6)).mono ?_; rintro e q7 ⟨D, d, rfl, rDq7, hbq7⟩)
      have Zq7 := zq6.keep hbq7
      have bq7 : Below wx.heap.size wx q7 := bq6.trans (hbq7.mono bq6.size)
      have lq7 := hbq7.size
      refine mid_intro bq7 ?_
      refine gC_one (i := 10) (by kernel_rfl) rfl ?_
      ·go_wp2_with (go_at_call 51; refine (hI.out _ _ _ rDq7 ((rb.below kwwx).below bq7)).mono ?_; rintro e q8 ⟨k1, n1, A1, l1, c1, rfl, hbq8⟩)
       have Zq8 := Zq7.keep hbq8
       have Dq8 := rDq7.below hbq8
       have bq8 : Below wx.heap.size wx q8 := bq7.trans (hbq8.mono bq7.size)
       have lq8 := hbq8.size
       refine mid_intro bq8 ?_
       refine gC_takeT [11, 12, 13] (f := 2) (l' := #[true, true, true, true, true, true, true, true, true, true, true, true, true, true, true, false, false]) (lT := [_, _, _]) rfl (by kernel_rfl) (by kernel_rfl) (by kernel_rfl) rfl (fun _ _ d _ _ h => by cases d <;> exact h) ?_
       repeat ((first | ((refine takeY_skip (a' := ?_) ?_ ?_ ?_); (rotate_left); (· (simp [Region.wanted, yielded, Go.undef]; done))) | ((refine takeY_step (v := ?_) (a' := ?_) ?_ ?_ ?_ ?_); (rotate_left 2); (· (simp [Region.wanted, yielded, Go.undef]; done)); (· (intro w' hS'; go_simp; try (with_reducible rfl))))); (· (simp only [List.getElem_toArray, List.getElem_cons_zero, List.getElem_cons_succ, Act.put, List.setIfInBounds_toArray, List.set_cons_zero, List.set_cons_succ]; exact rfl)))
       refine takeY_nil ?_
       refine gC_end [15, 16] (lB := [_, _]) (by simp) (by kernel_rfl) (by kernel_rfl) rfl ?_
       simp only [List.getElem_toArray, List.getElem_cons_zero, List.getElem_cons_succ, Act.put, List.setIfInBounds_toArray, List.set_cons_zero, List.set_cons_succ]
       obtain ⟨d0, d1, d2⟩ := Zq8.three
       have e0 := Zq8.frozen 0
       have e1 := Zq8.frozen 1
       have e2 := Zq8.frozen 2
       have szb : wx.heap.size ≤ q0.heap.size := bq0.size
       go_wp2_with fail
       go_meet
       exact ⟨q0.heap.size, rfl, rfl, ((bq8.setCell szb _).setCell szb _).setCell szb _⟩
   case rest =>
    obtain ⟨gz, rfl, rfl, hxy⟩ := hcut
    have hZy := hZwx.keep hxy
    have gy := kwwx.trans (hxy.mono kwwx.size)
    obtain ⟨d0, d1, d2⟩ := hZy.three
    have e0 := hZy.frozen 0
    have e1 := hZy.frozen 1
    have e2 := hZy.frozen 2
    have lz := hZy.lt
    go_wp2_with fail
    refine bodyPost_ret (v := .tuple #[.agg #[.int .i64 0, .int .i64 0, .slice none 0 0], .int .i64 (cdB b)]) (by simp [results, Try.results72, go_sem, d0, d1, d2]) rfl ⟨0, 0, none, 0, 0, rfl, ?_⟩
    exact ((gy.setCell (by simp <;> omega) _).setCell (by simp <;> omega) _).setCell (by simp <;> omega) _
  ·obtain ⟨cx, hcx⟩ : ∃ cx, ctx ++ [.mk ka na sa] = cx := ⟨_, rfl⟩; have hP := hide (show ∀ (w : World) (hrc : Rd w C 0 ctx) (hra : Rd w Aa 0 sa), Calls Try.prog 54 #[.slice C ctx.length cc, .agg #[.int .i64 ka, .int .i64 na, .slice Aa sa.length ca]] w (GotC5 w cx) from fun w hrc hra => by rw [← hcx]; exact sPush_any ctx C cc ka na sa Aa ca w (by omega) hla hrc hra); have hcl : cx.length ≤ 21 := (by rw [← hcx]; simp; omega); have hcv : ∀ u, u ∈ cx → validT u = true := (by rw [← hcx]; exact fun u hu => (List.mem_append.1 hu).elim (hvc u) (fun h => by rw [List.mem_singleton.1 h]; exact hva)); rw [hcx] at h2; clear hcx
   have hI := hide (fun (D : Option Addr) (d : Nat) (w : World) (hrD : Rd w D 0 cx) (hrb : Rd w Ab 0 sb) => gtz (ih cx kb nb sb _ h2 hvb hcv hcl D d Ab cb w hrD hrb))
   have hv1 := hide (infR_valid h2)
   have hvl := hide (show ∀ t, t ∈ [Tm.mk ka na sa, Tm.mk k1 n1 s1] → validT t = true from fun t ht => by
    have hd := infR_valid h2
    rcases List.mem_cons.1 ht with rfl | ht
    ·exact hva
    ·rw [List.mem_singleton.1 ht]; exact hd)
   rcases bd_inv hs with ⟨b, h3, rfl⟩ | ⟨⟨k8, n8, s8⟩, h3, hs⟩
   ·have hB := hide (fun (A : Option Addr) (c : Nat) (w : World) (hrc : Rd w C 0 ctx) (hr : Rd w A 0 [.mk ka na sa, .mk k1 n1 s1]) => sBound_any ih ctx C cc 3 0 A c ka na sa k1 n1 s1 _ w h3 hva (infR_valid h2) hvc hm hrc hr)
    clear hs h1 h2 h3 hva hvb hvc ih hcv
    go_enter Try.func72, Try.ntmps72
    go_upto_region 4 with (go_at_call 62; refine (hS1.out _ ((hrc.alloc _).alloc _) ((ra.alloc _).alloc _)).mono ?_; rintro e w1 ⟨rfl, hb1⟩; have hTw1 : Blk w1 w.heap.size #[.int .i64 k, .int .i64 n, .slice (some ⟨bk, ok, none⟩) 2 c] := ((Blk.new_ w 25 #[.int .i64 k, .int .i64 n, .slice (some ⟨bk, ok, none⟩) 2 c] rfl).alloc _).keep hb1; have hZw1 : Blk w1 (w.heap.size + 1) #[.int .i64 0, .int .i64 0, .slice none 0 0] := (Blk.new_ _ 25 #[.int .i64 0, .int .i64 0, .slice none 0 0] (by simp)).keep hb1; have kww1 : Below w.heap.size w w1 := (((Below.refl _ _).alloc (by simp <;> omega) _).alloc (by simp <;> omega) _).trans (hb1.mono (by simp <;> omega)))
    refine name_world ?_
    intro wx hwwx
    have hTwx : Blk wx w.heap.size #[.int .i64 k, .int .i64 n, .slice (some ⟨bk, ok, none⟩) 2 c] := by rw [hwwx]; exact hTw1
    have hZwx : Blk wx (w.heap.size + 1) #[.int .i64 0, .int .i64 0, .slice none 0 0] := by rw [hwwx]; exact hZw1
    have kwwx : Below w.heap.size w wx := by rw [hwwx]; exact kww1
    clear hwwx
    have v2 := rule_of hTwx.three.2.2
    have ua1 := rule_of (Keeps.of_below kwwx _ _ a1)
    have ua2 := rule_of (Keeps.of_below kwwx _ _ a2)
    have ua3 := rule_of (Keeps.of_below kwwx _ _ a3)
    have ub1 := rule_of (Keeps.of_below kwwx _ _ b1)
    have ub2 := rule_of (Keeps.of_below kwwx _ _ b2)
    have ub3 := rule_of (Keeps.of_below kwwx _ _ b3)
    go_cut [8, 9] (fun vp vc wy => ∃ (gz : Nat) (Az : Option Addr) (cz : Nat), vp = .pointer (some ⟨gz, 0, none⟩) ∧ vc = .int .i64 0 ∧ s1.length ≤ 9223372036854775807 ∧ Blk wy gz #[.int .i64 k1, .int .i64 n1, .slice Az s1.length cz] ∧ Rd wy Az 0 s1 ∧ Below wx.heap.size wx wy ∧ wx.heap.size ≤ gz)
    case first =>
     obtain ⟨q0, hq0⟩ : ∃ q0, q0 = wx.drew := ⟨_, rfl⟩
     have bq0 : Below wx.heap.size wx q0 := by rw [hq0]; exact (Below.refl _ _).drew
     refine gC_start (fun w' => Below wx.heap.size wx w') [11, 12, 13, 15, 16] 17 (by kernel_rfl) rfl ?_
     refine gC_take [0, 1, 2, 3, 4, 6, 7, 8, 9] (f := 8) (l' := #[true, true, true, true, true, false, true, true, true, true, false, false, false, false, false, false, false]) (lT := [_, _, _, _, _, _, _, _, _]) (by rw [← hq0]; exact bq0) rfl (by kernel_rfl) (by kernel_rfl) (by kernel_rfl) rfl (fun _ _ d _ _ h => by cases d <;> exact h) ?_
     repeat ((first | ((refine takeY_skip (a' := ?_) ?_ ?_ ?_); (rotate_left); (· (simp [Region.wanted, yielded, Go.undef]; done))) | ((refine takeY_step (v := ?_) (a' := ?_) ?_ ?_ ?_ ?_); (rotate_left 2); (· (simp [Region.wanted, yielded, Go.undef]; done)); (· (intro w' hS'; go_simp; try (with_reducible rfl))))); (· (simp only [List.getElem_toArray, List.getElem_cons_zero, List.getElem_cons_succ, Act.put, List.setIfInBounds_toArray, List.set_cons_zero, List.set_cons_succ]; exact rfl)))
     refine takeY_nil ?_
     rw [← hq0]
     clear hq0
     refine gC_two (i := 5) (j := 14) (by kernel_rfl) rfl rfl ?_ ?_
     ·go_wp2_with (go_at_call 54; refine (hP.out _ ((hrc.below kwwx).below bq0) ((ra.below kwwx).below bq0)).mono ?_; rintro e q1 ⟨D, d, rfl, rDq1, hbq1⟩)
      have bq1 : Below wx.heap.size wx q1 := bq0.trans (hbq1.mono bq0.size)
      have lq1 := hbq1.size
      refine mid_intro bq1 ?_
      refine gC_two (i := 10) (j := 14) (by kernel_rfl) rfl rfl ?_ ?_
      ·go_wp2_with (go_at_call 51; refine (hI.out _ _ _ rDq1 ((rb.below kwwx).below bq1)).mono ?_; rintro e q2 ⟨A1, c1, rfl, hl1, rUq2, hbq2⟩)
       have Dq2 := rDq1.below hbq2
       have bq2 : Below wx.heap.size wx q2 := bq1.trans (hbq2.mono bq1.size)
       have lq2 := hbq2.size
       refine mid_intro bq2 ?_
       refine gC_takeT [11, 12, 13] (f := 3) (l' := #[true, true, true, true, true, true, true, true, true, true, true, true, true, true, false, false, false]) (lT := [_, _, _]) rfl (by kernel_rfl) (by kernel_rfl) (by kernel_rfl) rfl (fun _ _ d _ _ h => by cases d <;> exact h) ?_
       repeat ((first | ((refine takeY_skip (a' := ?_) ?_ ?_ ?_); (rotate_left); (· (simp [Region.wanted, yielded, Go.undef]; done))) | ((refine takeY_step (v := ?_) (a' := ?_) ?_ ?_ ?_ ?_); (rotate_left 2); (· (simp [Region.wanted, yielded, Go.undef]; done)); (· (intro w' hS'; go_simp; try (with_reducible rfl))))); (· (simp only [List.getElem_toArray, List.getElem_cons_zero, List.getElem_cons_succ, Act.put, List.setIfInBounds_toArray, List.set_cons_zero, List.set_cons_succ]; exact rfl)))
       refine takeY_nil ?_
       refine gC_one (i := 14) (by kernel_rfl) rfl ?_
       ·go_wp2_with fail
        refine name_midw ?_
        intro q3 hn
        have hbq3 : Below q2.heap.size q2 q3 := by rw [hn]; exact (Below.refl _ _).alloc (Nat.le_refl _) _
        have zq3 : Blk q3 q2.heap.size #[.int .i64 0, .int .i64 0, .slice none 0 0] := by rw [hn]; exact Blk.new_ _ 25 _ rfl
        have seq3 : q2.heap.size < q3.heap.size := by rw [hn]; simp
        clear hn
        have Dq3 := Dq2.below hbq3
        have Uq3 := rUq2.below hbq3
        have bq3 : Below wx.heap.size wx q3 := bq2.trans (hbq3.mono bq2.size)
        have lq3 := hbq3.size
        refine mid_intro bq3 ?_
        refine gC_end [15, 16] (lB := [_, _]) (by simp) (by kernel_rfl) (by kernel_rfl) rfl ?_
        simp only [List.getElem_toArray, List.getElem_cons_zero, List.getElem_cons_succ, Act.put, List.setIfInBounds_toArray, List.set_cons_zero, List.set_cons_succ]
        obtain ⟨d0, d1, d2⟩ := zq3.three
        have e0 := zq3.frozen 0
        have e1 := zq3.frozen 1
        have e2 := zq3.frozen 2
        have szb : wx.heap.size ≤ q2.heap.size := bq2.size
        go_wp2_with fail
        go_meet
        exact ⟨q2.heap.size, A1, c1, rfl, rfl, hl1, ((zq3.set_ 0 _).set_ 1 _).set_ 2 _, rd_set0 zq3 hv1.out Uq3 _ _ _, ((bq3.setCell szb _).setCell szb _).setCell szb _, szb⟩
      ·go_wp2_with fail
       refine name_midw ?_
       intro q4 hn
       have hbq4 : Below q1.heap.size q1 q4 := by rw [hn]; exact (Below.refl _ _).alloc (Nat.le_refl _) _
       have zq4 : Blk q4 q1.heap.size #[.int .i64 0, .int .i64 0, .slice none 0 0] := by rw [hn]; exact Blk.new_ _ 25 _ rfl
       have seq4 : q1.heap.size < q4.heap.size := by rw [hn]; simp
       clear hn
       have Dq4 := rDq1.below hbq4
       have bq4 : Below wx.heap.size wx q4 := bq1.trans (hbq4.mono bq1.size)
       have lq4 := hbq4.size
       refine mid_intro bq4 ?_
       refine gC_one (i := 10) (by kernel_rfl) rfl ?_
       ·go_wp2_with (go_at_call 51; refine (hI.out _ _ _ Dq4 ((rb.below kwwx).below bq4)).mono ?_; rintro e q5 ⟨A1, c1, rfl, hl1, rUq5, hbq5⟩)
        have Dq5 := Dq4.below hbq5
        have Zq5 := zq4.keep hbq5
        have bq5 : Below wx.heap.size wx q5 := bq4.trans (hbq5.mono bq4.size)
        have lq5 := hbq5.size
        refine mid_intro bq5 ?_
        refine gC_takeT [11, 12, 13] (f := 2) (l' := #[true, true, true, true, true, true, true, true, true, true, true, true, true, true, true, false, false]) (lT := [_, _, _]) rfl (by kernel_rfl) (by kernel_rfl) (by kernel_rfl) rfl (fun _ _ d _ _ h => by cases d <;> exact h) ?_
        repeat ((first | ((refine takeY_skip (a' := ?_) ?_ ?_ ?_); (rotate_left); (· (simp [Region.wanted, yielded, Go.undef]; done))) | ((refine takeY_step (v := ?_) (a' := ?_) ?_ ?_ ?_ ?_); (rotate_left 2); (· (simp [Region.wanted, yielded, Go.undef]; done)); (· (intro w' hS'; go_simp; try (with_reducible rfl))))); (· (simp only [List.getElem_toArray, List.getElem_cons_zero, List.getElem_cons_succ, Act.put, List.setIfInBounds_toArray, List.set_cons_zero, List.set_cons_succ]; exact rfl)))
        refine takeY_nil ?_
        refine gC_end [15, 16] (lB := [_, _]) (by simp) (by kernel_rfl) (by kernel_rfl) rfl ?_
        simp only [List.getElem_toArray, List.getElem_cons_zero, List.getElem_cons_succ, Act.put, List.setIfInBounds_toArray, List.set_cons_zero, List.set_cons_succ]
        obtain ⟨d0, d1, d2⟩ := Zq5.three
        have e0 := Zq5.frozen 0
        have e1 := Zq5.frozen 1
        have e2 := Zq5.frozen 2
        have szb : wx.heap.size ≤ q1.heap.size := bq1.size
        go_wp2_with fail
        go_meet
        exact ⟨q1.heap.size, A1, c1, rfl, rfl, hl1, ((Zq5.set_ 0 _).set_ 1 _).set_ 2 _, rd_set0 Zq5 hv1.out rUq5 _ _ _, ((bq5.setCell szb _).setCell szb _).setCell szb _, szb⟩
     ·go_wp2_with fail
      refine name_midw ?_
      intro q6 hn
      have hbq6 : Below q0.heap.size q0 q6 := by rw [hn]; exact (Below.refl _ _).alloc (Nat.le_refl _) _
      have zq6 : Blk q6 q0.heap.size #[.int .i64 0, .int .i64 0, .slice none 0 0] := by rw [hn]; exact Blk.new_ _ 25 _ rfl
      have seq6 : q0.heap.size < q6.heap.size := by rw [hn]; simp
      clear hn
      have bq6 : Below wx.heap.size wx q6 := bq0.trans (hbq6.mono bq0.size)
      have lq6 := hbq6.size
      refine mid_intro bq6 ?_
      refine gC_one (i := 5) (by kernel_rfl) rfl ?_
      ·go_wp2_with (go_at_call 54; refine (hP.out _ ((hrc.below kwwx).below bq6) ((ra.below kwwx).below bq6)).mono ?_; rintro e q7 ⟨D, d, rfl, rDq7, hbq7⟩)
       have Zq7 := zq6.keep hbq7
       have bq7 : Below wx.heap.size wx q7 := bq6.trans (hbq7.mono bq6.size)
       have lq7 := hbq7.size
       refine mid_intro bq7 ?_
       refine gC_one (i := 10) (by kernel_rfl) rfl ?_
       ·go_wp2_with (go_at_call 51; refine (hI.out _ _ _ rDq7 ((rb.below kwwx).below bq7)).mono ?_; rintro e q8 ⟨A1, c1, rfl, hl1, rUq8, hbq8⟩)
        have Zq8 := Zq7.keep hbq8
        have Dq8 := rDq7.below hbq8
        have bq8 : Below wx.heap.size wx q8 := bq7.trans (hbq8.mono bq7.size)
        have lq8 := hbq8.size
        refine mid_intro bq8 ?_
        refine gC_takeT [11, 12, 13] (f := 2) (l' := #[true, true, true, true, true, true, true, true, true, true, true, true, true, true, true, false, false]) (lT := [_, _, _]) rfl (by kernel_rfl) (by kernel_rfl) (by kernel_rfl) rfl (fun _ _ d _ _ h => by cases d <;> exact h) ?_
        repeat ((first | ((refine takeY_skip (a' := ?_) ?_ ?_ ?_); (rotate_left); (· (simp [Region.wanted, yielded, Go.undef]; done))) | ((refine takeY_step (v := ?_) (a' := ?_) ?_ ?_ ?_ ?_); (rotate_left 2); (· (simp [Region.wanted, yielded, Go.undef]; done)); (· (intro w' hS'; go_simp; try (with_reducible rfl))))); (· (simp only [List.getElem_toArray, List.getElem_cons_zero, List.getElem_cons_succ, Act.put, List.setIfInBounds_toArray, List.set_cons_zero, List.set_cons_succ]; exact rfl)))
        refine takeY_nil ?_
        refine gC_end [15, 16] (lB := [_, _]) (by simp) (by kernel_rfl) (by kernel_rfl) rfl ?_
        simp only [List.getElem_toArray, List.getElem_cons_zero, List.getElem_cons_succ, Act.put, List.setIfInBounds_toArray, List.set_cons_zero, List.set_cons_succ]
        obtain ⟨d0, d1, d2⟩ := Zq8.three
        have e0 := Zq8.frozen 0
        have e1 := Zq8.frozen 1
        have e2 := Zq8.frozen 2
        have szb : wx.heap.size ≤ q0.heap.size := bq0.size
        go_wp2_with fail
        go_meet
        exact ⟨q0.heap.size, A1, c1, rfl, rfl, hl1, ((Zq8.set_ 0 _).set_ 1 _).set_ 2 _, rd_set0 Zq8 hv1.out rUq8 _ _ _, ((bq8.setCell szb _).setCell szb _).setCell szb _, szb⟩
    case rest =>
     obtain ⟨gz, Az, cz, rfl, rfl, hlz, hGy, rUy, hxy, hgz⟩ := hcut
     clear v2 ua1 ua2 ua3 ub1 ub2 ub3
     have hTy := hTwx.keep hxy
     have hZy := hZwx.keep hxy
     have gy := kwwx.trans (hxy.mono kwwx.size)
     go_upto_region 7 with fail
     refine name_world ?_
     intro wu hwu
     have hTwu : Blk wu w.heap.size #[.int .i64 k, .int .i64 n, .slice (some ⟨bk, ok, none⟩) 2 c] := by rw [hwu]; exact hTy
     have hZwu : Blk wu (w.heap.size + 1) #[.int .i64 0, .int .i64 0, .slice none 0 0] := by rw [hwu]; exact hZy
     have hGwu : Blk wu gz #[.int .i64 k1, .int .i64 n1, .slice Az s1.length cz] := by rw [hwu]; exact hGy
     have kwwu : Below w.heap.size w wu := by rw [hwu]; exact gy
     have rUu : Rd wu Az 0 s1 := by rw [hwu]; exact rUy
     clear hwu
     have v2 := rule_of hTwu.three.2.2
     have z0 := rule_of hGwu.three.1
     have z1 := rule_of hGwu.three.2.1
     have z2 := rule_of hGwu.three.2.2
     have ua1 := rule_of (Keeps.of_below kwwu _ _ a1)
     have ua2 := rule_of (Keeps.of_below kwwu _ _ a2)
     have ua3 := rule_of (Keeps.of_below kwwu _ _ a3)
     go_cut [10] (fun vp wz => ∃ (gp : Nat) (Ap : Option Addr) (cp : Nat), vp = .pointer (some ⟨gp, 0, none⟩) ∧ Blk wz gp #[.int .i64 3, .int .i64 0, .slice Ap 2 cp] ∧ Rd wz Ap 0 [.mk ka na sa, .mk k1 n1 s1] ∧ Below wu.heap.size wu wz ∧ wu.heap.size ≤ gp)
     case first =>
      obtain ⟨q0, hq0⟩ : ∃ q0, q0 = wu.drew := ⟨_, rfl⟩
      have bq0 : Below wu.heap.size wu q0 := by rw [hq0]; exact (Below.refl _ _).drew
      refine gC_start (fun w' => Below wu.heap.size wu w') [8] 9 (by kernel_rfl) rfl ?_
      refine gC_take [0, 1, 2, 3, 4] (f := 4) (l' := #[true, true, true, true, true, false, false, false, false]) (lT := [_, _, _, _, _]) (by rw [← hq0]; exact bq0) rfl (by kernel_rfl) (by kernel_rfl) (by kernel_rfl) rfl (fun _ _ d _ _ h => by cases d <;> exact h) ?_
      repeat ((first | ((refine takeY_skip (a' := ?_) ?_ ?_ ?_); (rotate_left); (· (simp [Region.wanted, yielded, Go.undef]; done))) | ((refine takeY_step (v := ?_) (a' := ?_) ?_ ?_ ?_ ?_); (rotate_left 2); (· (simp [Region.wanted, yielded, Go.undef]; done)); (· (intro w' hS'; go_simp; try (with_reducible rfl))))); (· (simp only [List.getElem_toArray, List.getElem_cons_zero, List.getElem_cons_succ, Act.put, List.setIfInBounds_toArray, List.set_cons_zero, List.set_cons_succ]; exact rfl)))
      refine takeY_nil ?_
      rw [← hq0]
      clear hq0
      refine gC_two (i := 5) (j := 7) (by kernel_rfl) rfl rfl ?_ ?_
      ·go_wp2_with fail
       refine name_midw ?_
       intro q1 hn
       have hbq1 : Below q0.heap.size q0 q1 := by rw [hn]; exact (Below.refl _ _).alloc (Nat.le_refl _) _
       have zq1 : Blk q1 q0.heap.size #[.int .i64 ka, .int .i64 na, .slice Aa sa.length ca, .int .i64 k1, .int .i64 n1, .slice Az s1.length cz] := by rw [hn]; exact Blk.new_ _ 25 _ rfl
       have seq1 : q0.heap.size < q1.heap.size := by rw [hn]; simp
       clear hn
       have bq1 : Below wu.heap.size wu q1 := bq0.trans (hbq1.mono bq0.size)
       have lq1 := hbq1.size
       refine mid_intro bq1 ?_
       refine gC_two (i := 6) (j := 7) (by kernel_rfl) rfl rfl ?_ ?_
       ·go_wp2_with (go_at_call 46; refine (sNodeT_any 3 (rdx_consT hla ((ra.below kwwu).below bq1).rdp (rdx_consT hlz (rUu.below bq1).rdp rdx_nilT)) 2 rfl (by omega) _ _ zq1).mono ?_; rintro e q2 ⟨A7, c7, rfl, r7q2, hbq2⟩)
        have Bq2 := zq1.keep hbq2
        have bq2 : Below wu.heap.size wu q2 := bq1.trans (hbq2.mono bq1.size)
        have lq2 := hbq2.size
        refine mid_intro bq2 ?_
        refine gC_one (i := 7) (by kernel_rfl) rfl ?_
        ·go_wp2_with fail
         refine name_midw ?_
         intro q3 hn
         have hbq3 : Below q2.heap.size q2 q3 := by rw [hn]; exact (Below.refl _ _).alloc (Nat.le_refl _) _
         have zq3 : Blk q3 q2.heap.size #[.int .i64 0, .int .i64 0, .slice none 0 0] := by rw [hn]; exact Blk.new_ _ 25 _ rfl
         have seq3 : q2.heap.size < q3.heap.size := by rw [hn]; simp
         clear hn
         have Bq3 := Bq2.keep hbq3
         have Nq3 := r7q2.below hbq3
         have bq3 : Below wu.heap.size wu q3 := bq2.trans (hbq3.mono bq2.size)
         have lq3 := hbq3.size
         refine mid_intro bq3 ?_
         refine gC_end [8] (lB := [_]) (by simp) (by kernel_rfl) (by kernel_rfl) rfl ?_
         simp only [List.getElem_toArray, List.getElem_cons_zero, List.getElem_cons_succ, Act.put, List.setIfInBounds_toArray, List.set_cons_zero, List.set_cons_succ]
         obtain ⟨d0, d1, d2⟩ := zq3.three
         have e0 := zq3.frozen 0
         have e1 := zq3.frozen 1
         have e2 := zq3.frozen 2
         have szb : wu.heap.size ≤ q2.heap.size := bq2.size
         go_wp2_with fail
         go_meet
         exact ⟨q2.heap.size, A7, c7, rfl, ((zq3.set_ 0 _).set_ 1 _).set_ 2 _, rd_set0L zq3 hvl.out Nq3 _ _ _, ((bq3.setCell szb _).setCell szb _).setCell szb _, szb⟩
       ·go_wp2_with fail
        refine name_midw ?_
        intro q4 hn
        have hbq4 : Below q1.heap.size q1 q4 := by rw [hn]; exact (Below.refl _ _).alloc (Nat.le_refl _) _
        have zq4 : Blk q4 q1.heap.size #[.int .i64 0, .int .i64 0, .slice none 0 0] := by rw [hn]; exact Blk.new_ _ 25 _ rfl
        have seq4 : q1.heap.size < q4.heap.size := by rw [hn]; simp
        clear hn
        have Bq4 := zq1.keep hbq4
        have bq4 : Below wu.heap.size wu q4 := bq1.trans (hbq4.mono bq1.size)
        have lq4 := hbq4.size
        refine mid_intro bq4 ?_
        refine gC_one (i := 6) (by kernel_rfl) rfl ?_
        ·go_wp2_with (go_at_call 46; refine (sNodeT_any 3 (rdx_consT hla ((ra.below kwwu).below bq4).rdp (rdx_consT hlz (rUu.below bq4).rdp rdx_nilT)) 2 rfl (by omega) _ _ Bq4).mono ?_; rintro e q5 ⟨A7, c7, rfl, r7q5, hbq5⟩)
         have Bq5 := Bq4.keep hbq5
         have Zq5 := zq4.keep hbq5
         have bq5 : Below wu.heap.size wu q5 := bq4.trans (hbq5.mono bq4.size)
         have lq5 := hbq5.size
         refine mid_intro bq5 ?_
         refine gC_end [8] (lB := [_]) (by simp) (by kernel_rfl) (by kernel_rfl) rfl ?_
         simp only [List.getElem_toArray, List.getElem_cons_zero, List.getElem_cons_succ, Act.put, List.setIfInBounds_toArray, List.set_cons_zero, List.set_cons_succ]
         obtain ⟨d0, d1, d2⟩ := Zq5.three
         have e0 := Zq5.frozen 0
         have e1 := Zq5.frozen 1
         have e2 := Zq5.frozen 2
         have szb : wu.heap.size ≤ q1.heap.size := bq1.size
         go_wp2_with fail
         go_meet
         exact ⟨q1.heap.size, A7, c7, rfl, ((Zq5.set_ 0 _).set_ 1 _).set_ 2 _, rd_set0L Zq5 hvl.out r7q5 _ _ _, ((bq5.setCell szb _).setCell szb _).setCell szb _, szb⟩
      ·go_wp2_with fail
       refine name_midw ?_
       intro q6 hn
       have hbq6 : Below q0.heap.size q0 q6 := by rw [hn]; exact (Below.refl _ _).alloc (Nat.le_refl _) _
       have zq6 : Blk q6 q0.heap.size #[.int .i64 0, .int .i64 0, .slice none 0 0] := by rw [hn]; exact Blk.new_ _ 25 _ rfl
       have seq6 : q0.heap.size < q6.heap.size := by rw [hn]; simp
       clear hn
       have bq6 : Below wu.heap.size wu q6 := bq0.trans (hbq6.mono bq0.size)
       have lq6 := hbq6.size
       refine mid_intro bq6 ?_
       refine gC_one (i := 5) (by kernel_rfl) rfl ?_
       ·go_wp2_with fail
        refine name_midw ?_
        intro q7 hn
        have hbq7 : Below q6.heap.size q6 q7 := by rw [hn]; exact (Below.refl _ _).alloc (Nat.le_refl _) _
        have zq7 : Blk q7 q6.heap.size #[.int .i64 ka, .int .i64 na, .slice Aa sa.length ca, .int .i64 k1, .int .i64 n1, .slice Az s1.length cz] := by rw [hn]; exact Blk.new_ _ 25 _ rfl
        have seq7 : q6.heap.size < q7.heap.size := by rw [hn]; simp
        clear hn
        have Zq7 := zq6.keep hbq7
        have bq7 : Below wu.heap.size wu q7 := bq6.trans (hbq7.mono bq6.size)
        have lq7 := hbq7.size
        refine mid_intro bq7 ?_
        refine gC_one (i := 6) (by kernel_rfl) rfl ?_
        ·go_wp2_with (go_at_call 46; refine (sNodeT_any 3 (rdx_consT hla ((ra.below kwwu).below bq7).rdp (rdx_consT hlz (rUu.below bq7).rdp rdx_nilT)) 2 rfl (by omega) _ _ zq7).mono ?_; rintro e q8 ⟨A7, c7, rfl, r7q8, hbq8⟩)
         have Zq8 := Zq7.keep hbq8
         have Bq8 := zq7.keep hbq8
         have bq8 : Below wu.heap.size wu q8 := bq7.trans (hbq8.mono bq7.size)
         have lq8 := hbq8.size
         refine mid_intro bq8 ?_
         refine gC_end [8] (lB := [_]) (by simp) (by kernel_rfl) (by kernel_rfl) rfl ?_
         simp only [List.getElem_toArray, List.getElem_cons_zero, List.getElem_cons_succ, Act.put, List.setIfInBounds_toArray, List.set_cons_zero, List.set_cons_succ]
         obtain ⟨d0, d1, d2⟩ := Zq8.three
         have e0 := Zq8.frozen 0
         have e1 := Zq8.frozen 1
         have e2 := Zq8.frozen 2
         have szb : wu.heap.size ≤ q0.heap.size := bq0.size
         go_wp2_with fail
         go_meet
         exact ⟨q0.heap.size, A7, c7, rfl, ((Zq8.set_ 0 _).set_ 1 _).set_ 2 _, rd_set0L Zq8 hvl.out r7q8 _ _ _, ((bq8.setCell szb _).setCell szb _).setCell szb _, szb⟩
     case rest =>
      obtain ⟨gp, Ap, cp, rfl, hPz, rPz, hyz, hgp⟩ := hcut
      clear v2 z0 z1 z2 ua1 ua2 ua3
      have hZz := hZwu.keep hyz
      have gz1 := kwwu.trans (hyz.mono kwwu.size)
      obtain ⟨p0, p1, p2⟩ := hPz.three
      have lpz := hPz.lt
      have lzz := hZwu.lt
      have npz : gp ≠ w.heap.size + 1 := by omega
      go_wp2_with (go_at_call 71; refine (hB.out _ _ _ (hrc.below gz1) rPz).mono ?_; rintro e w8 ⟨k8, n8, A8, l8, c8, rfl, hb8⟩; have hP8 := (hPz.keep hb8).alloc (.cells #[.int .i64 k8, .int .i64 n8, .slice A8 l8 c8] 25); have hZ8 := (hZz.keep hb8).alloc (.cells #[.int .i64 k8, .int .i64 n8, .slice A8 l8 c8] 25); have g8 := (gz1.trans (hb8.mono gz1.size)).alloc (by have := gz1.size; have := hb8.size; omega) (.cells #[.int .i64 k8, .int .i64 n8, .slice A8 l8 c8] 25); have rP8 := (rPz.below hb8).alloc (.cells #[.int .i64 k8, .int .i64 n8, .slice A8 l8 c8] 25); clear p0 p1 p2; obtain ⟨p0, p1, p2⟩ := hP8.three; obtain ⟨d0, d1, d2⟩ := hZ8.three; have e0 := hZ8.frozen 0; have e1 := hZ8.frozen 1; have e2 := hZ8.frozen 2; have lz := hZ8.lt; have lp8 := hP8.lt)
      refine bodyPost_ret (v := .tuple #[.agg #[.int .i64 3, .int .i64 0, .slice Ap 2 cp], .int .i64 (cdB b)]) (by simp [results, Try.results72, go_sem, d0, d1, d2]) rfl ⟨3, 0, Ap, 2, cp, rfl, ?_⟩
      exact ((g8.setCell (by simp <;> omega) _).setCell (by simp <;> omega) _).setCell (by simp <;> omega) _
   ·have hB := hide (fun (A : Option Addr) (c : Nat) (w : World) (hrc : Rd w C 0 ctx) (hr : Rd w A 0 [.mk ka na sa, .mk k1 n1 s1]) => sBound_any ih ctx C cc 3 0 A c ka na sa k1 n1 s1 _ w h3 hva (infR_valid h2) hvc hm hrc hr)
    injection hs with hs
    subst hs
    clear h1 h2 h3 hva hvb hvc ih hcv
    go_enter Try.func72, Try.ntmps72
    go_upto_region 4 with (go_at_call 62; refine (hS1.out _ ((hrc.alloc _).alloc _) ((ra.alloc _).alloc _)).mono ?_; rintro e w1 ⟨rfl, hb1⟩; have hTw1 : Blk w1 w.heap.size #[.int .i64 k, .int .i64 n, .slice (some ⟨bk, ok, none⟩) 2 c] := ((Blk.new_ w 25 #[.int .i64 k, .int .i64 n, .slice (some ⟨bk, ok, none⟩) 2 c] rfl).alloc _).keep hb1; have hZw1 : Blk w1 (w.heap.size + 1) #[.int .i64 0, .int .i64 0, .slice none 0 0] := (Blk.new_ _ 25 #[.int .i64 0, .int .i64 0, .slice none 0 0] (by simp)).keep hb1; have kww1 : Below w.heap.size w w1 := (((Below.refl _ _).alloc (by simp <;> omega) _).alloc (by simp <;> omega) _).trans (hb1.mono (by simp <;> omega)))
    refine name_world ?_
    intro wx hwwx
    have hTwx : Blk wx w.heap.size #[.int .i64 k, .int .i64 n, .slice (some ⟨bk, ok, none⟩) 2 c] := by rw [hwwx]; exact hTw1
    have hZwx : Blk wx (w.heap.size + 1) #[.int .i64 0, .int .i64 0, .slice none 0 0] := by rw [hwwx]; exact hZw1
    have kwwx : Below w.heap.size w wx := by rw [hwwx]; exact kww1
    clear hwwx
    have v2 := rule_of hTwx.three.2.2
    have ua1 := rule_of (Keeps.of_below kwwx _ _ a1)
    have ua2 := rule_of (Keeps.of_below kwwx _ _ a2)
    have ua3 := rule_of (Keeps.of_below kwwx _ _ a3)
    have ub1 := rule_of (Keeps.of_below kwwx _ _ b1)
    have ub2 := rule_of (Keeps.of_below kwwx _ _ b2)
    have ub3 := rule_of (Keeps.of_below kwwx _ _ b3)
    go_cut [8, 9] (fun vp vc wy => ∃ (gz : Nat) (Az : Option Addr) (cz : Nat), vp = .pointer (some ⟨gz, 0, none⟩) ∧ vc = .int .i64 0 ∧ s1.length ≤ 9223372036854775807 ∧ Blk wy gz #[.int .i64 k1, .int .i64 n1, .slice Az s1.length cz] ∧ Rd wy Az 0 s1 ∧ Below wx.heap.size wx wy ∧ wx.heap.size ≤ gz)
    case first =>
     obtain ⟨q0, hq0⟩ : ∃ q0, q0 = wx.drew := ⟨_, rfl⟩
     have bq0 : Below wx.heap.size wx q0 := by rw [hq0]; exact (Below.refl _ _).drew
     refine gC_start (fun w' => Below wx.heap.size wx w') [11, 12, 13, 15, 16] 17 (by kernel_rfl) rfl ?_
     refine gC_take [0, 1, 2, 3, 4, 6, 7, 8, 9] (f := 8) (l' := #[true, true, true, true, true, false, true, true, true, true, false, false, false, false, false, false, false]) (lT := [_, _, _, _, _, _, _, _, _]) (by rw [← hq0]; exact bq0) rfl (by kernel_rfl) (by kernel_rfl) (by kernel_rfl) rfl (fun _ _ d _ _ h => by cases d <;> exact h) ?_
     repeat ((first | ((refine takeY_skip (a' := ?_) ?_ ?_ ?_); (rotate_left); (· (simp [Region.wanted, yielded, Go.undef]; done))) | ((refine takeY_step (v := ?_) (a' := ?_) ?_ ?_ ?_ ?_); (rotate_left 2); (· (simp [Region.wanted, yielded, Go.undef]; done)); (· (intro w' hS'; go_simp; try (with_reducible rfl))))); (· (simp only [List.getElem_toArray, List.getElem_cons_zero, List.getElem_cons_succ, Act.put, List.setIfInBounds_toArray, List.set_cons_zero, List.set_cons_succ]; exact rfl)))
     refine takeY_nil ?_
     rw [← hq0]
     clear hq0
     refine gC_two (i := 5) (j := 14) (by kernel_rfl) rfl rfl ?_ ?_
     ·go_wp2_with (go_at_call 54; refine (hP.out _ ((hrc.below kwwx).below bq0) ((ra.below kwwx).below bq0)).mono ?_; rintro e q1 ⟨D, d, rfl, rDq1, hbq1⟩)
      have bq1 : Below wx.heap.size wx q1 := bq0.trans (hbq1.mono bq0.size)
      have lq1 := hbq1.size
      refine mid_intro bq1 ?_
      refine gC_two (i := 10) (j := 14) (by kernel_rfl) rfl rfl ?_ ?_
      ·go_wp2_with (go_at_call 51; refine (hI.out _ _ _ rDq1 ((rb.below kwwx).below bq1)).mono ?_; rintro e q2 ⟨A1, c1, rfl, hl1, rUq2, hbq2⟩)
       have Dq2 := rDq1.below hbq2
       have bq2 : Below wx.heap.size wx q2 := bq1.trans (hbq2.mono bq1.size)
       have lq2 := hbq2.size
       refine mid_intro bq2 ?_
       refine gC_takeT [11, 12, 13] (f := 3) (l' := #[true, true, true, true, true, true, true, true, true, true, true, true, true, true, false, false, false]) (lT := [_, _, _]) rfl (by kernel_rfl) (by kernel_rfl) (by kernel_rfl) rfl (fun _ _ d _ _ h => by cases d <;> exact h) ?_
       repeat ((first | ((refine takeY_skip (a' := ?_) ?_ ?_ ?_); (rotate_left); (· (simp [Region.wanted, yielded, Go.undef]; done))) | ((refine takeY_step (v := ?_) (a' := ?_) ?_ ?_ ?_ ?_); (rotate_left 2); (· (simp [Region.wanted, yielded, Go.undef]; done)); (· (intro w' hS'; go_simp; try (with_reducible rfl))))); (· (simp only [List.getElem_toArray, List.getElem_cons_zero, List.getElem_cons_succ, Act.put, List.setIfInBounds_toArray, List.set_cons_zero, List.set_cons_succ]; exact rfl)))
       refine takeY_nil ?_
       refine gC_one (i := 14) (by kernel_rfl) rfl ?_
       ·go_wp2_with fail
        refine name_midw ?_
        intro q3 hn
        have hbq3 : Below q2.heap.size q2 q3 := by rw [hn]; exact (Below.refl _ _).alloc (Nat.le_refl _) _
        have zq3 : Blk q3 q2.heap.size #[.int .i64 0, .int .i64 0, .slice none 0 0] := by rw [hn]; exact Blk.new_ _ 25 _ rfl
        have seq3 : q2.heap.size < q3.heap.size := by rw [hn]; simp
        clear hn
        have Dq3 := Dq2.below hbq3
        have Uq3 := rUq2.below hbq3
        have bq3 : Below wx.heap.size wx q3 := bq2.trans (hbq3.mono bq2.size)
        have lq3 := hbq3.size
        refine mid_intro bq3 ?_
        refine gC_end [15, 16] (lB := [_, _]) (by simp) (by kernel_rfl) (by kernel_rfl) rfl ?_
        simp only [List.getElem_toArray, List.getElem_cons_zero, List.getElem_cons_succ, Act.put, List.setIfInBounds_toArray, List.set_cons_zero, List.set_cons_succ]
        obtain ⟨d0, d1, d2⟩ := zq3.three
        have e0 := zq3.frozen 0
        have e1 := zq3.frozen 1
        have e2 := zq3.frozen 2
        have szb : wx.heap.size ≤ q2.heap.size := bq2.size
        go_wp2_with fail
        go_meet
        exact ⟨q2.heap.size, A1, c1, rfl, rfl, hl1, ((zq3.set_ 0 _).set_ 1 _).set_ 2 _, rd_set0 zq3 hv1.out Uq3 _ _ _, ((bq3.setCell szb _).setCell szb _).setCell szb _, szb⟩
      ·go_wp2_with fail
       refine name_midw ?_
       intro q4 hn
       have hbq4 : Below q1.heap.size q1 q4 := by rw [hn]; exact (Below.refl _ _).alloc (Nat.le_refl _) _
       have zq4 : Blk q4 q1.heap.size #[.int .i64 0, .int .i64 0, .slice none 0 0] := by rw [hn]; exact Blk.new_ _ 25 _ rfl
       have seq4 : q1.heap.size < q4.heap.size := by rw [hn]; simp
       clear hn
       have Dq4 := rDq1.below hbq4
       have bq4 : Below wx.heap.size wx q4 := bq1.trans (hbq4.mono bq1.size)
       have lq4 := hbq4.size
       refine mid_intro bq4 ?_
       refine gC_one (i := 10) (by kernel_rfl) rfl ?_
       ·go_wp2_with (go_at_call 51; refine (hI.out _ _ _ Dq4 ((rb.below kwwx).below bq4)).mono ?_; rintro e q5 ⟨A1, c1, rfl, hl1, rUq5, hbq5⟩)
        have Dq5 := Dq4.below hbq5
        have Zq5 := zq4.keep hbq5
        have bq5 : Below wx.heap.size wx q5 := bq4.trans (hbq5.mono bq4.size)
        have lq5 := hbq5.size
        refine mid_intro bq5 ?_
        refine gC_takeT [11, 12, 13] (f := 2) (l' := #[true, true, true, true, true, true, true, true, true, true, true, true, true, true, true, false, false]) (lT := [_, _, _]) rfl (by kernel_rfl) (by kernel_rfl) (by kernel_rfl) rfl (fun _ _ d _ _ h => by cases d <;> exact h) ?_
        repeat ((first | ((refine takeY_skip (a' := ?_) ?_ ?_ ?_); (rotate_left); (· (simp [Region.wanted, yielded, Go.undef]; done))) | ((refine takeY_step (v := ?_) (a' := ?_) ?_ ?_ ?_ ?_); (rotate_left 2); (· (simp [Region.wanted, yielded, Go.undef]; done)); (· (intro w' hS'; go_simp; try (with_reducible rfl))))); (· (simp only [List.getElem_toArray, List.getElem_cons_zero, List.getElem_cons_succ, Act.put, List.setIfInBounds_toArray, List.set_cons_zero, List.set_cons_succ]; exact rfl)))
        refine takeY_nil ?_
        refine gC_end [15, 16] (lB := [_, _]) (by simp) (by kernel_rfl) (by kernel_rfl) rfl ?_
        simp only [List.getElem_toArray, List.getElem_cons_zero, List.getElem_cons_succ, Act.put, List.setIfInBounds_toArray, List.set_cons_zero, List.set_cons_succ]
        obtain ⟨d0, d1, d2⟩ := Zq5.three
        have e0 := Zq5.frozen 0
        have e1 := Zq5.frozen 1
        have e2 := Zq5.frozen 2
        have szb : wx.heap.size ≤ q1.heap.size := bq1.size
        go_wp2_with fail
        go_meet
        exact ⟨q1.heap.size, A1, c1, rfl, rfl, hl1, ((Zq5.set_ 0 _).set_ 1 _).set_ 2 _, rd_set0 Zq5 hv1.out rUq5 _ _ _, ((bq5.setCell szb _).setCell szb _).setCell szb _, szb⟩
     ·go_wp2_with fail
      refine name_midw ?_
      intro q6 hn
      have hbq6 : Below q0.heap.size q0 q6 := by rw [hn]; exact (Below.refl _ _).alloc (Nat.le_refl _) _
      have zq6 : Blk q6 q0.heap.size #[.int .i64 0, .int .i64 0, .slice none 0 0] := by rw [hn]; exact Blk.new_ _ 25 _ rfl
      have seq6 : q0.heap.size < q6.heap.size := by rw [hn]; simp
      clear hn
      have bq6 : Below wx.heap.size wx q6 := bq0.trans (hbq6.mono bq0.size)
      have lq6 := hbq6.size
      refine mid_intro bq6 ?_
      refine gC_one (i := 5) (by kernel_rfl) rfl ?_
      ·go_wp2_with (go_at_call 54; refine (hP.out _ ((hrc.below kwwx).below bq6) ((ra.below kwwx).below bq6)).mono ?_; rintro e q7 ⟨D, d, rfl, rDq7, hbq7⟩)
       have Zq7 := zq6.keep hbq7
       have bq7 : Below wx.heap.size wx q7 := bq6.trans (hbq7.mono bq6.size)
       have lq7 := hbq7.size
       refine mid_intro bq7 ?_
       refine gC_one (i := 10) (by kernel_rfl) rfl ?_
       ·go_wp2_with (go_at_call 51; refine (hI.out _ _ _ rDq7 ((rb.below kwwx).below bq7)).mono ?_; rintro e q8 ⟨A1, c1, rfl, hl1, rUq8, hbq8⟩)
        have Zq8 := Zq7.keep hbq8
        have Dq8 := rDq7.below hbq8
        have bq8 : Below wx.heap.size wx q8 := bq7.trans (hbq8.mono bq7.size)
        have lq8 := hbq8.size
        refine mid_intro bq8 ?_
        refine gC_takeT [11, 12, 13] (f := 2) (l' := #[true, true, true, true, true, true, true, true, true, true, true, true, true, true, true, false, false]) (lT := [_, _, _]) rfl (by kernel_rfl) (by kernel_rfl) (by kernel_rfl) rfl (fun _ _ d _ _ h => by cases d <;> exact h) ?_
        repeat ((first | ((refine takeY_skip (a' := ?_) ?_ ?_ ?_); (rotate_left); (· (simp [Region.wanted, yielded, Go.undef]; done))) | ((refine takeY_step (v := ?_) (a' := ?_) ?_ ?_ ?_ ?_); (rotate_left 2); (· (simp [Region.wanted, yielded, Go.undef]; done)); (· (intro w' hS'; go_simp; try (with_reducible rfl))))); (· (simp only [List.getElem_toArray, List.getElem_cons_zero, List.getElem_cons_succ, Act.put, List.setIfInBounds_toArray, List.set_cons_zero, List.set_cons_succ]; exact rfl)))
        refine takeY_nil ?_
        refine gC_end [15, 16] (lB := [_, _]) (by simp) (by kernel_rfl) (by kernel_rfl) rfl ?_
        simp only [List.getElem_toArray, List.getElem_cons_zero, List.getElem_cons_succ, Act.put, List.setIfInBounds_toArray, List.set_cons_zero, List.set_cons_succ]
        obtain ⟨d0, d1, d2⟩ := Zq8.three
        have e0 := Zq8.frozen 0
        have e1 := Zq8.frozen 1
        have e2 := Zq8.frozen 2
        have szb : wx.heap.size ≤ q0.heap.size := bq0.size
        go_wp2_with fail
        go_meet
        exact ⟨q0.heap.size, A1, c1, rfl, rfl, hl1, ((Zq8.set_ 0 _).set_ 1 _).set_ 2 _, rd_set0 Zq8 hv1.out rUq8 _ _ _, ((bq8.setCell szb _).setCell szb _).setCell szb _, szb⟩
    case rest =>
     obtain ⟨gz, Az, cz, rfl, rfl, hlz, hGy, rUy, hxy, hgz⟩ := hcut
     clear v2 ua1 ua2 ua3 ub1 ub2 ub3
     have hTy := hTwx.keep hxy
     have hZy := hZwx.keep hxy
     have gy := kwwx.trans (hxy.mono kwwx.size)
     go_upto_region 7 with fail
     refine name_world ?_
     intro wu hwu
     have hTwu : Blk wu w.heap.size #[.int .i64 k, .int .i64 n, .slice (some ⟨bk, ok, none⟩) 2 c] := by rw [hwu]; exact hTy
     have hZwu : Blk wu (w.heap.size + 1) #[.int .i64 0, .int .i64 0, .slice none 0 0] := by rw [hwu]; exact hZy
     have hGwu : Blk wu gz #[.int .i64 k1, .int .i64 n1, .slice Az s1.length cz] := by rw [hwu]; exact hGy
     have kwwu : Below w.heap.size w wu := by rw [hwu]; exact gy
     have rUu : Rd wu Az 0 s1 := by rw [hwu]; exact rUy
     clear hwu
     have v2 := rule_of hTwu.three.2.2
     have z0 := rule_of hGwu.three.1
     have z1 := rule_of hGwu.three.2.1
     have z2 := rule_of hGwu.three.2.2
     have ua1 := rule_of (Keeps.of_below kwwu _ _ a1)
     have ua2 := rule_of (Keeps.of_below kwwu _ _ a2)
     have ua3 := rule_of (Keeps.of_below kwwu _ _ a3)
     go_cut [10] (fun vp wz => ∃ (gp : Nat) (Ap : Option Addr) (cp : Nat), vp = .pointer (some ⟨gp, 0, none⟩) ∧ Blk wz gp #[.int .i64 3, .int .i64 0, .slice Ap 2 cp] ∧ Rd wz Ap 0 [.mk ka na sa, .mk k1 n1 s1] ∧ Below wu.heap.size wu wz ∧ wu.heap.size ≤ gp)
     case first =>
      obtain ⟨q0, hq0⟩ : ∃ q0, q0 = wu.drew := ⟨_, rfl⟩
      have bq0 : Below wu.heap.size wu q0 := by rw [hq0]; exact (Below.refl _ _).drew
      refine gC_start (fun w' => Below wu.heap.size wu w') [8] 9 (by kernel_rfl) rfl ?_
      refine gC_take [0, 1, 2, 3, 4] (f := 4) (l' := #[true, true, true, true, true, false, false, false, false]) (lT := [_, _, _, _, _]) (by rw [← hq0]; exact bq0) rfl (by kernel_rfl) (by kernel_rfl) (by kernel_rfl) rfl (fun _ _ d _ _ h => by cases d <;> exact h) ?_
      repeat ((first | ((refine takeY_skip (a' := ?_) ?_ ?_ ?_); (rotate_left); (· (simp [Region.wanted, yielded, Go.undef]; done))) | ((refine takeY_step (v := ?_) (a' := ?_) ?_ ?_ ?_ ?_); (rotate_left 2); (· (simp [Region.wanted, yielded, Go.undef]; done)); (· (intro w' hS'; go_simp; try (with_reducible rfl))))); (· (simp only [List.getElem_toArray, List.getElem_cons_zero, List.getElem_cons_succ, Act.put, List.setIfInBounds_toArray, List.set_cons_zero, List.set_cons_succ]; exact rfl)))
      refine takeY_nil ?_
      rw [← hq0]
      clear hq0
      refine gC_two (i := 5) (j := 7) (by kernel_rfl) rfl rfl ?_ ?_
      ·go_wp2_with fail
       refine name_midw ?_
       intro q1 hn
       have hbq1 : Below q0.heap.size q0 q1 := by rw [hn]; exact (Below.refl _ _).alloc (Nat.le_refl _) _
       have zq1 : Blk q1 q0.heap.size #[.int .i64 ka, .int .i64 na, .slice Aa sa.length ca, .int .i64 k1, .int .i64 n1, .slice Az s1.length cz] := by rw [hn]; exact Blk.new_ _ 25 _ rfl
       have seq1 : q0.heap.size < q1.heap.size := by rw [hn]; simp
       clear hn
       have bq1 : Below wu.heap.size wu q1 := bq0.trans (hbq1.mono bq0.size)
       have lq1 := hbq1.size
       refine mid_intro bq1 ?_
       refine gC_two (i := 6) (j := 7) (by kernel_rfl) rfl rfl ?_ ?_
       ·go_wp2_with (go_at_call 46; refine (sNodeT_any 3 (rdx_consT hla ((ra.below kwwu).below bq1).rdp (rdx_consT hlz (rUu.below bq1).rdp rdx_nilT)) 2 rfl (by omega) _ _ zq1).mono ?_; rintro e q2 ⟨A7, c7, rfl, r7q2, hbq2⟩)
        have Bq2 := zq1.keep hbq2
        have bq2 : Below wu.heap.size wu q2 := bq1.trans (hbq2.mono bq1.size)
        have lq2 := hbq2.size
        refine mid_intro bq2 ?_
        refine gC_one (i := 7) (by kernel_rfl) rfl ?_
        ·go_wp2_with fail
         refine name_midw ?_
         intro q3 hn
         have hbq3 : Below q2.heap.size q2 q3 := by rw [hn]; exact (Below.refl _ _).alloc (Nat.le_refl _) _
         have zq3 : Blk q3 q2.heap.size #[.int .i64 0, .int .i64 0, .slice none 0 0] := by rw [hn]; exact Blk.new_ _ 25 _ rfl
         have seq3 : q2.heap.size < q3.heap.size := by rw [hn]; simp
         clear hn
         have Bq3 := Bq2.keep hbq3
         have Nq3 := r7q2.below hbq3
         have bq3 : Below wu.heap.size wu q3 := bq2.trans (hbq3.mono bq2.size)
         have lq3 := hbq3.size
         refine mid_intro bq3 ?_
         refine gC_end [8] (lB := [_]) (by simp) (by kernel_rfl) (by kernel_rfl) rfl ?_
         simp only [List.getElem_toArray, List.getElem_cons_zero, List.getElem_cons_succ, Act.put, List.setIfInBounds_toArray, List.set_cons_zero, List.set_cons_succ]
         obtain ⟨d0, d1, d2⟩ := zq3.three
         have e0 := zq3.frozen 0
         have e1 := zq3.frozen 1
         have e2 := zq3.frozen 2
         have szb : wu.heap.size ≤ q2.heap.size := bq2.size
         go_wp2_with fail
         go_meet
         exact ⟨q2.heap.size, A7, c7, rfl, ((zq3.set_ 0 _).set_ 1 _).set_ 2 _, rd_set0L zq3 hvl.out Nq3 _ _ _, ((bq3.setCell szb _).setCell szb _).setCell szb _, szb⟩
       ·go_wp2_with fail
        refine name_midw ?_
        intro q4 hn
        have hbq4 : Below q1.heap.size q1 q4 := by rw [hn]; exact (Below.refl _ _).alloc (Nat.le_refl _) _
        have zq4 : Blk q4 q1.heap.size #[.int .i64 0, .int .i64 0, .slice none 0 0] := by rw [hn]; exact Blk.new_ _ 25 _ rfl
        have seq4 : q1.heap.size < q4.heap.size := by rw [hn]; simp
        clear hn
        have Bq4 := zq1.keep hbq4
        have bq4 : Below wu.heap.size wu q4 := bq1.trans (hbq4.mono bq1.size)
        have lq4 := hbq4.size
        refine mid_intro bq4 ?_
        refine gC_one (i := 6) (by kernel_rfl) rfl ?_
        ·go_wp2_with (go_at_call 46; refine (sNodeT_any 3 (rdx_consT hla ((ra.below kwwu).below bq4).rdp (rdx_consT hlz (rUu.below bq4).rdp rdx_nilT)) 2 rfl (by omega) _ _ Bq4).mono ?_; rintro e q5 ⟨A7, c7, rfl, r7q5, hbq5⟩)
         have Bq5 := Bq4.keep hbq5
         have Zq5 := zq4.keep hbq5
         have bq5 : Below wu.heap.size wu q5 := bq4.trans (hbq5.mono bq4.size)
         have lq5 := hbq5.size
         refine mid_intro bq5 ?_
         refine gC_end [8] (lB := [_]) (by simp) (by kernel_rfl) (by kernel_rfl) rfl ?_
         simp only [List.getElem_toArray, List.getElem_cons_zero, List.getElem_cons_succ, Act.put, List.setIfInBounds_toArray, List.set_cons_zero, List.set_cons_succ]
         obtain ⟨d0, d1, d2⟩ := Zq5.three
         have e0 := Zq5.frozen 0
         have e1 := Zq5.frozen 1
         have e2 := Zq5.frozen 2
         have szb : wu.heap.size ≤ q1.heap.size := bq1.size
         go_wp2_with fail
         go_meet
         exact ⟨q1.heap.size, A7, c7, rfl, ((Zq5.set_ 0 _).set_ 1 _).set_ 2 _, rd_set0L Zq5 hvl.out r7q5 _ _ _, ((bq5.setCell szb _).setCell szb _).setCell szb _, szb⟩
      ·go_wp2_with fail
       refine name_midw ?_
       intro q6 hn
       have hbq6 : Below q0.heap.size q0 q6 := by rw [hn]; exact (Below.refl _ _).alloc (Nat.le_refl _) _
       have zq6 : Blk q6 q0.heap.size #[.int .i64 0, .int .i64 0, .slice none 0 0] := by rw [hn]; exact Blk.new_ _ 25 _ rfl
       have seq6 : q0.heap.size < q6.heap.size := by rw [hn]; simp
       clear hn
       have bq6 : Below wu.heap.size wu q6 := bq0.trans (hbq6.mono bq0.size)
       have lq6 := hbq6.size
       refine mid_intro bq6 ?_
       refine gC_one (i := 5) (by kernel_rfl) rfl ?_
       ·go_wp2_with fail
        refine name_midw ?_
        intro q7 hn
        have hbq7 : Below q6.heap.size q6 q7 := by rw [hn]; exact (Below.refl _ _).alloc (Nat.le_refl _) _
        have zq7 : Blk q7 q6.heap.size #[.int .i64 ka, .int .i64 na, .slice Aa sa.length ca, .int .i64 k1, .int .i64 n1, .slice Az s1.length cz] := by rw [hn]; exact Blk.new_ _ 25 _ rfl
        have seq7 : q6.heap.size < q7.heap.size := by rw [hn]; simp
        clear hn
        have Zq7 := zq6.keep hbq7
        have bq7 : Below wu.heap.size wu q7 := bq6.trans (hbq7.mono bq6.size)
        have lq7 := hbq7.size
        refine mid_intro bq7 ?_
        refine gC_one (i := 6) (by kernel_rfl) rfl ?_
        ·go_wp2_with (go_at_call 46; refine (sNodeT_any 3 (rdx_consT hla ((ra.below kwwu).below bq7).rdp (rdx_consT hlz (rUu.below bq7).rdp rdx_nilT)) 2 rfl (by omega) _ _ zq7).mono ?_; rintro e q8 ⟨A7, c7, rfl, r7q8, hbq8⟩)
         have Zq8 := Zq7.keep hbq8
         have Bq8 := zq7.keep hbq8
         have bq8 : Below wu.heap.size wu q8 := bq7.trans (hbq8.mono bq7.size)
         have lq8 := hbq8.size
         refine mid_intro bq8 ?_
         refine gC_end [8] (lB := [_]) (by simp) (by kernel_rfl) (by kernel_rfl) rfl ?_
         simp only [List.getElem_toArray, List.getElem_cons_zero, List.getElem_cons_succ, Act.put, List.setIfInBounds_toArray, List.set_cons_zero, List.set_cons_succ]
         obtain ⟨d0, d1, d2⟩ := Zq8.three
         have e0 := Zq8.frozen 0
         have e1 := Zq8.frozen 1
         have e2 := Zq8.frozen 2
         have szb : wu.heap.size ≤ q0.heap.size := bq0.size
         go_wp2_with fail
         go_meet
         exact ⟨q0.heap.size, A7, c7, rfl, ((Zq8.set_ 0 _).set_ 1 _).set_ 2 _, rd_set0L Zq8 hvl.out r7q8 _ _ _, ((bq8.setCell szb _).setCell szb _).setCell szb _, szb⟩
     case rest =>
      obtain ⟨gp, Ap, cp, rfl, hPz, rPz, hyz, hgp⟩ := hcut
      clear v2 z0 z1 z2 ua1 ua2 ua3
      have hZz := hZwu.keep hyz
      have gz1 := kwwu.trans (hyz.mono kwwu.size)
      obtain ⟨p0, p1, p2⟩ := hPz.three
      have lpz := hPz.lt
      have lzz := hZwu.lt
      have npz : gp ≠ w.heap.size + 1 := by omega
      go_wp2_with (go_at_call 71; refine (hB.out _ _ _ (hrc.below gz1) rPz).mono ?_; rintro e w8 ⟨A8, c8, rfl, hl8, r8, hb8⟩; have hP8 := (hPz.keep hb8).alloc (.cells #[.int .i64 k8, .int .i64 n8, .slice A8 s8.length c8] 25); have hZ8 := (hZz.keep hb8).alloc (.cells #[.int .i64 k8, .int .i64 n8, .slice A8 s8.length c8] 25); have g8 := (gz1.trans (hb8.mono gz1.size)).alloc (by have := gz1.size; have := hb8.size; omega) (.cells #[.int .i64 k8, .int .i64 n8, .slice A8 s8.length c8] 25); have rP8 := (rPz.below hb8).alloc (.cells #[.int .i64 k8, .int .i64 n8, .slice A8 s8.length c8] 25); clear p0 p1 p2; obtain ⟨p0, p1, p2⟩ := hP8.three; obtain ⟨d0, d1, d2⟩ := hZ8.three; have e0 := hZ8.frozen 0; have e1 := hZ8.frozen 1; have e2 := hZ8.frozen 2; have lz := hZ8.lt; have lp8 := hP8.lt)
      refine bodyPost_ret (v := .tuple #[.agg #[.int .i64 3, .int .i64 0, .slice Ap 2 cp], .int .i64 0]) (by simp [results, Try.results72, go_sem, d0, d1, d2]) rfl ⟨Ap, cp, rfl, by simp, rd_set0L hZ8 hvl.out rP8 _ _ _, ?_⟩
      exact ((g8.setCell (by simp <;> omega) _).setCell (by simp <;> omega) _).setCell (by simp <;> omega) _
end Go.Proofs.Ytddkehjdjfmhmaa
