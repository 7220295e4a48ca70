/-
 Contracts of the functions that the law reaches, and plain lemmas. No condition.
-/
import Derived.Test.YtddkehjdjfmhmaaK24
namespace Go.Proofs.Ytddkehjdjfmhmaa
set_option linter.unusedSimpArgs false
set_option linter.unusedVariables false
open Go.RowKit
def KE (W : World) (z : Nat) (w' : World) : Prop := W.heap.size ≤ w'.heap.size ∧ ∀ b, b < W.heap.size → b ≠ z → w'.heap[b]? = W.heap[b]?
theorem KE.of {W w' : World} (z : Nat) (h : Below W.heap.size W w') : KE W z w' := ⟨h.size, fun b hb _ => h.block b hb⟩
theorem KE.set {W w' : World} {z : Nat} (h : KE W z w') (o : Nat) (v : Value) : KE W z (w'.setCell ⟨z, o, none⟩ v) := ⟨by simp; exact h.1, fun b hb hz => (Below.heap_setCell _ ⟨z, o, none⟩ _ b hz).trans (h.2 b hb hz)⟩
theorem rule_ke {W : World} {z b o : Nat} {v : Value} (hc : W.cell? ⟨b, o, none⟩ = some v) (hz : b ≠ z) : ∀ w', KE W z w' → w'.cell? ⟨b, o, none⟩ = some v := fun w' h => by
 have hb := World.block_lt_of_cell? _ _ hc
 rw [← hc]
 simp only [World.cell?, h.2 b hb hz]
theorem bh_ne {w : World} {z o : Nat} {k n : Int} {ks : List Tm} (hZ : Blk w z #[.int .i64 0, .int .i64 0, .slice none 0 0]) (hv : validT (.mk k n ks) = true) (hc : w.cell? ⟨z, o, none⟩ = some (.int .i64 k)) : False := by
 obtain ⟨q, _, ha, _, _, _⟩ := shape_pos (validT_shape30 hv)
 have h0 : k ≠ 0 := by rintro rfl; have : arity 0 = -1 := rfl; omega
 rw [hZ.cell] at hc
 rcases o with _ | _ | _ | o
 ·simp at hc; exact h0 hc.symm
 ·simp at hc; exact h0 hc.symm
 ·simp at hc
 ·simp at hc
set_option maxRecDepth 100000 in
set_option maxHeartbeats 8000000 in
theorem sId_any {N : Nat} (ih : InfC N) (ctx : List Tm) (C : Option Addr) (cc : Nat) (k n : Int) (A : Option Addr) (c : Nat) (ka na : Int) (sa : List Tm) (kx nx : Int) (sx : List Tm) (ky ny : Int) (sy : List Tm) (r : Rs Tm) (w : World) (hs : idnR (infR N) ctx (.mk ka na sa) (.mk kx nx sx) (.mk ky ny sy) = some r) (hva : validT (.mk ka na sa) = true) (hvx : validT (.mk kx nx sx) = true) (hvy : validT (.mk ky ny sy) = true) (hvc : ∀ u, u ∈ ctx → validT u = true) (hm : ctx.length ≤ 20) (hrc : Rd w C 0 ctx) (hr : Rd w A 0 [.mk ka na sa, .mk kx nx sx, .mk ky ny sy]) :
  Calls Try.prog 75 #[.slice C ctx.length cc, .agg #[.int .i64 k, .int .i64 n, .slice A 3 c]] w (GtT w r) := by
 have hsza := validT_size' hva
 obtain ⟨bk, ok, x1, x2, x3, Aa, ca, rfl, hk1, a1, a2, a3, hla, ra⟩ := hr.at_ (j := 0) (by simp)
 injection hk1 with e1 e2 e3
 subst e1 e2 e3
 obtain ⟨bb, ob, x1, x2, x3, Ax, cx, hAb, hk1, x1, x2, x3, hlx, rx⟩ := hr.at_ (j := 1) (by simp)
 injection hk1 with e1 e2 e3
 injection hAb with hA
 injection hA with hA1 hA2
 subst e1 e2 e3 hA1 hA2
 obtain ⟨bb, ob, x1, x2, x3, Ay, cy, hAb, hk1, y1, y2, y3, hly, ry⟩ := hr.at_ (j := 2) (by simp)
 injection hk1 with e1 e2 e3
 injection hAb with hA
 injection hA with hA1 hA2
 subst e1 e2 e3 hA1 hA2
 simp only [Nat.zero_mul, Nat.add_zero, Nat.one_mul, Nat.reduceMul] at a1 a2 a3 x1 x2 x3 y1 y2 y3
 have lbp := World.block_lt_of_cell? _ _ a1
 rcases bd_inv hs with ⟨b, h1, rfl⟩ | ⟨li, h1, hs⟩
 ·have hS1 := hide (fun (w : World) (hrc : Rd w C 0 ctx) (hra : Rd w Aa 0 sa) => sSort_any ih ctx C cc ka na sa Aa ca _ w h1 hva hvc (by omega) hrc hra)
  have qb := cdB_q2 b
  clear hs h1 hva hvx hvy hvc ih
  go_enter Try.func75, Try.ntmps75
  go_wp2_with (first
   | (go_at_call 28; have _t := tok; refine (sLeaf_any _ _ _).mono ?_; rintro e w9 ⟨rfl, hb9⟩; have hZ9 := hZw1.keep hb9; clear d0 d1 d2 e0 e1 e2 lz; obtain ⟨d0, d1, d2⟩ := hZ9.three; have e0 := hZ9.frozen 0; have e1 := hZ9.frozen 1; have e2 := hZ9.frozen 2; have lz := hZ9.lt; have g9 := kww1.trans (hb9.mono kww1.size))
   | (go_at_call 62; refine (hS1.out _ ((hrc.alloc _).alloc _) ((ra.alloc _).alloc _)).mono ?_; rintro e w1 ⟨l1, rfl, hb1⟩; have hTw1 : Blk w1 w.heap.size #[.int .i64 k, .int .i64 n, .slice (some ⟨bk, ok, none⟩) 3 c] := ((Blk.new_ w 25 #[.int .i64 k, .int .i64 n, .slice (some ⟨bk, ok, none⟩) 3 c] rfl).alloc _).keep hb1; have hZw1 : Blk w1 (w.heap.size + 1) #[.int .i64 0, .int .i64 0, .slice none 0 0] := (Blk.new_ _ 25 #[.int .i64 0, .int .i64 0, .slice none 0 0] (by simp)).keep hb1; have kww1 : Below w.heap.size w w1 := (((Below.refl _ _).alloc (by simp <;> omega) _).alloc (by simp <;> omega) _).trans (hb1.mono (by simp <;> omega)); have ltw := hTw1.lt; obtain ⟨d0, d1, d2⟩ := hZw1.three; have e0 := hZw1.frozen 0; have e1 := hZw1.frozen 1; have e2 := hZw1.frozen 2; have lz := hZw1.lt; have tok := trivial))
  refine bodyPost_ret (v := .tuple #[.agg #[.int .i64 2, .int .i64 l1, .slice none 0 0], .int .i64 (cdB b)]) (by simp [results, Try.results75, go_sem, d0, d1, d2]) rfl ⟨2, l1, none, 0, 0, rfl, ?_⟩
  exact ((g9.setCell (by simp <;> omega) _).setCell (by simp <;> omega) _).setCell (by simp <;> omega) _
 ·have hS1 := hide (fun (w : World) (hrc : Rd w C 0 ctx) (hra : Rd w Aa 0 sa) => sSort_any ih ctx C cc ka na sa Aa ca _ w h1 hva hvc (by omega) hrc hra)
  rcases bd_inv hs with ⟨b, h2, rfl⟩ | ⟨u1, h2, hs⟩
  ·have hC1 := hide (fun (A2 : Option Addr) (c2 : Nat) (w : World) (hrc : Rd w C 0 ctx) (hrt : Rd w Ax 0 sx) (hr2 : Rd w A2 0 sa) => sCheck_any ih ctx C cc kx nx sx Ax cx ka na sa A2 c2 _ w h2 hvx hvc (by omega) hrc hrt (by omega) hr2)
   have qb := cdB_q2 b
   clear hs h1 h2 hva hvx hvy hvc ih
   go_enter Try.func75, Try.ntmps75
   go_upto_region 3 with (go_at_call 62; refine (hS1.out _ ((hrc.alloc _).alloc _) ((ra.alloc _).alloc _)).mono ?_; rintro e w1 ⟨rfl, hb1⟩; have hTw1 : Blk w1 w.heap.size #[.int .i64 k, .int .i64 n, .slice (some ⟨bk, ok, none⟩) 3 c] := ((Blk.new_ w 25 #[.int .i64 k, .int .i64 n, .slice (some ⟨bk, ok, none⟩) 3 c] rfl).alloc _).keep hb1; have hZw1 : Blk w1 (w.heap.size + 1) #[.int .i64 0, .int .i64 0, .slice none 0 0] := (Blk.new_ _ 25 #[.int .i64 0, .int .i64 0, .slice none 0 0] (by simp)).keep hb1; have kww1 : Below w.heap.size w w1 := (((Below.refl _ _).alloc (by simp <;> omega) _).alloc (by simp <;> omega) _).trans (hb1.mono (by simp <;> omega)); have ltw := hTw1.lt)
   refine name_world ?_
   intro wx hwwx
   have hTwx : Blk wx w.heap.size #[.int .i64 k, .int .i64 n, .slice (some ⟨bk, ok, none⟩) 3 c] := by rw [hwwx]; exact hTw1
   have hZwx : Blk wx (w.heap.size + 1) #[.int .i64 0, .int .i64 0, .slice none 0 0] := by rw [hwwx]; exact hZw1
   have kwwx : Below w.heap.size w wx := by rw [hwwx]; exact kww1
   clear hwwx
   have v2 := rule_of hTwx.three.2.2
   have ux1 := rule_of (Keeps.of_below kwwx _ _ x1)
   have ux2 := rule_of (Keeps.of_below kwwx _ _ x2)
   have ux3 := rule_of (Keeps.of_below kwwx _ _ x3)
   have ua1 := rule_of (Keeps.of_below kwwx _ _ a1)
   have ua2 := rule_of (Keeps.of_below kwwx _ _ a2)
   have ua3 := rule_of (Keeps.of_below kwwx _ _ a3)
   obtain ⟨q0, hq0⟩ : ∃ q0, q0 = wx.drew := ⟨_, rfl⟩
   have bq0 : Below wx.heap.size wx q0 := by rw [hq0]; exact (Below.refl _ _).drew
   refine gC_start (fun w' => Below wx.heap.size wx w') [10] 11 (by kernel_rfl) rfl ?_
   refine gC_take [0, 1, 2, 3, 4, 5, 6, 7, 8] (f := 2) (l' := #[true, true, true, true, true, true, true, true, true, false, false]) (lT := [_, _, _, _, _, _, _, _, _]) (by rw [← hq0]; exact bq0) rfl (by kernel_rfl) (by kernel_rfl) (by kernel_rfl) rfl (fun _ _ d _ _ h => by cases d <;> exact h) ?_
   repeat ((first | ((refine takeY_skip (a' := ?_) ?_ ?_ ?_); (rotate_left); (· (simp [Region.wanted, yielded, Go.undef]; done))) | ((refine takeY_step (v := ?_) (a' := ?_) ?_ ?_ ?_ ?_); (rotate_left 2); (· (simp [Region.wanted, yielded, Go.undef]; done)); (· (intro w' hS'; go_simp; try (with_reducible rfl))))); (· (simp only [List.getElem_toArray, List.getElem_cons_zero, List.getElem_cons_succ, Act.put, List.setIfInBounds_toArray, List.set_cons_zero, List.set_cons_succ]; exact rfl)))
   refine takeY_nil ?_
   rw [← hq0]
   clear hq0
   refine gC_one (i := 9) (by kernel_rfl) rfl ?_
   ·go_wp2_with (go_at_call 86; refine (hC1.out _ _ _ ((hrc.below kwwx).below bq0) ((rx.below kwwx).below bq0) ((ra.below kwwx).below bq0)).mono ?_; rintro e q1 ⟨he, hbq1⟩; obtain rfl : e = .returned (.int .i64 (cdB b)) := he)
    have bq1 : Below wx.heap.size wx q1 := bq0.trans (hbq1.mono bq0.size)
    have lq1 := hbq1.size
    refine mid_intro bq1 ?_
    refine gC_end [10] (lB := [_]) (by simp) (by kernel_rfl) (by kernel_rfl) rfl ?_
    simp only [List.getElem_toArray, List.getElem_cons_zero, List.getElem_cons_succ, Act.put, List.setIfInBounds_toArray, List.set_cons_zero, List.set_cons_succ]
    have hTq1 := hTwx.keep bq1
    have hZq1 := hZwx.keep bq1
    have kwq1 := kwwx.trans (bq1.mono kwwx.size)
    have kwxq1 := bq1
    obtain ⟨d0, d1, d2⟩ := hZq1.three
    have e0 := hZq1.frozen 0
    have e1 := hZq1.frozen 1
    have e2 := hZq1.frozen 2
    have lz := hZq1.lt
    go_wp2_with (go_at_call 28; refine (sLeaf_any _ _ _).mono ?_; rintro e w9 ⟨rfl, hb9⟩; have hZ9 := hZq1.keep hb9; clear d0 d1 d2 e0 e1 e2 lz; obtain ⟨d0, d1, d2⟩ := hZ9.three; have e0 := hZ9.frozen 0; have e1 := hZ9.frozen 1; have e2 := hZ9.frozen 2; have lz := hZ9.lt; have g9 := kwq1.trans (hb9.mono kwq1.size))
    refine bodyPost_ret (v := .tuple #[.agg #[.int .i64 2, .int .i64 li, .slice none 0 0], .int .i64 (cdB b)]) (by simp [results, Try.results75, go_sem, d0, d1, d2]) rfl ⟨2, li, none, 0, 0, rfl, ?_⟩
    exact ((g9.setCell (by simp <;> omega) _).setCell (by simp <;> omega) _).setCell (by simp <;> omega) _
  ·have hC1 := hide (fun (A2 : Option Addr) (c2 : Nat) (w : World) (hrc : Rd w C 0 ctx) (hrt : Rd w Ax 0 sx) (hr2 : Rd w A2 0 sa) => sCheck_any ih ctx C cc kx nx sx Ax cx ka na sa A2 c2 _ w h2 hvx hvc (by omega) hrc hrt (by omega) hr2)
   rcases bd_inv hs with ⟨b, h3, rfl⟩ | ⟨u2, h3, hs⟩
   ·have hC2 := hide (fun (A2 : Option Addr) (c2 : Nat) (w : World) (hrc : Rd w C 0 ctx) (hrt : Rd w Ay 0 sy) (hr2 : Rd w A2 0 sa) => sCheck_any ih ctx C cc ky ny sy Ay cy ka na sa A2 c2 _ w h3 hvy hvc (by omega) hrc hrt (by omega) hr2)
    have qb := cdB_q2 b
    clear hs h1 h2 h3 hva hvx hvy hvc ih
    go_enter Try.func75, Try.ntmps75
    go_upto_region 3 with (go_at_call 62; refine (hS1.out _ ((hrc.alloc _).alloc _) ((ra.alloc _).alloc _)).mono ?_; rintro e w1 ⟨rfl, hb1⟩; have hTw1 : Blk w1 w.heap.size #[.int .i64 k, .int .i64 n, .slice (some ⟨bk, ok, none⟩) 3 c] := ((Blk.new_ w 25 #[.int .i64 k, .int .i64 n, .slice (some ⟨bk, ok, none⟩) 3 c] rfl).alloc _).keep hb1; have hZw1 : Blk w1 (w.heap.size + 1) #[.int .i64 0, .int .i64 0, .slice none 0 0] := (Blk.new_ _ 25 #[.int .i64 0, .int .i64 0, .slice none 0 0] (by simp)).keep hb1; have kww1 : Below w.heap.size w w1 := (((Below.refl _ _).alloc (by simp <;> omega) _).alloc (by simp <;> omega) _).trans (hb1.mono (by simp <;> omega)); have ltw := hTw1.lt)
    refine name_world ?_
    intro wx hwwx
    have hTwx : Blk wx w.heap.size #[.int .i64 k, .int .i64 n, .slice (some ⟨bk, ok, none⟩) 3 c] := by rw [hwwx]; exact hTw1
    have hZwx : Blk wx (w.heap.size + 1) #[.int .i64 0, .int .i64 0, .slice none 0 0] := by rw [hwwx]; exact hZw1
    have kwwx : Below w.heap.size w wx := by rw [hwwx]; exact kww1
    clear hwwx
    have v2 := rule_of hTwx.three.2.2
    have ux1 := rule_of (Keeps.of_below kwwx _ _ x1)
    have ux2 := rule_of (Keeps.of_below kwwx _ _ x2)
    have ux3 := rule_of (Keeps.of_below kwwx _ _ x3)
    have ua1 := rule_of (Keeps.of_below kwwx _ _ a1)
    have ua2 := rule_of (Keeps.of_below kwwx _ _ a2)
    have ua3 := rule_of (Keeps.of_below kwwx _ _ a3)
    obtain ⟨q0, hq0⟩ : ∃ q0, q0 = wx.drew := ⟨_, rfl⟩
    have bq0 : Below wx.heap.size wx q0 := by rw [hq0]; exact (Below.refl _ _).drew
    refine gC_start (fun w' => Below wx.heap.size wx w') [10] 11 (by kernel_rfl) rfl ?_
    refine gC_take [0, 1, 2, 3, 4, 5, 6, 7, 8] (f := 2) (l' := #[true, true, true, true, true, true, true, true, true, false, false]) (lT := [_, _, _, _, _, _, _, _, _]) (by rw [← hq0]; exact bq0) rfl (by kernel_rfl) (by kernel_rfl) (by kernel_rfl) rfl (fun _ _ d _ _ h => by cases d <;> exact h) ?_
    repeat ((first | ((refine takeY_skip (a' := ?_) ?_ ?_ ?_); (rotate_left); (· (simp [Region.wanted, yielded, Go.undef]; done))) | ((refine takeY_step (v := ?_) (a' := ?_) ?_ ?_ ?_ ?_); (rotate_left 2); (· (simp [Region.wanted, yielded, Go.undef]; done)); (· (intro w' hS'; go_simp; try (with_reducible rfl))))); (· (simp only [List.getElem_toArray, List.getElem_cons_zero, List.getElem_cons_succ, Act.put, List.setIfInBounds_toArray, List.set_cons_zero, List.set_cons_succ]; exact rfl)))
    refine takeY_nil ?_
    rw [← hq0]
    clear hq0
    refine gC_one (i := 9) (by kernel_rfl) rfl ?_
    ·go_wp2_with (go_at_call 86; refine (hC1.out _ _ _ ((hrc.below kwwx).below bq0) ((rx.below kwwx).below bq0) ((ra.below kwwx).below bq0)).mono ?_; rintro e q1 ⟨he, hbq1⟩; obtain rfl : e = .returned (.int .i64 0) := he)
     have bq1 : Below wx.heap.size wx q1 := bq0.trans (hbq1.mono bq0.size)
     have lq1 := hbq1.size
     refine mid_intro bq1 ?_
     refine gC_end [10] (lB := [_]) (by simp) (by kernel_rfl) (by kernel_rfl) rfl ?_
     simp only [List.getElem_toArray, List.getElem_cons_zero, List.getElem_cons_succ, Act.put, List.setIfInBounds_toArray, List.set_cons_zero, List.set_cons_succ]
     have hTq1 := hTwx.keep bq1
     have hZq1 := hZwx.keep bq1
     have kwq1 := kwwx.trans (bq1.mono kwwx.size)
     have kwxq1 := bq1
     go_upto_region 5 with fail
     refine name_world ?_
     intro wu hwwu
     have hTwu : Blk wu w.heap.size #[.int .i64 k, .int .i64 n, .slice (some ⟨bk, ok, none⟩) 3 c] := by rw [hwwu]; exact hTq1
     have hZwu : Blk wu (w.heap.size + 1) #[.int .i64 0, .int .i64 0, .slice none 0 0] := by rw [hwwu]; exact hZq1
     have kwwu : Below w.heap.size w wu := by rw [hwwu]; exact kwq1
     have kwxwu : Below wx.heap.size wx wu := by rw [hwwu]; exact kwxq1
     clear hwwu
     clear v2 ux1 ux2 ux3 ua1 ua2 ua3
     have v2 := rule_of hTwu.three.2.2
     have uy1 := rule_of (Keeps.of_below kwwu _ _ y1)
     have uy2 := rule_of (Keeps.of_below kwwu _ _ y2)
     have uy3 := rule_of (Keeps.of_below kwwu _ _ y3)
     have ua1 := rule_of (Keeps.of_below kwwu _ _ a1)
     have ua2 := rule_of (Keeps.of_below kwwu _ _ a2)
     have ua3 := rule_of (Keeps.of_below kwwu _ _ a3)
     obtain ⟨q0, hq0⟩ : ∃ q0, q0 = wu.drew := ⟨_, rfl⟩
     have bq0 : Below wu.heap.size wu q0 := by rw [hq0]; exact (Below.refl _ _).drew
     refine gC_start (fun w' => Below wu.heap.size wu w') [10] 11 (by kernel_rfl) rfl ?_
     refine gC_take [0, 1, 2, 3, 4, 5, 6, 7, 8] (f := 2) (l' := #[true, true, true, true, true, true, true, true, true, false, false]) (lT := [_, _, _, _, _, _, _, _, _]) (by rw [← hq0]; exact bq0) rfl (by kernel_rfl) (by kernel_rfl) (by kernel_rfl) rfl (fun _ _ d _ _ h => by cases d <;> exact h) ?_
     repeat ((first | ((refine takeY_skip (a' := ?_) ?_ ?_ ?_); (rotate_left); (· (simp [Region.wanted, yielded, Go.undef]; done))) | ((refine takeY_step (v := ?_) (a' := ?_) ?_ ?_ ?_ ?_); (rotate_left 2); (· (simp [Region.wanted, yielded, Go.undef]; done)); (· (intro w' hS'; go_simp; try (with_reducible rfl))))); (· (simp only [List.getElem_toArray, List.getElem_cons_zero, List.getElem_cons_succ, Act.put, List.setIfInBounds_toArray, List.set_cons_zero, List.set_cons_succ]; exact rfl)))
     refine takeY_nil ?_
     rw [← hq0]
     clear hq0
     refine gC_one (i := 9) (by kernel_rfl) rfl ?_
     ·go_wp2_with (go_at_call 86; refine (hC2.out _ _ _ ((hrc.below kwwu).below bq0) ((ry.below kwwu).below bq0) ((ra.below kwwu).below bq0)).mono ?_; rintro e q1 ⟨he, hbq1⟩; obtain rfl : e = .returned (.int .i64 (cdB b)) := he)
      have bq1 : Below wu.heap.size wu q1 := bq0.trans (hbq1.mono bq0.size)
      have lq1 := hbq1.size
      refine mid_intro bq1 ?_
      refine gC_end [10] (lB := [_]) (by simp) (by kernel_rfl) (by kernel_rfl) rfl ?_
      simp only [List.getElem_toArray, List.getElem_cons_zero, List.getElem_cons_succ, Act.put, List.setIfInBounds_toArray, List.set_cons_zero, List.set_cons_succ]
      have hTq1 := hTwu.keep bq1
      have hZq1 := hZwu.keep bq1
      have kwq1 := kwwu.trans (bq1.mono kwwu.size)
      have kwxq1 := kwxwu.trans (bq1.mono kwxwu.size)
      have kwuq1 := bq1
      obtain ⟨d0, d1, d2⟩ := hZq1.three
      have e0 := hZq1.frozen 0
      have e1 := hZq1.frozen 1
      have e2 := hZq1.frozen 2
      have lz := hZq1.lt
      go_wp2_with (go_at_call 28; refine (sLeaf_any _ _ _).mono ?_; rintro e w9 ⟨rfl, hb9⟩; have hZ9 := hZq1.keep hb9; clear d0 d1 d2 e0 e1 e2 lz; obtain ⟨d0, d1, d2⟩ := hZ9.three; have e0 := hZ9.frozen 0; have e1 := hZ9.frozen 1; have e2 := hZ9.frozen 2; have lz := hZ9.lt; have g9 := kwq1.trans (hb9.mono kwq1.size))
      refine bodyPost_ret (v := .tuple #[.agg #[.int .i64 2, .int .i64 li, .slice none 0 0], .int .i64 (cdB b)]) (by simp [results, Try.results75, go_sem, d0, d1, d2]) rfl ⟨2, li, none, 0, 0, rfl, ?_⟩
      exact ((g9.setCell (by simp <;> omega) _).setCell (by simp <;> omega) _).setCell (by simp <;> omega) _
   ·have hC2 := hide (fun (A2 : Option Addr) (c2 : Nat) (w : World) (hrc : Rd w C 0 ctx) (hrt : Rd w Ay 0 sy) (hr2 : Rd w A2 0 sa) => sCheck_any ih ctx C cc ky ny sy Ay cy ka na sa A2 c2 _ w h3 hvy hvc (by omega) hrc hrt (by omega) hr2)
    injection hs with hs
    subst hs
    clear h1 h2 h3 hva hvx hvy hvc ih
    go_enter Try.func75, Try.ntmps75
    go_upto_region 3 with (go_at_call 62; refine (hS1.out _ ((hrc.alloc _).alloc _) ((ra.alloc _).alloc _)).mono ?_; rintro e w1 ⟨rfl, hb1⟩; have hTw1 : Blk w1 w.heap.size #[.int .i64 k, .int .i64 n, .slice (some ⟨bk, ok, none⟩) 3 c] := ((Blk.new_ w 25 #[.int .i64 k, .int .i64 n, .slice (some ⟨bk, ok, none⟩) 3 c] rfl).alloc _).keep hb1; have hZw1 : Blk w1 (w.heap.size + 1) #[.int .i64 0, .int .i64 0, .slice none 0 0] := (Blk.new_ _ 25 #[.int .i64 0, .int .i64 0, .slice none 0 0] (by simp)).keep hb1; have kww1 : Below w.heap.size w w1 := (((Below.refl _ _).alloc (by simp <;> omega) _).alloc (by simp <;> omega) _).trans (hb1.mono (by simp <;> omega)); have ltw := hTw1.lt)
    refine name_world ?_
    intro wx hwwx
    have hTwx : Blk wx w.heap.size #[.int .i64 k, .int .i64 n, .slice (some ⟨bk, ok, none⟩) 3 c] := by rw [hwwx]; exact hTw1
    have hZwx : Blk wx (w.heap.size + 1) #[.int .i64 0, .int .i64 0, .slice none 0 0] := by rw [hwwx]; exact hZw1
    have kwwx : Below w.heap.size w wx := by rw [hwwx]; exact kww1
    clear hwwx
    have v2 := rule_of hTwx.three.2.2
    have ux1 := rule_of (Keeps.of_below kwwx _ _ x1)
    have ux2 := rule_of (Keeps.of_below kwwx _ _ x2)
    have ux3 := rule_of (Keeps.of_below kwwx _ _ x3)
    have ua1 := rule_of (Keeps.of_below kwwx _ _ a1)
    have ua2 := rule_of (Keeps.of_below kwwx _ _ a2)
    have ua3 := rule_of (Keeps.of_below kwwx _ _ a3)
    obtain ⟨q0, hq0⟩ : ∃ q0, q0 = wx.drew := ⟨_, rfl⟩
    have bq0 : Below wx.heap.size wx q0 := by rw [hq0]; exact (Below.refl _ _).drew
    refine gC_start (fun w' => Below wx.heap.size wx w') [10] 11 (by kernel_rfl) rfl ?_
    refine gC_take [0, 1, 2, 3, 4, 5, 6, 7, 8] (f := 2) (l' := #[true, true, true, true, true, true, true, true, true, false, false]) (lT := [_, _, _, _, _, _, _, _, _]) (by rw [← hq0]; exact bq0) rfl (by kernel_rfl) (by kernel_rfl) (by kernel_rfl) rfl (fun _ _ d _ _ h => by cases d <;> exact h) ?_
    repeat ((first | ((refine takeY_skip (a' := ?_) ?_ ?_ ?_); (rotate_left); (· (simp [Region.wanted, yielded, Go.undef]; done))) | ((refine takeY_step (v := ?_) (a' := ?_) ?_ ?_ ?_ ?_); (rotate_left 2); (· (simp [Region.wanted, yielded, Go.undef]; done)); (· (intro w' hS'; go_simp; try (with_reducible rfl))))); (· (simp only [List.getElem_toArray, List.getElem_cons_zero, List.getElem_cons_succ, Act.put, List.setIfInBounds_toArray, List.set_cons_zero, List.set_cons_succ]; exact rfl)))
    refine takeY_nil ?_
    rw [← hq0]
    clear hq0
    refine gC_one (i := 9) (by kernel_rfl) rfl ?_
    ·go_wp2_with (go_at_call 86; refine (hC1.out _ _ _ ((hrc.below kwwx).below bq0) ((rx.below kwwx).below bq0) ((ra.below kwwx).below bq0)).mono ?_; rintro e q1 ⟨he, hbq1⟩; obtain rfl : e = .returned (.int .i64 0) := he)
     have bq1 : Below wx.heap.size wx q1 := bq0.trans (hbq1.mono bq0.size)
     have lq1 := hbq1.size
     refine mid_intro bq1 ?_
     refine gC_end [10] (lB := [_]) (by simp) (by kernel_rfl) (by kernel_rfl) rfl ?_
     simp only [List.getElem_toArray, List.getElem_cons_zero, List.getElem_cons_succ, Act.put, List.setIfInBounds_toArray, List.set_cons_zero, List.set_cons_succ]
     have hTq1 := hTwx.keep bq1
     have hZq1 := hZwx.keep bq1
     have kwq1 := kwwx.trans (bq1.mono kwwx.size)
     have kwxq1 := bq1
     go_upto_region 5 with fail
     refine name_world ?_
     intro wu hwwu
     have hTwu : Blk wu w.heap.size #[.int .i64 k, .int .i64 n, .slice (some ⟨bk, ok, none⟩) 3 c] := by rw [hwwu]; exact hTq1
     have hZwu : Blk wu (w.heap.size + 1) #[.int .i64 0, .int .i64 0, .slice none 0 0] := by rw [hwwu]; exact hZq1
     have kwwu : Below w.heap.size w wu := by rw [hwwu]; exact kwq1
     have kwxwu : Below wx.heap.size wx wu := by rw [hwwu]; exact kwxq1
     clear hwwu
     clear v2 ux1 ux2 ux3 ua1 ua2 ua3
     have v2 := rule_of hTwu.three.2.2
     have uy1 := rule_of (Keeps.of_below kwwu _ _ y1)
     have uy2 := rule_of (Keeps.of_below kwwu _ _ y2)
     have uy3 := rule_of (Keeps.of_below kwwu _ _ y3)
     have ua1 := rule_of (Keeps.of_below kwwu _ _ a1)
     have ua2 := rule_of (Keeps.of_below kwwu _ _ a2)
     have ua3 := rule_of (Keeps.of_below kwwu _ _ a3)
     obtain ⟨q0, hq0⟩ : ∃ q0, q0 = wu.drew := ⟨_, rfl⟩
     have bq0 : Below wu.heap.size wu q0 := by rw [hq0]; exact (Below.refl _ _).drew
     refine gC_start (fun w' => Below wu.heap.size wu w') [10] 11 (by kernel_rfl) rfl ?_
     refine gC_take [0, 1, 2, 3, 4, 5, 6, 7, 8] (f := 2) (l' := #[true, true, true, true, true, true, true, true, true, false, false]) (lT := [_, _, _, _, _, _, _, _, _]) (by rw [← hq0]; exact bq0) rfl (by kernel_rfl) (by kernel_rfl) (by kernel_rfl) rfl (fun _ _ d _ _ h => by cases d <;> exact h) ?_
     repeat ((first | ((refine takeY_skip (a' := ?_) ?_ ?_ ?_); (rotate_left); (· (simp [Region.wanted, yielded, Go.undef]; done))) | ((refine takeY_step (v := ?_) (a' := ?_) ?_ ?_ ?_ ?_); (rotate_left 2); (· (simp [Region.wanted, yielded, Go.undef]; done)); (· (intro w' hS'; go_simp; try (with_reducible rfl))))); (· (simp only [List.getElem_toArray, List.getElem_cons_zero, List.getElem_cons_succ, Act.put, List.setIfInBounds_toArray, List.set_cons_zero, List.set_cons_succ]; exact rfl)))
     refine takeY_nil ?_
     rw [← hq0]
     clear hq0
     refine gC_one (i := 9) (by kernel_rfl) rfl ?_
     ·go_wp2_with (go_at_call 86; refine (hC2.out _ _ _ ((hrc.below kwwu).below bq0) ((ry.below kwwu).below bq0) ((ra.below kwwu).below bq0)).mono ?_; rintro e q1 ⟨he, hbq1⟩; obtain rfl : e = .returned (.int .i64 0) := he)
      have bq1 : Below wu.heap.size wu q1 := bq0.trans (hbq1.mono bq0.size)
      have lq1 := hbq1.size
      refine mid_intro bq1 ?_
      refine gC_end [10] (lB := [_]) (by simp) (by kernel_rfl) (by kernel_rfl) rfl ?_
      simp only [List.getElem_toArray, List.getElem_cons_zero, List.getElem_cons_succ, Act.put, List.setIfInBounds_toArray, List.set_cons_zero, List.set_cons_succ]
      have hTq1 := hTwu.keep bq1
      have hZq1 := hZwu.keep bq1
      have kwq1 := kwwu.trans (bq1.mono kwwu.size)
      have kwxq1 := kwxwu.trans (bq1.mono kwxwu.size)
      have kwuq1 := bq1
      obtain ⟨d0, d1, d2⟩ := hZq1.three
      have e0 := hZq1.frozen 0
      have e1 := hZq1.frozen 1
      have e2 := hZq1.frozen 2
      have lz := hZq1.lt
      go_wp2_with (go_at_call 28; refine (sLeaf_any _ _ _).mono ?_; rintro e w9 ⟨rfl, hb9⟩; have hZ9 := hZq1.keep hb9; clear d0 d1 d2 e0 e1 e2 lz; obtain ⟨d0, d1, d2⟩ := hZ9.three; have e0 := hZ9.frozen 0; have e1 := hZ9.frozen 1; have e2 := hZ9.frozen 2; have lz := hZ9.lt; have g9 := kwq1.trans (hb9.mono kwq1.size))
      refine bodyPost_ret (v := .tuple #[.agg #[.int .i64 2, .int .i64 li, .slice none 0 0], .int .i64 0]) (by simp [results, Try.results75, go_sem, d0, d1, d2]) rfl ⟨none, 0, rfl, by simp, Rd.nil, ?_⟩
      exact ((g9.setCell (by simp <;> omega) _).setCell (by simp <;> omega) _).setCell (by simp <;> omega) _
set_option maxRecDepth 100000 in
set_option maxHeartbeats 8000000 in
theorem sMove_any {N : Nat} (ih : InfC N) (ctx : List Tm) (C : Option Addr) (cc : Nat) (k n : Int) (A : Option Addr) (c : Nat) (kp np : Int) (sp : List Tm) (ke ne : Int) (se : List Tm) (kz nz : Int) (sz : List Tm) (r : Rs Tm) (w : World) (hs : movR (infR N) ctx (.mk kp np sp) (.mk ke ne se) (.mk kz nz sz) = some r) (hvp : validT (.mk kp np sp) = true) (hve : validT (.mk ke ne se) = true) (hvz : validT (.mk kz nz sz) = true) (hvc : ∀ u, u ∈ ctx → validT u = true) (hm : ctx.length ≤ 20) (hrc : Rd w C 0 ctx) (hr : Rd w A 0 [.mk kp np sp, .mk ke ne se, .mk kz nz sz]) :
  Calls Try.prog 76 #[.slice C ctx.length cc, .agg #[.int .i64 k, .int .i64 n, .slice A 3 c]] w (GtT w r) := by
 have hszp := validT_size' hvp
 obtain ⟨bk, ok, x1, x2, x3, Ap, cp, rfl, hk1, p1, p2, p3, hlp, rp⟩ := hr.at_ (j := 0) (by simp)
 injection hk1 with e1 e2 e3
 subst e1 e2 e3
 obtain ⟨bb, ob, x1, x2, x3, Ae, ce, hAb, hk1, e1, e2, e3, hle, re⟩ := hr.at_ (j := 1) (by simp)
 injection hk1 with e1 e2 e3
 injection hAb with hA
 injection hA with hA1 hA2
 subst e1 e2 e3 hA1 hA2
 obtain ⟨bb, ob, x1, x2, x3, Az, cz, hAb, hk1, z1, z2, z3, hlz, rz⟩ := hr.at_ (j := 2) (by simp)
 injection hk1 with e1 e2 e3
 injection hAb with hA
 injection hA with hA1 hA2
 subst e1 e2 e3 hA1 hA2
 simp only [Nat.zero_mul, Nat.add_zero, Nat.one_mul, Nat.reduceMul] at p1 p2 p3 e1 e2 e3 z1 z2 z3
 have lbp := World.block_lt_of_cell? _ _ p1
 rcases bd_inv hs with ⟨b, h1, rfl⟩ | ⟨⟨k3, n3, s3⟩, h1, hs⟩
 ·have hS1 := hide (fun (w : World) (hrc : Rd w C 0 ctx) (hre : Rd w Ae 0 se) => sShape_any ih ctx C cc ke ne se Ae ce 10 _ w h1 hve hvc (by omega) hrc hre)
  have qb := cdB_q b
  clear hs h1 hvp hve hvz hvc ih
  go_enter Try.func76, Try.ntmps76
  go_wp2_with (go_at_call 85; refine (hS1.out _ ((hrc.alloc _).alloc _) ((re.alloc _).alloc _)).mono ?_; rintro e w1 ⟨k3, n3, A3, l3, c3, rfl, hb1⟩; have hTw1 : Blk w1 w.heap.size #[.int .i64 k, .int .i64 n, .slice (some ⟨bk, ok, none⟩) 3 c] := ((Blk.new_ w 25 #[.int .i64 k, .int .i64 n, .slice (some ⟨bk, ok, none⟩) 3 c] rfl).alloc _).keep hb1; have hZw1 : Blk w1 (w.heap.size + 1) #[.int .i64 0, .int .i64 0, .slice none 0 0] := (Blk.new_ _ 25 #[.int .i64 0, .int .i64 0, .slice none 0 0] (by simp)).keep hb1; have kww1 : Below w.heap.size w w1 := (((Below.refl _ _).alloc (by simp <;> omega) _).alloc (by simp <;> omega) _).trans (hb1.mono (by simp <;> omega)); have ltw := hTw1.lt; have g2 := kww1.alloc kww1.size (.cells #[.int .i64 k3, .int .i64 n3, .slice A3 l3 c3] 25); have hZ2 := hZw1.alloc (.cells #[.int .i64 k3, .int .i64 n3, .slice A3 l3 c3] 25); obtain ⟨d0, d1, d2⟩ := hZ2.three; have e0 := hZ2.frozen 0; have e1 := hZ2.frozen 1; have e2 := hZ2.frozen 2; have lz := hZ2.lt)
  refine bodyPost_ret (v := .tuple #[.agg #[.int .i64 0, .int .i64 0, .slice none 0 0], .int .i64 (cdB b)]) (by simp [results, Try.results76, go_sem, d0, d1, d2]) rfl ⟨0, 0, none, 0, 0, rfl, ?_⟩
  exact ((g2.setCell (by simp <;> omega) _).setCell (by simp <;> omega) _).setCell (by simp <;> omega) _
 ·obtain ⟨hk3, hv3⟩ := shpR_ok h1
  obtain rfl : k3 = 10 := hk3
  obtain ⟨kha, nha, sha, khb, nhb, shb, khd, nhd, shd, rfl⟩ := kids3 (k := 10) rfl hv3
  have hszha : sizes sha ≤ 400 := validT_size' (show validT (.mk kha nha sha) = true from validT_kidT (i := 0) hv3 (by simp))
  have hszhb : sizes shb ≤ 400 := validT_size' (show validT (.mk khb nhb shb) = true from validT_kidT (i := 1) hv3 (by simp))
  have hvha := hide (show validT (.mk kha nha sha) = true from validT_kidT (i := 0) hv3 (by simp))
  have hvl := hide (show ∀ t, t ∈ [.mk kp np sp, .mk khd nhd shd] → validT t = true from fun t ht => by
   have hd := validT_kidT (i := 2) hv3 (by simp)
   rcases List.mem_cons.1 ht with rfl | ht
   ·exact hvp
   ·rw [List.mem_singleton.1 ht]; exact hd)
  have hS1 := hide (fun (w : World) (hrc : Rd w C 0 ctx) (hre : Rd w Ae 0 se) => sShape_any ih ctx C cc ke ne se Ae ce 10 _ w h1 hve hvc (by omega) hrc hre)
  replace hs : bd (famR (infR N) ctx (.mk kp np sp) (.mk kha nha sha)) (fun _ => bd (chkR (infR N) ctx (.mk kz nz sz) (.mk 5 0 [.mk kp np sp, .mk khb nhb shb])) fun _ => some (.ok (.mk 5 0 [.mk kp np sp, .mk khd nhd shd]))) = some r := hs
  rcases bd_inv hs with ⟨b, h2, rfl⟩ | ⟨u1, h2, hs⟩
  ·have hF := hide (fun (A2 : Option Addr) (c2 : Nat) (w : World) (hrc : Rd w C 0 ctx) (hrp : Rd w Ap 0 sp) (hr2 : Rd w A2 0 sha) => sFamily_any ih ctx C cc kp np sp Ap cp kha nha sha A2 c2 _ w h2 hvp (by omega) hvc hm hrc hrp hr2)
   have qb := cdB_q2 b
   clear hs h1 h2 hvp hve hvz hvc ih hv3
   go_enter Try.func76, Try.ntmps76
   go_upto_region 4 with (go_at_call 85; refine (hS1.out _ ((hrc.alloc _).alloc _) ((re.alloc _).alloc _)).mono ?_; rintro e w1 ⟨A3, c3, rfl, hl3, r3, hb1⟩; have hTw1 : Blk w1 w.heap.size #[.int .i64 k, .int .i64 n, .slice (some ⟨bk, ok, none⟩) 3 c] := ((Blk.new_ w 25 #[.int .i64 k, .int .i64 n, .slice (some ⟨bk, ok, none⟩) 3 c] rfl).alloc _).keep hb1; have hZw1 : Blk w1 (w.heap.size + 1) #[.int .i64 0, .int .i64 0, .slice none 0 0] := (Blk.new_ _ 25 #[.int .i64 0, .int .i64 0, .slice none 0 0] (by simp)).keep hb1; have kww1 : Below w.heap.size w w1 := (((Below.refl _ _).alloc (by simp <;> omega) _).alloc (by simp <;> omega) _).trans (hb1.mono (by simp <;> omega)); have ltw := hTw1.lt)
   refine name_world ?_
   intro wx hwwx
   have hTwx : Blk wx w.heap.size #[.int .i64 k, .int .i64 n, .slice (some ⟨bk, ok, none⟩) 3 c] := by rw [hwwx]; exact (hTw1.alloc _)
   have hZwx : Blk wx (w.heap.size + 1) #[.int .i64 0, .int .i64 0, .slice none 0 0] := by rw [hwwx]; exact (hZw1.alloc _)
   have hKwx : Blk wx w1.heap.size #[.int .i64 10, .int .i64 n3, .slice A3 3 c3] := by rw [hwwx]; exact (Blk.new_ _ 25 _ (by simp))
   have kwwx : Below w.heap.size w wx := by rw [hwwx]; exact (kww1.alloc (by have := kww1.size; simp <;> omega) _)
   have r3x : Rd wx A3 0 [.mk kha nha sha, .mk khb nhb shb, .mk khd nhd shd] := by rw [hwwx]; exact r3.alloc _
   clear hwwx
   obtain ⟨bh, oh, x1, x2, x3, Aha, cha, rfl, hk1, ha1, ha2, ha3, hlha, rha⟩ := r3x.at_ (j := 0) (by simp)
   injection hk1 with e1 e2 e3
   subst e1 e2 e3
   obtain ⟨bb, ob, x1, x2, x3, Ahb, chb, hAb, hk1, hb1, hb2, hb3, hlhb, rhb⟩ := r3x.at_ (j := 1) (by simp)
   injection hk1 with e1 e2 e3
   injection hAb with hA
   injection hA with hA1 hA2
   subst e1 e2 e3 hA1 hA2
   obtain ⟨bb, ob, x1, x2, x3, Ahd, chd, hAb, hk1, hd1, hd2, hd3, hlhd, rhd⟩ := r3x.at_ (j := 2) (by simp)
   injection hk1 with e1 e2 e3
   injection hAb with hA
   injection hA with hA1 hA2
   subst e1 e2 e3 hA1 hA2
   simp only [Nat.zero_mul, Nat.add_zero, Nat.one_mul, Nat.reduceMul] at ha1 ha2 ha3 hb1 hb2 hb3 hd1 hd2 hd3
   replace hKwx : Blk wx w1.heap.size #[.int .i64 10, .int .i64 n3, .slice (some ⟨bh, oh, none⟩) 3 c3] := hKwx
   have v2 := rule_of hTwx.three.2.2
   have kq := rule_of hKwx.three.2.2
   have up1 := rule_of (Keeps.of_below kwwx _ _ p1)
   have up2 := rule_of (Keeps.of_below kwwx _ _ p2)
   have up3 := rule_of (Keeps.of_below kwwx _ _ p3)
   have uha1 := rule_of ha1
   have uha2 := rule_of ha2
   have uha3 := rule_of ha3
   obtain ⟨q0, hq0⟩ : ∃ q0, q0 = wx.drew := ⟨_, rfl⟩
   have bq0 : Below wx.heap.size wx q0 := by rw [hq0]; exact (Below.refl _ _).drew
   refine gC_start (fun w' => Below wx.heap.size wx w') [10] 11 (by kernel_rfl) rfl ?_
   refine gC_take [0, 1, 2, 3, 4, 5, 6, 7, 8] (f := 2) (l' := #[true, true, true, true, true, true, true, true, true, false, false]) (lT := [_, _, _, _, _, _, _, _, _]) (by rw [← hq0]; exact bq0) rfl (by kernel_rfl) (by kernel_rfl) (by kernel_rfl) rfl (fun _ _ d _ _ h => by cases d <;> exact h) ?_
   repeat ((first | ((refine takeY_skip (a' := ?_) ?_ ?_ ?_); (rotate_left); (· (simp [Region.wanted, yielded, Go.undef]; done))) | ((refine takeY_step (v := ?_) (a' := ?_) ?_ ?_ ?_ ?_); (rotate_left 2); (· (simp [Region.wanted, yielded, Go.undef]; done)); (· (intro w' hS'; go_simp; try (with_reducible rfl))))); (· (simp only [List.getElem_toArray, List.getElem_cons_zero, List.getElem_cons_succ, Act.put, List.setIfInBounds_toArray, List.set_cons_zero, List.set_cons_succ]; exact rfl)))
   refine takeY_nil ?_
   rw [← hq0]
   clear hq0
   refine gC_one (i := 9) (by kernel_rfl) rfl ?_
   ·go_wp2_with (go_at_call 88; refine (hF.out _ _ _ ((hrc.below kwwx).below bq0) ((rp.below kwwx).below bq0) (rha.below bq0)).mono ?_; rintro e q1 ⟨he, hbq1⟩; obtain rfl : e = .returned (.int .i64 (cdB b)) := he)
    have bq1 : Below wx.heap.size wx q1 := bq0.trans (hbq1.mono bq0.size)
    have lq1 := hbq1.size
    refine mid_intro bq1 ?_
    refine gC_end [10] (lB := [_]) (by simp) (by kernel_rfl) (by kernel_rfl) rfl ?_
    simp only [List.getElem_toArray, List.getElem_cons_zero, List.getElem_cons_succ, Act.put, List.setIfInBounds_toArray, List.set_cons_zero, List.set_cons_succ]
    have hTq1 := hTwx.keep bq1
    have hZq1 := hZwx.keep bq1
    have hKq1 := hKwx.keep bq1
    have kwq1 := kwwx.trans (bq1.mono kwwx.size)
    have kwxq1 := bq1
    go_upto_region 7 with fail
    refine name_world ?_
    intro wl hwwl
    have hTwl : Blk wl w.heap.size #[.int .i64 k, .int .i64 n, .slice (some ⟨bk, ok, none⟩) 3 c] := by rw [hwwl]; exact hTq1
    have hZwl : Blk wl (w.heap.size + 1) #[.int .i64 0, .int .i64 0, .slice none 0 0] := by rw [hwwl]; exact hZq1
    have hKwl : Blk wl w1.heap.size #[.int .i64 10, .int .i64 n3, .slice (some ⟨bh, oh, none⟩) 3 c3] := by rw [hwwl]; exact hKq1
    have kwwl : Below w.heap.size w wl := by rw [hwwl]; exact kwq1
    have kwxwl : Below wx.heap.size wx wl := by rw [hwwl]; exact kwxq1
    clear hwwl
    clear v2 kq
    have lTz := hTwl.lt
    have lZz := hZwl.lt
    have lwx := hZwx.lt
    have lw1 := hZw1.lt
    have nz0 : bk ≠ (w.heap.size + 1) := by omega
    have nz1 : w.heap.size ≠ (w.heap.size + 1) := by omega
    have nz2 : w1.heap.size ≠ (w.heap.size + 1) := by omega
    have nz3 : bh ≠ (w.heap.size + 1) := fun e => bh_ne hZwx (show validT (.mk kha nha sha) = true from hvha.out) (e ▸ ha1)
    have v2 := rule_ke (z := (w.heap.size + 1)) hTwl.three.2.2 nz1
    have kq := rule_ke (z := (w.heap.size + 1)) hKwl.three.2.2 nz2
    have yp1 := rule_ke (z := (w.heap.size + 1)) (Keeps.of_below kwwl _ _ p1) nz0
    have yp2 := rule_ke (z := (w.heap.size + 1)) (Keeps.of_below kwwl _ _ p2) nz0
    have yp3 := rule_ke (z := (w.heap.size + 1)) (Keeps.of_below kwwl _ _ p3) nz0
    have yhd1 := rule_ke (z := (w.heap.size + 1)) (Keeps.of_below kwxwl _ _ hd1) nz3
    have yhd2 := rule_ke (z := (w.heap.size + 1)) (Keeps.of_below kwxwl _ _ hd2) nz3
    have yhd3 := rule_ke (z := (w.heap.size + 1)) (Keeps.of_below kwxwl _ _ hd3) nz3
    obtain ⟨q0, hq0⟩ : ∃ q0, q0 = wl.drew := ⟨_, rfl⟩
    have bq0 : Below wl.heap.size wl q0 := by rw [hq0]; exact (Below.refl _ _).drew
    have keq0 := KE.of (w.heap.size + 1) bq0
    refine gC_start (KE wl (w.heap.size + 1)) [12] 13 (by kernel_rfl) rfl ?_
    refine gC_take [0, 1, 2, 3, 4, 5, 6, 7, 10] (f := 4) (l' := #[true, true, true, true, true, true, true, true, false, false, true, false, false]) (lT := [_, _, _, _, _, _, _, _, _]) (by rw [← hq0]; exact keq0) rfl (by kernel_rfl) (by kernel_rfl) (by kernel_rfl) rfl (fun _ _ d _ _ h => by cases d <;> exact h) ?_
    repeat ((first | ((refine takeY_skip (a' := ?_) ?_ ?_ ?_); (rotate_left); (· (simp [Region.wanted, yielded, Go.undef]; done))) | ((refine takeY_step (v := ?_) (a' := ?_) ?_ ?_ ?_ ?_); (rotate_left 2); (· (simp [Region.wanted, yielded, Go.undef]; done)); (· (intro w' hS'; go_simp; try (with_reducible rfl))))); (· (simp only [List.getElem_toArray, List.getElem_cons_zero, List.getElem_cons_succ, Act.put, List.setIfInBounds_toArray, List.set_cons_zero, List.set_cons_succ]; exact rfl)))
    refine takeY_nil ?_
    rw [← hq0]
    clear hq0
    refine gC_one (i := 8) (by kernel_rfl) rfl ?_
    go_wp2_with fail
    refine name_midw ?_
    intro q1 hn
    have hbq1 : Below q0.heap.size q0 q1 := by rw [hn]; exact (Below.refl _ _).alloc (Nat.le_refl _) _
    have zq1 : Blk q1 q0.heap.size #[.int .i64 kp, .int .i64 np, .slice Ap sp.length cp, .int .i64 khd, .int .i64 nhd, .slice Ahd shd.length chd] := by rw [hn]; exact Blk.new_ _ 25 _ rfl
    have seq1 : q0.heap.size < q1.heap.size := by rw [hn]; simp
    clear hn
    have bq1 : Below wl.heap.size wl q1 := bq0.trans (hbq1.mono bq0.size)
    have lq1 := hbq1.size
    have keq1 := KE.of (w.heap.size + 1) bq1
    refine mid_intro keq1 ?_
    refine gC_one (i := 9) (by kernel_rfl) rfl ?_
    go_wp2_with (go_at_call 46; refine (sNodeT_any 5 (rdx_consT hlp ((rp.below kwwl).below bq1).rdp (rdx_consT hlhd ((rhd.below kwxwl).below bq1).rdp rdx_nilT)) 2 rfl (by omega) _ _ zq1).mono ?_; rintro e q2 ⟨A7, c7, rfl, r7, hbq2⟩)
    have bq2 : Below wl.heap.size wl q2 := bq1.trans (hbq2.mono bq1.size)
    have lq2 := hbq2.size
    have keq2 := KE.of (w.heap.size + 1) bq2
    refine mid_intro keq2 ?_
    refine gC_one (i := 11) (by kernel_rfl) rfl ?_
    have hZz := hZwl.keep bq2
    obtain ⟨d0, d1, d2⟩ := hZz.three
    have e0 := hZz.frozen 0
    have e1 := hZz.frozen 1
    have e2 := hZz.frozen 2
    have lz := hZz.lt
    go_wp2_with fail
    refine name_midw ?_
    intro q3 hn
    have hZq3 : Blk q3 (w.heap.size + 1) #[.int .i64 5, .int .i64 0, .slice A7 2 c7] := by rw [hn]; exact ((hZz.set_ 0 _).set_ 1 _).set_ 2 _
    have rq3 : Rd q3 A7 0 [.mk kp np sp, .mk khd nhd shd] := by rw [hn]; exact rd_set0L hZz hvl.out r7 _ _ _
    have kwq3 : Below w.heap.size w q3 := by rw [hn]; exact (((kwwl.trans (bq2.mono kwwl.size)).setCell (by simp <;> omega) _).setCell (by simp <;> omega) _).setCell (by simp <;> omega) _
    have keq3 : KE wl (w.heap.size + 1) q3 := by rw [hn]; exact ((keq2.set _ _).set _ _).set _ _
    clear hn d0 d1 d2 e0 e1 e2 lz
    refine mid_intro keq3 ?_
    refine gC_end [12] (lB := [_]) (by simp) (by kernel_rfl) (by kernel_rfl) rfl ?_
    simp only [List.getElem_toArray, List.getElem_cons_zero, List.getElem_cons_succ, Act.put, List.setIfInBounds_toArray, List.set_cons_zero, List.set_cons_succ]
    obtain ⟨d0, d1, d2⟩ := hZq3.three
    have e0 := hZq3.frozen 0
    have e1 := hZq3.frozen 1
    have e2 := hZq3.frozen 2
    have lz := hZq3.lt
    go_wp2_with fail
    refine bodyPost_ret (v := .tuple #[.agg #[.int .i64 5, .int .i64 0, .slice A7 2 c7], .int .i64 (cdB b)]) (by simp [results, Try.results76, go_sem, d0, d1, d2]) rfl ⟨5, 0, A7, 2, c7, rfl, kwq3⟩
  ·have hF := hide (fun (A2 : Option Addr) (c2 : Nat) (w : World) (hrc : Rd w C 0 ctx) (hrp : Rd w Ap 0 sp) (hr2 : Rd w A2 0 sha) => sFamily_any ih ctx C cc kp np sp Ap cp kha nha sha A2 c2 _ w h2 hvp (by omega) hvc hm hrc hrp hr2)
   rcases bd_inv hs with ⟨b, h3, rfl⟩ | ⟨u2, h3, hs⟩
   ·have hC1 := hide (fun (A2 : Option Addr) (c2 : Nat) (w : World) (hrc : Rd w C 0 ctx) (hrt : Rd w Az 0 sz) (hr2 : Rd w A2 0 [.mk kp np sp, .mk khb nhb shb]) => sCheck_any ih ctx C cc kz nz sz Az cz 5 0 [.mk kp np sp, .mk khb nhb shb] A2 c2 _ w h3 hvz hvc (by omega) hrc hrt (by simp only [sizes, Tm.size]; omega) hr2)
    have qb := cdB_q2 b
    clear hs h1 h2 h3 hvp hve hvz hvc ih hv3
    go_enter Try.func76, Try.ntmps76
    go_upto_region 4 with (go_at_call 85; refine (hS1.out _ ((hrc.alloc _).alloc _) ((re.alloc _).alloc _)).mono ?_; rintro e w1 ⟨A3, c3, rfl, hl3, r3, hb1⟩; have hTw1 : Blk w1 w.heap.size #[.int .i64 k, .int .i64 n, .slice (some ⟨bk, ok, none⟩) 3 c] := ((Blk.new_ w 25 #[.int .i64 k, .int .i64 n, .slice (some ⟨bk, ok, none⟩) 3 c] rfl).alloc _).keep hb1; have hZw1 : Blk w1 (w.heap.size + 1) #[.int .i64 0, .int .i64 0, .slice none 0 0] := (Blk.new_ _ 25 #[.int .i64 0, .int .i64 0, .slice none 0 0] (by simp)).keep hb1; have kww1 : Below w.heap.size w w1 := (((Below.refl _ _).alloc (by simp <;> omega) _).alloc (by simp <;> omega) _).trans (hb1.mono (by simp <;> omega)); have ltw := hTw1.lt)
    refine name_world ?_
    intro wx hwwx
    have hTwx : Blk wx w.heap.size #[.int .i64 k, .int .i64 n, .slice (some ⟨bk, ok, none⟩) 3 c] := by rw [hwwx]; exact (hTw1.alloc _)
    have hZwx : Blk wx (w.heap.size + 1) #[.int .i64 0, .int .i64 0, .slice none 0 0] := by rw [hwwx]; exact (hZw1.alloc _)
    have hKwx : Blk wx w1.heap.size #[.int .i64 10, .int .i64 n3, .slice A3 3 c3] := by rw [hwwx]; exact (Blk.new_ _ 25 _ (by simp))
    have kwwx : Below w.heap.size w wx := by rw [hwwx]; exact (kww1.alloc (by have := kww1.size; simp <;> omega) _)
    have r3x : Rd wx A3 0 [.mk kha nha sha, .mk khb nhb shb, .mk khd nhd shd] := by rw [hwwx]; exact r3.alloc _
    clear hwwx
    obtain ⟨bh, oh, x1, x2, x3, Aha, cha, rfl, hk1, ha1, ha2, ha3, hlha, rha⟩ := r3x.at_ (j := 0) (by simp)
    injection hk1 with e1 e2 e3
    subst e1 e2 e3
    obtain ⟨bb, ob, x1, x2, x3, Ahb, chb, hAb, hk1, hb1, hb2, hb3, hlhb, rhb⟩ := r3x.at_ (j := 1) (by simp)
    injection hk1 with e1 e2 e3
    injection hAb with hA
    injection hA with hA1 hA2
    subst e1 e2 e3 hA1 hA2
    obtain ⟨bb, ob, x1, x2, x3, Ahd, chd, hAb, hk1, hd1, hd2, hd3, hlhd, rhd⟩ := r3x.at_ (j := 2) (by simp)
    injection hk1 with e1 e2 e3
    injection hAb with hA
    injection hA with hA1 hA2
    subst e1 e2 e3 hA1 hA2
    simp only [Nat.zero_mul, Nat.add_zero, Nat.one_mul, Nat.reduceMul] at ha1 ha2 ha3 hb1 hb2 hb3 hd1 hd2 hd3
    replace hKwx : Blk wx w1.heap.size #[.int .i64 10, .int .i64 n3, .slice (some ⟨bh, oh, none⟩) 3 c3] := hKwx
    have v2 := rule_of hTwx.three.2.2
    have kq := rule_of hKwx.three.2.2
    have up1 := rule_of (Keeps.of_below kwwx _ _ p1)
    have up2 := rule_of (Keeps.of_below kwwx _ _ p2)
    have up3 := rule_of (Keeps.of_below kwwx _ _ p3)
    have uha1 := rule_of ha1
    have uha2 := rule_of ha2
    have uha3 := rule_of ha3
    obtain ⟨q0, hq0⟩ : ∃ q0, q0 = wx.drew := ⟨_, rfl⟩
    have bq0 : Below wx.heap.size wx q0 := by rw [hq0]; exact (Below.refl _ _).drew
    refine gC_start (fun w' => Below wx.heap.size wx w') [10] 11 (by kernel_rfl) rfl ?_
    refine gC_take [0, 1, 2, 3, 4, 5, 6, 7, 8] (f := 2) (l' := #[true, true, true, true, true, true, true, true, true, false, false]) (lT := [_, _, _, _, _, _, _, _, _]) (by rw [← hq0]; exact bq0) rfl (by kernel_rfl) (by kernel_rfl) (by kernel_rfl) rfl (fun _ _ d _ _ h => by cases d <;> exact h) ?_
    repeat ((first | ((refine takeY_skip (a' := ?_) ?_ ?_ ?_); (rotate_left); (· (simp [Region.wanted, yielded, Go.undef]; done))) | ((refine takeY_step (v := ?_) (a' := ?_) ?_ ?_ ?_ ?_); (rotate_left 2); (· (simp [Region.wanted, yielded, Go.undef]; done)); (· (intro w' hS'; go_simp; try (with_reducible rfl))))); (· (simp only [List.getElem_toArray, List.getElem_cons_zero, List.getElem_cons_succ, Act.put, List.setIfInBounds_toArray, List.set_cons_zero, List.set_cons_succ]; exact rfl)))
    refine takeY_nil ?_
    rw [← hq0]
    clear hq0
    refine gC_one (i := 9) (by kernel_rfl) rfl ?_
    ·go_wp2_with (go_at_call 88; refine (hF.out _ _ _ ((hrc.below kwwx).below bq0) ((rp.below kwwx).below bq0) (rha.below bq0)).mono ?_; rintro e q1 ⟨he, hbq1⟩; obtain rfl : e = .returned (.int .i64 0) := he)
     have bq1 : Below wx.heap.size wx q1 := bq0.trans (hbq1.mono bq0.size)
     have lq1 := hbq1.size
     refine mid_intro bq1 ?_
     refine gC_end [10] (lB := [_]) (by simp) (by kernel_rfl) (by kernel_rfl) rfl ?_
     simp only [List.getElem_toArray, List.getElem_cons_zero, List.getElem_cons_succ, Act.put, List.setIfInBounds_toArray, List.set_cons_zero, List.set_cons_succ]
     have hTq1 := hTwx.keep bq1
     have hZq1 := hZwx.keep bq1
     have hKq1 := hKwx.keep bq1
     have kwq1 := kwwx.trans (bq1.mono kwwx.size)
     have kwxq1 := bq1
     go_upto_region 6 with fail
     refine name_world ?_
     intro wu hwwu
     have hTwu : Blk wu w.heap.size #[.int .i64 k, .int .i64 n, .slice (some ⟨bk, ok, none⟩) 3 c] := by rw [hwwu]; exact hTq1
     have hZwu : Blk wu (w.heap.size + 1) #[.int .i64 0, .int .i64 0, .slice none 0 0] := by rw [hwwu]; exact hZq1
     have hKwu : Blk wu w1.heap.size #[.int .i64 10, .int .i64 n3, .slice (some ⟨bh, oh, none⟩) 3 c3] := by rw [hwwu]; exact hKq1
     have kwwu : Below w.heap.size w wu := by rw [hwwu]; exact kwq1
     have kwxwu : Below wx.heap.size wx wu := by rw [hwwu]; exact kwxq1
     clear hwwu
     clear v2 kq up1 up2 up3 uha1 uha2 uha3
     have v2 := rule_of hTwu.three.2.2
     have kq := rule_of hKwu.three.2.2
     have uz1 := rule_of (Keeps.of_below kwwu _ _ z1)
     have uz2 := rule_of (Keeps.of_below kwwu _ _ z2)
     have uz3 := rule_of (Keeps.of_below kwwu _ _ z3)
     have up1 := rule_of (Keeps.of_below kwwu _ _ p1)
     have up2 := rule_of (Keeps.of_below kwwu _ _ p2)
     have up3 := rule_of (Keeps.of_below kwwu _ _ p3)
     have uhb1 := rule_of (Keeps.of_below kwxwu _ _ hb1)
     have uhb2 := rule_of (Keeps.of_below kwxwu _ _ hb2)
     have uhb3 := rule_of (Keeps.of_below kwxwu _ _ hb3)
     obtain ⟨q0, hq0⟩ : ∃ q0, q0 = wu.drew := ⟨_, rfl⟩
     have bq0 : Below wu.heap.size wu q0 := by rw [hq0]; exact (Below.refl _ _).drew
     refine gC_start (fun w' => Below wu.heap.size wu w') [16] 17 (by kernel_rfl) rfl ?_
     refine gC_take [0, 1, 2, 3, 4, 5, 6, 7, 8, 9, 10, 11, 12] (f := 4) (l' := #[true, true, true, true, true, true, true, true, true, true, true, true, true, false, false, false, false]) (lT := [_, _, _, _, _, _, _, _, _, _, _, _, _]) (by rw [← hq0]; exact bq0) rfl (by kernel_rfl) (by kernel_rfl) (by kernel_rfl) rfl (fun _ _ d _ _ h => by cases d <;> exact h) ?_
     repeat ((first | ((refine takeY_skip (a' := ?_) ?_ ?_ ?_); (rotate_left); (· (simp [Region.wanted, yielded, Go.undef]; done))) | ((refine takeY_step (v := ?_) (a' := ?_) ?_ ?_ ?_ ?_); (rotate_left 2); (· (simp [Region.wanted, yielded, Go.undef]; done)); (· (intro w' hS'; go_simp; try (with_reducible rfl))))); (· (simp only [List.getElem_toArray, List.getElem_cons_zero, List.getElem_cons_succ, Act.put, List.setIfInBounds_toArray, List.set_cons_zero, List.set_cons_succ]; exact rfl)))
     refine takeY_nil ?_
     rw [← hq0]
     clear hq0
     refine gC_one (i := 13) (by kernel_rfl) rfl ?_
     ·go_wp2_with fail
      refine name_midw ?_
      intro q1 hn
      have hbq1 : Below q0.heap.size q0 q1 := by rw [hn]; exact (Below.refl _ _).alloc (Nat.le_refl _) _
      have zq1 : Blk q1 q0.heap.size #[.int .i64 kp, .int .i64 np, .slice Ap sp.length cp, .int .i64 khb, .int .i64 nhb, .slice Ahb shb.length chb] := by rw [hn]; exact Blk.new_ _ 25 _ rfl
      have seq1 : q0.heap.size < q1.heap.size := by rw [hn]; simp
      clear hn
      have bq1 : Below wu.heap.size wu q1 := bq0.trans (hbq1.mono bq0.size)
      have lq1 := hbq1.size
      refine mid_intro bq1 ?_
      refine gC_one (i := 14) (by kernel_rfl) rfl ?_
      ·go_wp2_with (go_at_call 46; refine (sNodeT_any 5 (rdx_consT hlp ((rp.below kwwu).below bq1).rdp (rdx_consT hlhb ((rhb.below kwxwu).below bq1).rdp rdx_nilT)) 2 rfl (by omega) _ _ zq1).mono ?_; rintro e q2 ⟨A7, c7, rfl, r7, hbq2⟩)
       have bq2 : Below wu.heap.size wu q2 := bq1.trans (hbq2.mono bq1.size)
       have lq2 := hbq2.size
       refine mid_intro bq2 ?_
       refine gC_one (i := 15) (by kernel_rfl) rfl ?_
       ·go_wp2_with (go_at_call 86; refine (hC1.out _ _ _ ((hrc.below kwwu).below bq2) ((rz.below kwwu).below bq2) r7).mono ?_; rintro e q3 ⟨he, hbq3⟩; obtain rfl : e = .returned (.int .i64 (cdB b)) := he)
        have bq3 : Below wu.heap.size wu q3 := bq2.trans (hbq3.mono bq2.size)
        have lq3 := hbq3.size
        refine mid_intro bq3 ?_
        refine gC_end [16] (lB := [_]) (by simp) (by kernel_rfl) (by kernel_rfl) rfl ?_
        simp only [List.getElem_toArray, List.getElem_cons_zero, List.getElem_cons_succ, Act.put, List.setIfInBounds_toArray, List.set_cons_zero, List.set_cons_succ]
        have hTq3 := hTwu.keep bq3
        have hZq3 := hZwu.keep bq3
        have hKq3 := hKwu.keep bq3
        have kwq3 := kwwu.trans (bq3.mono kwwu.size)
        have kwxq3 := kwxwu.trans (bq3.mono kwxwu.size)
        have kwuq3 := bq3
        go_upto_region 7 with fail
        refine name_world ?_
        intro wl hwwl
        have hTwl : Blk wl w.heap.size #[.int .i64 k, .int .i64 n, .slice (some ⟨bk, ok, none⟩) 3 c] := by rw [hwwl]; exact hTq3
        have hZwl : Blk wl (w.heap.size + 1) #[.int .i64 0, .int .i64 0, .slice none 0 0] := by rw [hwwl]; exact hZq3
        have hKwl : Blk wl w1.heap.size #[.int .i64 10, .int .i64 n3, .slice (some ⟨bh, oh, none⟩) 3 c3] := by rw [hwwl]; exact hKq3
        have kwwl : Below w.heap.size w wl := by rw [hwwl]; exact kwq3
        have kwxwl : Below wx.heap.size wx wl := by rw [hwwl]; exact kwxq3
        have kwuwl : Below wu.heap.size wu wl := by rw [hwwl]; exact kwuq3
        clear hwwl
        clear v2 kq
        have lTz := hTwl.lt
        have lZz := hZwl.lt
        have lwx := hZwx.lt
        have lw1 := hZw1.lt
        have nz0 : bk ≠ (w.heap.size + 1) := by omega
        have nz1 : w.heap.size ≠ (w.heap.size + 1) := by omega
        have nz2 : w1.heap.size ≠ (w.heap.size + 1) := by omega
        have nz3 : bh ≠ (w.heap.size + 1) := fun e => bh_ne hZwx (show validT (.mk kha nha sha) = true from hvha.out) (e ▸ ha1)
        have v2 := rule_ke (z := (w.heap.size + 1)) hTwl.three.2.2 nz1
        have kq := rule_ke (z := (w.heap.size + 1)) hKwl.three.2.2 nz2
        have yp1 := rule_ke (z := (w.heap.size + 1)) (Keeps.of_below kwwl _ _ p1) nz0
        have yp2 := rule_ke (z := (w.heap.size + 1)) (Keeps.of_below kwwl _ _ p2) nz0
        have yp3 := rule_ke (z := (w.heap.size + 1)) (Keeps.of_below kwwl _ _ p3) nz0
        have yhd1 := rule_ke (z := (w.heap.size + 1)) (Keeps.of_below kwxwl _ _ hd1) nz3
        have yhd2 := rule_ke (z := (w.heap.size + 1)) (Keeps.of_below kwxwl _ _ hd2) nz3
        have yhd3 := rule_ke (z := (w.heap.size + 1)) (Keeps.of_below kwxwl _ _ hd3) nz3
        obtain ⟨q0, hq0⟩ : ∃ q0, q0 = wl.drew := ⟨_, rfl⟩
        have bq0 : Below wl.heap.size wl q0 := by rw [hq0]; exact (Below.refl _ _).drew
        have keq0 := KE.of (w.heap.size + 1) bq0
        refine gC_start (KE wl (w.heap.size + 1)) [12] 13 (by kernel_rfl) rfl ?_
        refine gC_take [0, 1, 2, 3, 4, 5, 6, 7, 10] (f := 4) (l' := #[true, true, true, true, true, true, true, true, false, false, true, false, false]) (lT := [_, _, _, _, _, _, _, _, _]) (by rw [← hq0]; exact keq0) rfl (by kernel_rfl) (by kernel_rfl) (by kernel_rfl) rfl (fun _ _ d _ _ h => by cases d <;> exact h) ?_
        repeat ((first | ((refine takeY_skip (a' := ?_) ?_ ?_ ?_); (rotate_left); (· (simp [Region.wanted, yielded, Go.undef]; done))) | ((refine takeY_step (v := ?_) (a' := ?_) ?_ ?_ ?_ ?_); (rotate_left 2); (· (simp [Region.wanted, yielded, Go.undef]; done)); (· (intro w' hS'; go_simp; try (with_reducible rfl))))); (· (simp only [List.getElem_toArray, List.getElem_cons_zero, List.getElem_cons_succ, Act.put, List.setIfInBounds_toArray, List.set_cons_zero, List.set_cons_succ]; exact rfl)))
        refine takeY_nil ?_
        rw [← hq0]
        clear hq0
        refine gC_one (i := 8) (by kernel_rfl) rfl ?_
        go_wp2_with fail
        refine name_midw ?_
        intro q1 hn
        have hbq1 : Below q0.heap.size q0 q1 := by rw [hn]; exact (Below.refl _ _).alloc (Nat.le_refl _) _
        have zq1 : Blk q1 q0.heap.size #[.int .i64 kp, .int .i64 np, .slice Ap sp.length cp, .int .i64 khd, .int .i64 nhd, .slice Ahd shd.length chd] := by rw [hn]; exact Blk.new_ _ 25 _ rfl
        have seq1 : q0.heap.size < q1.heap.size := by rw [hn]; simp
        clear hn
        have bq1 : Below wl.heap.size wl q1 := bq0.trans (hbq1.mono bq0.size)
        have lq1 := hbq1.size
        have keq1 := KE.of (w.heap.size + 1) bq1
        refine mid_intro keq1 ?_
        refine gC_one (i := 9) (by kernel_rfl) rfl ?_
        go_wp2_with (go_at_call 46; refine (sNodeT_any 5 (rdx_consT hlp ((rp.below kwwl).below bq1).rdp (rdx_consT hlhd ((rhd.below kwxwl).below bq1).rdp rdx_nilT)) 2 rfl (by omega) _ _ zq1).mono ?_; rintro e q2 ⟨A7, c7, rfl, r7, hbq2⟩)
        have bq2 : Below wl.heap.size wl q2 := bq1.trans (hbq2.mono bq1.size)
        have lq2 := hbq2.size
        have keq2 := KE.of (w.heap.size + 1) bq2
        refine mid_intro keq2 ?_
        refine gC_one (i := 11) (by kernel_rfl) rfl ?_
        have hZz := hZwl.keep bq2
        obtain ⟨d0, d1, d2⟩ := hZz.three
        have e0 := hZz.frozen 0
        have e1 := hZz.frozen 1
        have e2 := hZz.frozen 2
        have lz := hZz.lt
        go_wp2_with fail
        refine name_midw ?_
        intro q3 hn
        have hZq3 : Blk q3 (w.heap.size + 1) #[.int .i64 5, .int .i64 0, .slice A7 2 c7] := by rw [hn]; exact ((hZz.set_ 0 _).set_ 1 _).set_ 2 _
        have rq3 : Rd q3 A7 0 [.mk kp np sp, .mk khd nhd shd] := by rw [hn]; exact rd_set0L hZz hvl.out r7 _ _ _
        have kwq3 : Below w.heap.size w q3 := by rw [hn]; exact (((kwwl.trans (bq2.mono kwwl.size)).setCell (by simp <;> omega) _).setCell (by simp <;> omega) _).setCell (by simp <;> omega) _
        have keq3 : KE wl (w.heap.size + 1) q3 := by rw [hn]; exact ((keq2.set _ _).set _ _).set _ _
        clear hn d0 d1 d2 e0 e1 e2 lz
        refine mid_intro keq3 ?_
        refine gC_end [12] (lB := [_]) (by simp) (by kernel_rfl) (by kernel_rfl) rfl ?_
        simp only [List.getElem_toArray, List.getElem_cons_zero, List.getElem_cons_succ, Act.put, List.setIfInBounds_toArray, List.set_cons_zero, List.set_cons_succ]
        obtain ⟨d0, d1, d2⟩ := hZq3.three
        have e0 := hZq3.frozen 0
        have e1 := hZq3.frozen 1
        have e2 := hZq3.frozen 2
        have lz := hZq3.lt
        go_wp2_with fail
        refine bodyPost_ret (v := .tuple #[.agg #[.int .i64 5, .int .i64 0, .slice A7 2 c7], .int .i64 (cdB b)]) (by simp [results, Try.results76, go_sem, d0, d1, d2]) rfl ⟨5, 0, A7, 2, c7, rfl, kwq3⟩
   ·have hC1 := hide (fun (A2 : Option Addr) (c2 : Nat) (w : World) (hrc : Rd w C 0 ctx) (hrt : Rd w Az 0 sz) (hr2 : Rd w A2 0 [.mk kp np sp, .mk khb nhb shb]) => sCheck_any ih ctx C cc kz nz sz Az cz 5 0 [.mk kp np sp, .mk khb nhb shb] A2 c2 _ w h3 hvz hvc (by omega) hrc hrt (by simp only [sizes, Tm.size]; omega) hr2)
    injection hs with hs
    subst hs
    clear h1 h2 h3 hvp hve hvz hvc ih hv3
    go_enter Try.func76, Try.ntmps76
    go_upto_region 4 with (go_at_call 85; refine (hS1.out _ ((hrc.alloc _).alloc _) ((re.alloc _).alloc _)).mono ?_; rintro e w1 ⟨A3, c3, rfl, hl3, r3, hb1⟩; have hTw1 : Blk w1 w.heap.size #[.int .i64 k, .int .i64 n, .slice (some ⟨bk, ok, none⟩) 3 c] := ((Blk.new_ w 25 #[.int .i64 k, .int .i64 n, .slice (some ⟨bk, ok, none⟩) 3 c] rfl).alloc _).keep hb1; have hZw1 : Blk w1 (w.heap.size + 1) #[.int .i64 0, .int .i64 0, .slice none 0 0] := (Blk.new_ _ 25 #[.int .i64 0, .int .i64 0, .slice none 0 0] (by simp)).keep hb1; have kww1 : Below w.heap.size w w1 := (((Below.refl _ _).alloc (by simp <;> omega) _).alloc (by simp <;> omega) _).trans (hb1.mono (by simp <;> omega)); have ltw := hTw1.lt)
    refine name_world ?_
    intro wx hwwx
    have hTwx : Blk wx w.heap.size #[.int .i64 k, .int .i64 n, .slice (some ⟨bk, ok, none⟩) 3 c] := by rw [hwwx]; exact (hTw1.alloc _)
    have hZwx : Blk wx (w.heap.size + 1) #[.int .i64 0, .int .i64 0, .slice none 0 0] := by rw [hwwx]; exact (hZw1.alloc _)
    have hKwx : Blk wx w1.heap.size #[.int .i64 10, .int .i64 n3, .slice A3 3 c3] := by rw [hwwx]; exact (Blk.new_ _ 25 _ (by simp))
    have kwwx : Below w.heap.size w wx := by rw [hwwx]; exact (kww1.alloc (by have := kww1.size; simp <;> omega) _)
    have r3x : Rd wx A3 0 [.mk kha nha sha, .mk khb nhb shb, .mk khd nhd shd] := by rw [hwwx]; exact r3.alloc _
    clear hwwx
    obtain ⟨bh, oh, x1, x2, x3, Aha, cha, rfl, hk1, ha1, ha2, ha3, hlha, rha⟩ := r3x.at_ (j := 0) (by simp)
    injection hk1 with e1 e2 e3
    subst e1 e2 e3
    obtain ⟨bb, ob, x1, x2, x3, Ahb, chb, hAb, hk1, hb1, hb2, hb3, hlhb, rhb⟩ := r3x.at_ (j := 1) (by simp)
    injection hk1 with e1 e2 e3
    injection hAb with hA
    injection hA with hA1 hA2
    subst e1 e2 e3 hA1 hA2
    obtain ⟨bb, ob, x1, x2, x3, Ahd, chd, hAb, hk1, hd1, hd2, hd3, hlhd, rhd⟩ := r3x.at_ (j := 2) (by simp)
    injection hk1 with e1 e2 e3
    injection hAb with hA
    injection hA with hA1 hA2
    subst e1 e2 e3 hA1 hA2
    simp only [Nat.zero_mul, Nat.add_zero, Nat.one_mul, Nat.reduceMul] at ha1 ha2 ha3 hb1 hb2 hb3 hd1 hd2 hd3
    replace hKwx : Blk wx w1.heap.size #[.int .i64 10, .int .i64 n3, .slice (some ⟨bh, oh, none⟩) 3 c3] := hKwx
    have v2 := rule_of hTwx.three.2.2
    have kq := rule_of hKwx.three.2.2
    have up1 := rule_of (Keeps.of_below kwwx _ _ p1)
    have up2 := rule_of (Keeps.of_below kwwx _ _ p2)
    have up3 := rule_of (Keeps.of_below kwwx _ _ p3)
    have uha1 := rule_of ha1
    have uha2 := rule_of ha2
    have uha3 := rule_of ha3
    obtain ⟨q0, hq0⟩ : ∃ q0, q0 = wx.drew := ⟨_, rfl⟩
    have bq0 : Below wx.heap.size wx q0 := by rw [hq0]; exact (Below.refl _ _).drew
    refine gC_start (fun w' => Below wx.heap.size wx w') [10] 11 (by kernel_rfl) rfl ?_
    refine gC_take [0, 1, 2, 3, 4, 5, 6, 7, 8] (f := 2) (l' := #[true, true, true, true, true, true, true, true, true, false, false]) (lT := [_, _, _, _, _, _, _, _, _]) (by rw [← hq0]; exact bq0) rfl (by kernel_rfl) (by kernel_rfl) (by kernel_rfl) rfl (fun _ _ d _ _ h => by cases d <;> exact h) ?_
    repeat ((first | ((refine takeY_skip (a' := ?_) ?_ ?_ ?_); (rotate_left); (· (simp [Region.wanted, yielded, Go.undef]; done))) | ((refine takeY_step (v := ?_) (a' := ?_) ?_ ?_ ?_ ?_); (rotate_left 2); (· (simp [Region.wanted, yielded, Go.undef]; done)); (· (intro w' hS'; go_simp; try (with_reducible rfl))))); (· (simp only [List.getElem_toArray, List.getElem_cons_zero, List.getElem_cons_succ, Act.put, List.setIfInBounds_toArray, List.set_cons_zero, List.set_cons_succ]; exact rfl)))
    refine takeY_nil ?_
    rw [← hq0]
    clear hq0
    refine gC_one (i := 9) (by kernel_rfl) rfl ?_
    ·go_wp2_with (go_at_call 88; refine (hF.out _ _ _ ((hrc.below kwwx).below bq0) ((rp.below kwwx).below bq0) (rha.below bq0)).mono ?_; rintro e q1 ⟨he, hbq1⟩; obtain rfl : e = .returned (.int .i64 0) := he)
     have bq1 : Below wx.heap.size wx q1 := bq0.trans (hbq1.mono bq0.size)
     have lq1 := hbq1.size
     refine mid_intro bq1 ?_
     refine gC_end [10] (lB := [_]) (by simp) (by kernel_rfl) (by kernel_rfl) rfl ?_
     simp only [List.getElem_toArray, List.getElem_cons_zero, List.getElem_cons_succ, Act.put, List.setIfInBounds_toArray, List.set_cons_zero, List.set_cons_succ]
     have hTq1 := hTwx.keep bq1
     have hZq1 := hZwx.keep bq1
     have hKq1 := hKwx.keep bq1
     have kwq1 := kwwx.trans (bq1.mono kwwx.size)
     have kwxq1 := bq1
     go_upto_region 6 with fail
     refine name_world ?_
     intro wu hwwu
     have hTwu : Blk wu w.heap.size #[.int .i64 k, .int .i64 n, .slice (some ⟨bk, ok, none⟩) 3 c] := by rw [hwwu]; exact hTq1
     have hZwu : Blk wu (w.heap.size + 1) #[.int .i64 0, .int .i64 0, .slice none 0 0] := by rw [hwwu]; exact hZq1
     have hKwu : Blk wu w1.heap.size #[.int .i64 10, .int .i64 n3, .slice (some ⟨bh, oh, none⟩) 3 c3] := by rw [hwwu]; exact hKq1
     have kwwu : Below w.heap.size w wu := by rw [hwwu]; exact kwq1
     have kwxwu : Below wx.heap.size wx wu := by rw [hwwu]; exact kwxq1
     clear hwwu
     clear v2 kq up1 up2 up3 uha1 uha2 uha3
     have v2 := rule_of hTwu.three.2.2
     have kq := rule_of hKwu.three.2.2
     have uz1 := rule_of (Keeps.of_below kwwu _ _ z1)
     have uz2 := rule_of (Keeps.of_below kwwu _ _ z2)
     have uz3 := rule_of (Keeps.of_below kwwu _ _ z3)
     have up1 := rule_of (Keeps.of_below kwwu _ _ p1)
     have up2 := rule_of (Keeps.of_below kwwu _ _ p2)
     have up3 := rule_of (Keeps.of_below kwwu _ _ p3)
     have uhb1 := rule_of (Keeps.of_below kwxwu _ _ hb1)
     have uhb2 := rule_of (Keeps.of_below kwxwu _ _ hb2)
     have uhb3 := rule_of (Keeps.of_below kwxwu _ _ hb3)
     obtain ⟨q0, hq0⟩ : ∃ q0, q0 = wu.drew := ⟨_, rfl⟩
     have bq0 : Below wu.heap.size wu q0 := by rw [hq0]; exact (Below.refl _ _).drew
     refine gC_start (fun w' => Below wu.heap.size wu w') [16] 17 (by kernel_rfl) rfl ?_
     refine gC_take [0, 1, 2, 3, 4, 5, 6, 7, 8, 9, 10, 11, 12] (f := 4) (l' := #[true, true, true, true, true, true, true, true, true, true, true, true, true, false, false, false, false]) (lT := [_, _, _, _, _, _, _, _, _, _, _, _, _]) (by rw [← hq0]; exact bq0) rfl (by kernel_rfl) (by kernel_rfl) (by kernel_rfl) rfl (fun _ _ d _ _ h => by cases d <;> exact h) ?_
     repeat ((first | ((refine takeY_skip (a' := ?_) ?_ ?_ ?_); (rotate_left); (· (simp [Region.wanted, yielded, Go.undef]; done))) | ((refine takeY_step (v := ?_) (a' := ?_) ?_ ?_ ?_ ?_); (rotate_left 2); (· (simp [Region.wanted, yielded, Go.undef]; done)); (· (intro w' hS'; go_simp; try (with_reducible rfl))))); (· (simp only [List.getElem_toArray, List.getElem_cons_zero, List.getElem_cons_succ, Act.put, List.setIfInBounds_toArray, List.set_cons_zero, List.set_cons_succ]; exact rfl)))
     refine takeY_nil ?_
     rw [← hq0]
     clear hq0
     refine gC_one (i := 13) (by kernel_rfl) rfl ?_
     ·go_wp2_with fail
      refine name_midw ?_
      intro q1 hn
      have hbq1 : Below q0.heap.size q0 q1 := by rw [hn]; exact (Below.refl _ _).alloc (Nat.le_refl _) _
      have zq1 : Blk q1 q0.heap.size #[.int .i64 kp, .int .i64 np, .slice Ap sp.length cp, .int .i64 khb, .int .i64 nhb, .slice Ahb shb.length chb] := by rw [hn]; exact Blk.new_ _ 25 _ rfl
      have seq1 : q0.heap.size < q1.heap.size := by rw [hn]; simp
      clear hn
      have bq1 : Below wu.heap.size wu q1 := bq0.trans (hbq1.mono bq0.size)
      have lq1 := hbq1.size
      refine mid_intro bq1 ?_
      refine gC_one (i := 14) (by kernel_rfl) rfl ?_
      ·go_wp2_with (go_at_call 46; refine (sNodeT_any 5 (rdx_consT hlp ((rp.below kwwu).below bq1).rdp (rdx_consT hlhb ((rhb.below kwxwu).below bq1).rdp rdx_nilT)) 2 rfl (by omega) _ _ zq1).mono ?_; rintro e q2 ⟨A7, c7, rfl, r7, hbq2⟩)
       have bq2 : Below wu.heap.size wu q2 := bq1.trans (hbq2.mono bq1.size)
       have lq2 := hbq2.size
       refine mid_intro bq2 ?_
       refine gC_one (i := 15) (by kernel_rfl) rfl ?_
       ·go_wp2_with (go_at_call 86; refine (hC1.out _ _ _ ((hrc.below kwwu).below bq2) ((rz.below kwwu).below bq2) r7).mono ?_; rintro e q3 ⟨he, hbq3⟩; obtain rfl : e = .returned (.int .i64 0) := he)
        have bq3 : Below wu.heap.size wu q3 := bq2.trans (hbq3.mono bq2.size)
        have lq3 := hbq3.size
        refine mid_intro bq3 ?_
        refine gC_end [16] (lB := [_]) (by simp) (by kernel_rfl) (by kernel_rfl) rfl ?_
        simp only [List.getElem_toArray, List.getElem_cons_zero, List.getElem_cons_succ, Act.put, List.setIfInBounds_toArray, List.set_cons_zero, List.set_cons_succ]
        have hTq3 := hTwu.keep bq3
        have hZq3 := hZwu.keep bq3
        have hKq3 := hKwu.keep bq3
        have kwq3 := kwwu.trans (bq3.mono kwwu.size)
        have kwxq3 := kwxwu.trans (bq3.mono kwxwu.size)
        have kwuq3 := bq3
        go_upto_region 7 with fail
        refine name_world ?_
        intro wl hwwl
        have hTwl : Blk wl w.heap.size #[.int .i64 k, .int .i64 n, .slice (some ⟨bk, ok, none⟩) 3 c] := by rw [hwwl]; exact hTq3
        have hZwl : Blk wl (w.heap.size + 1) #[.int .i64 0, .int .i64 0, .slice none 0 0] := by rw [hwwl]; exact hZq3
        have hKwl : Blk wl w1.heap.size #[.int .i64 10, .int .i64 n3, .slice (some ⟨bh, oh, none⟩) 3 c3] := by rw [hwwl]; exact hKq3
        have kwwl : Below w.heap.size w wl := by rw [hwwl]; exact kwq3
        have kwxwl : Below wx.heap.size wx wl := by rw [hwwl]; exact kwxq3
        have kwuwl : Below wu.heap.size wu wl := by rw [hwwl]; exact kwuq3
        clear hwwl
        clear v2 kq
        have lTz := hTwl.lt
        have lZz := hZwl.lt
        have lwx := hZwx.lt
        have lw1 := hZw1.lt
        have nz0 : bk ≠ (w.heap.size + 1) := by omega
        have nz1 : w.heap.size ≠ (w.heap.size + 1) := by omega
        have nz2 : w1.heap.size ≠ (w.heap.size + 1) := by omega
        have nz3 : bh ≠ (w.heap.size + 1) := fun e => bh_ne hZwx (show validT (.mk kha nha sha) = true from hvha.out) (e ▸ ha1)
        have v2 := rule_ke (z := (w.heap.size + 1)) hTwl.three.2.2 nz1
        have kq := rule_ke (z := (w.heap.size + 1)) hKwl.three.2.2 nz2
        have yp1 := rule_ke (z := (w.heap.size + 1)) (Keeps.of_below kwwl _ _ p1) nz0
        have yp2 := rule_ke (z := (w.heap.size + 1)) (Keeps.of_below kwwl _ _ p2) nz0
        have yp3 := rule_ke (z := (w.heap.size + 1)) (Keeps.of_below kwwl _ _ p3) nz0
        have yhd1 := rule_ke (z := (w.heap.size + 1)) (Keeps.of_below kwxwl _ _ hd1) nz3
        have yhd2 := rule_ke (z := (w.heap.size + 1)) (Keeps.of_below kwxwl _ _ hd2) nz3
        have yhd3 := rule_ke (z := (w.heap.size + 1)) (Keeps.of_below kwxwl _ _ hd3) nz3
        obtain ⟨q0, hq0⟩ : ∃ q0, q0 = wl.drew := ⟨_, rfl⟩
        have bq0 : Below wl.heap.size wl q0 := by rw [hq0]; exact (Below.refl _ _).drew
        have keq0 := KE.of (w.heap.size + 1) bq0
        refine gC_start (KE wl (w.heap.size + 1)) [12] 13 (by kernel_rfl) rfl ?_
        refine gC_take [0, 1, 2, 3, 4, 5, 6, 7, 10] (f := 4) (l' := #[true, true, true, true, true, true, true, true, false, false, true, false, false]) (lT := [_, _, _, _, _, _, _, _, _]) (by rw [← hq0]; exact keq0) rfl (by kernel_rfl) (by kernel_rfl) (by kernel_rfl) rfl (fun _ _ d _ _ h => by cases d <;> exact h) ?_
        repeat ((first | ((refine takeY_skip (a' := ?_) ?_ ?_ ?_); (rotate_left); (· (simp [Region.wanted, yielded, Go.undef]; done))) | ((refine takeY_step (v := ?_) (a' := ?_) ?_ ?_ ?_ ?_); (rotate_left 2); (· (simp [Region.wanted, yielded, Go.undef]; done)); (· (intro w' hS'; go_simp; try (with_reducible rfl))))); (· (simp only [List.getElem_toArray, List.getElem_cons_zero, List.getElem_cons_succ, Act.put, List.setIfInBounds_toArray, List.set_cons_zero, List.set_cons_succ]; exact rfl)))
        refine takeY_nil ?_
        rw [← hq0]
        clear hq0
        refine gC_one (i := 8) (by kernel_rfl) rfl ?_
        go_wp2_with fail
        refine name_midw ?_
        intro q1 hn
        have hbq1 : Below q0.heap.size q0 q1 := by rw [hn]; exact (Below.refl _ _).alloc (Nat.le_refl _) _
        have zq1 : Blk q1 q0.heap.size #[.int .i64 kp, .int .i64 np, .slice Ap sp.length cp, .int .i64 khd, .int .i64 nhd, .slice Ahd shd.length chd] := by rw [hn]; exact Blk.new_ _ 25 _ rfl
        have seq1 : q0.heap.size < q1.heap.size := by rw [hn]; simp
        clear hn
        have bq1 : Below wl.heap.size wl q1 := bq0.trans (hbq1.mono bq0.size)
        have lq1 := hbq1.size
        have keq1 := KE.of (w.heap.size + 1) bq1
        refine mid_intro keq1 ?_
        refine gC_one (i := 9) (by kernel_rfl) rfl ?_
        go_wp2_with (go_at_call 46; refine (sNodeT_any 5 (rdx_consT hlp ((rp.below kwwl).below bq1).rdp (rdx_consT hlhd ((rhd.below kwxwl).below bq1).rdp rdx_nilT)) 2 rfl (by omega) _ _ zq1).mono ?_; rintro e q2 ⟨A7, c7, rfl, r7, hbq2⟩)
        have bq2 : Below wl.heap.size wl q2 := bq1.trans (hbq2.mono bq1.size)
        have lq2 := hbq2.size
        have keq2 := KE.of (w.heap.size + 1) bq2
        refine mid_intro keq2 ?_
        refine gC_one (i := 11) (by kernel_rfl) rfl ?_
        have hZz := hZwl.keep bq2
        obtain ⟨d0, d1, d2⟩ := hZz.three
        have e0 := hZz.frozen 0
        have e1 := hZz.frozen 1
        have e2 := hZz.frozen 2
        have lz := hZz.lt
        go_wp2_with fail
        refine name_midw ?_
        intro q3 hn
        have hZq3 : Blk q3 (w.heap.size + 1) #[.int .i64 5, .int .i64 0, .slice A7 2 c7] := by rw [hn]; exact ((hZz.set_ 0 _).set_ 1 _).set_ 2 _
        have rq3 : Rd q3 A7 0 [.mk kp np sp, .mk khd nhd shd] := by rw [hn]; exact rd_set0L hZz hvl.out r7 _ _ _
        have kwq3 : Below w.heap.size w q3 := by rw [hn]; exact (((kwwl.trans (bq2.mono kwwl.size)).setCell (by simp <;> omega) _).setCell (by simp <;> omega) _).setCell (by simp <;> omega) _
        have keq3 : KE wl (w.heap.size + 1) q3 := by rw [hn]; exact ((keq2.set _ _).set _ _).set _ _
        clear hn d0 d1 d2 e0 e1 e2 lz
        refine mid_intro keq3 ?_
        refine gC_end [12] (lB := [_]) (by simp) (by kernel_rfl) (by kernel_rfl) rfl ?_
        simp only [List.getElem_toArray, List.getElem_cons_zero, List.getElem_cons_succ, Act.put, List.setIfInBounds_toArray, List.set_cons_zero, List.set_cons_succ]
        obtain ⟨d0, d1, d2⟩ := hZq3.three
        have e0 := hZq3.frozen 0
        have e1 := hZq3.frozen 1
        have e2 := hZq3.frozen 2
        have lz := hZq3.lt
        go_wp2_with fail
        refine bodyPost_ret (v := .tuple #[.agg #[.int .i64 5, .int .i64 0, .slice A7 2 c7], .int .i64 0]) (by simp [results, Try.results76, go_sem, d0, d1, d2]) rfl ⟨A7, c7, rfl, by simp, rq3, kwq3⟩
end Go.Proofs.Ytddkehjdjfmhmaa
