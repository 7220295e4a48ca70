/-
 Contracts of the functions that the law reaches, and plain lemmas. No condition.
-/
import Derived.Test.YtddkehjdjfmhmaaK23
namespace Go.Proofs.Ytddkehjdjfmhmaa
set_option linter.unusedSimpArgs false
set_option linter.unusedVariables false
open Go.RowKit
set_option maxRecDepth 100000 in
set_option maxHeartbeats 8000000 in
theorem sFamily_any {N : Nat} (ih : InfC N) (ctx : List Tm) (C : Option Addr) (cc : Nat) (kp np : Int) (sp : List Tm) (Ap : Option Addr) (cp : Nat) (kq nq : Int) (sq : List Tm) (Aq : Option Addr) (cq : Nat) (r : Rs Unit) (w : World) (hs : famR (infR N) ctx (.mk kp np sp) (.mk kq nq sq) = some r) (hvp : validT (.mk kp np sp) = true) (hszq : sizes sq ≤ 1000000) (hvc : ∀ u, u ∈ ctx → validT u = true) (hm : ctx.length ≤ 20) (hrc : Rd w C 0 ctx) (rp : Rd w Ap 0 sp) (rq : Rd w Aq 0 sq) :
  Calls Try.prog 88 #[.slice C ctx.length cc, .agg #[.int .i64 kp, .int .i64 np, .slice Ap sp.length cp], .agg #[.int .i64 kq, .int .i64 nq, .slice Aq sq.length cq]] w fun e w' => e = .returned (.int .i64 r.cd) ∧ Below w.heap.size w w' := by
 rcases bd_inv hs with ⟨b, h1, rfl⟩ | ⟨⟨k3, n3, s3⟩, h1, hs⟩
 ·have hS1 := hide (fun (w : World) (hrc : Rd w C 0 ctx) (rp : Rd w Ap 0 sp) => sShape_any ih ctx C cc kp np sp Ap cp 3 _ w h1 hvp hvc (by omega) hrc rp)
  have qb := cdB_q b
  clear hs h1 hvp hvc ih
  go_enter Try.func88, Try.ntmps88
  go_wp2_with (go_at_call 85; refine (hS1.out _ ((hrc.alloc _).alloc _) ((rp.alloc _).alloc _)).mono ?_; rintro e w1 ⟨k3, n3, A3, l3, c3, rfl, hb1⟩; have g1 : Below w.heap.size w w1 := (((Below.refl _ _).alloc (by simp <;> omega) _).alloc (by simp <;> omega) _).trans (hb1.mono (by simp <;> omega)); have g2 := g1.alloc g1.size (.cells #[.int .i64 k3, .int .i64 n3, .slice A3 l3 c3] 25))
  go_ret
  exact ⟨rfl, g2⟩
 ·obtain ⟨hk3, hv3⟩ := shpR_ok h1
  obtain rfl : k3 = 3 := hk3
  obtain ⟨kha, nha, sha, khb, nhb, shb, rfl⟩ := kids2 (k := 3) rfl hv3
  have hvha : validT (.mk kha nha sha) = true := validT_kidT (i := 0) hv3 (by simp)
  have hvhb : validT (.mk khb nhb shb) = true := validT_kidT (i := 1) hv3 (by simp)
  have hS1 := hide (fun (w : World) (hrc : Rd w C 0 ctx) (rp : Rd w Ap 0 sp) => sShape_any ih ctx C cc kp np sp Ap cp 3 _ w h1 hvp hvc (by omega) hrc rp)
  rcases bd_inv hs with ⟨b, h2, rfl⟩ | ⟨u2, h2, hs⟩
  ·injection h2 with h2
   replace h2 : smR (.mk kha nha sha) (.mk kq nq sq) = _ := h2
   have hS2 := hide (fun (A : Option Addr) (c : Nat) (w : World) (hr : Rd w A 0 sha) (rq : Rd w Aq 0 sq) => sSameT_any kha nha sha A c kq nq sq Aq cq w hvha hszq hr rq)
   rw [h2] at hS2
   have qb := cdB_q b
   clear hs h1 h2 hvp hvc ih hv3 hvha hvhb
   go_enter Try.func88, Try.ntmps88
   go_upto_region 4 with (go_at_call 85; refine (hS1.out _ ((hrc.alloc _).alloc _) ((rp.alloc _).alloc _)).mono ?_; rintro e w1 ⟨A3, c3, rfl, hl3, r3, hb1⟩; have hQw1 : Blk w1 (w.heap.size + 1) #[.int .i64 kq, .int .i64 nq, .slice Aq sq.length cq] := (Blk.new_ _ 25 #[.int .i64 kq, .int .i64 nq, .slice Aq sq.length cq] (by simp)).keep hb1; have kww1 : Below w.heap.size w w1 := (((Below.refl _ _).alloc (by simp <;> omega) _).alloc (by simp <;> omega) _).trans (hb1.mono (by simp <;> omega)))
   refine name_world ?_
   intro wx hwwx
   have hQwx : Blk wx (w.heap.size + 1) #[.int .i64 kq, .int .i64 nq, .slice Aq sq.length cq] := by rw [hwwx]; exact (hQw1.alloc _)
   have hKwx : Blk wx w1.heap.size #[.int .i64 3, .int .i64 n3, .slice A3 2 c3] := by rw [hwwx]; exact (Blk.new_ _ 25 _ (by simp))
   have kwwx : Below w.heap.size w wx := by rw [hwwx]; exact (kww1.alloc (by have := kww1.size; simp <;> omega) _)
   have r3x : Rd wx A3 0 [.mk kha nha sha, .mk khb nhb shb] := by rw [hwwx]; exact r3.alloc _
   clear hwwx
   obtain ⟨bh, oh, x1, x2, x3, Aha, cha, rfl, hk1, ha1, ha2, ha3, hlha, rha⟩ := r3x.at_ (j := 0) (by simp)
   injection hk1 with e1 e2 e3
   subst e1 e2 e3
   obtain ⟨bb, ob, x1, x2, x3, Ahb, chb, hAb, hk1, hb1, hb2, hb3, hlhb, rhb⟩ := r3x.at_ (j := 1) (by simp)
   injection hk1 with e1 e2 e3
   injection hAb with hA
   injection hA with hA1 hA2
   subst e1 e2 e3 hA1 hA2
   simp only [Nat.zero_mul, Nat.add_zero, Nat.one_mul, Nat.reduceMul] at ha1 ha2 ha3 hb1 hb2 hb3
   replace hKwx : Blk wx w1.heap.size #[.int .i64 3, .int .i64 n3, .slice (some ⟨bh, oh, none⟩) 2 c3] := hKwx
   have v2 := rule_of hKwx.three.2.2
   have z0 := rule_of hQwx.three.1
   have z1 := rule_of hQwx.three.2.1
   have z2 := rule_of hQwx.three.2.2
   have uha1 := rule_of ha1
   have uha2 := rule_of ha2
   have uha3 := rule_of ha3
   obtain ⟨q0, hq0⟩ : ∃ q0, q0 = wx.drew := ⟨_, rfl⟩
   have bq0 : Below wx.heap.size wx q0 := by rw [hq0]; exact (Below.refl _ _).drew
   refine gC_start (fun w' => Below wx.heap.size wx w') [6] 7 (by kernel_rfl) rfl ?_
   refine gC_take [0, 1, 2, 3, 4] (f := 2) (l' := #[true, true, true, true, true, false, false]) (lT := [_, _, _, _, _]) (by rw [← hq0]; exact bq0) rfl (by kernel_rfl) (by kernel_rfl) (by kernel_rfl) rfl (fun _ _ d _ _ h => by cases d <;> exact h) ?_
   repeat ((first | ((refine takeY_skip (a' := ?_) ?_ ?_ ?_); (rotate_left); (· (simp [Region.wanted, yielded, Go.undef]; done))) | ((refine takeY_step (v := ?_) (a' := ?_) ?_ ?_ ?_ ?_); (rotate_left 2); (· (simp [Region.wanted, yielded, Go.undef]; done)); (· (intro w' hS'; go_simp; try (with_reducible rfl))))); (· (simp only [List.getElem_toArray, List.getElem_cons_zero, List.getElem_cons_succ, Act.put, List.setIfInBounds_toArray, List.set_cons_zero, List.set_cons_succ]; exact rfl)))
   refine takeY_nil ?_
   rw [← hq0]
   clear hq0
   refine gC_one (i := 5) (by kernel_rfl) rfl ?_
   ·go_wp2_with (go_at_call 93; refine (hS2.out _ _ _ (rha.below bq0) ((rq.below kwwx).below bq0)).mono ?_; rintro e q1 ⟨he, hbq1⟩; obtain rfl : e = .returned (.int .i64 (cdB b)) := he)
    have bq1 : Below wx.heap.size wx q1 := bq0.trans (hbq1.mono bq0.size)
    have lq1 := hbq1.size
    refine mid_intro bq1 ?_
    refine gC_end [6] (lB := [_]) (by simp) (by kernel_rfl) (by kernel_rfl) rfl ?_
    simp only [List.getElem_toArray, List.getElem_cons_zero, List.getElem_cons_succ, Act.put, List.setIfInBounds_toArray, List.set_cons_zero, List.set_cons_succ]
    have hQq1 := hQwx.keep bq1
    have hKq1 := hKwx.keep bq1
    have kwq1 := kwwx.trans (bq1.mono kwwx.size)
    have kwxq1 := bq1
    go_wp2_with fail
    go_ret
    exact ⟨rfl, kwq1⟩
  ·injection h2 with h2
   replace h2 : smR (.mk kha nha sha) (.mk kq nq sq) = _ := h2
   have hS2 := hide (fun (A : Option Addr) (c : Nat) (w : World) (hr : Rd w A 0 sha) (rq : Rd w Aq 0 sq) => sSameT_any kha nha sha A c kq nq sq Aq cq w hvha hszq hr rq)
   rw [h2] at hS2
   rcases bd_inv hs with ⟨b, h4, rfl⟩ | ⟨⟨k6, n6, s6⟩, h4, hs⟩
   ·injection h4 with h4
    replace h4 : hdR (.mk khb nhb shb) = _ := h4
    have hH := hide (fun (A : Option Addr) (c : Nat) (w : World) (hr : Rd w A 0 shb) => sHd_any khb nhb shb A c w hvhb hr)
    rw [h4] at hH
    have qb := cdB_q b
    clear hs h1 h2 h4 hvp hvc ih hv3 hvha hvhb
    go_enter Try.func88, Try.ntmps88
    go_upto_region 4 with (go_at_call 85; refine (hS1.out _ ((hrc.alloc _).alloc _) ((rp.alloc _).alloc _)).mono ?_; rintro e w1 ⟨A3, c3, rfl, hl3, r3, hb1⟩; have hQw1 : Blk w1 (w.heap.size + 1) #[.int .i64 kq, .int .i64 nq, .slice Aq sq.length cq] := (Blk.new_ _ 25 #[.int .i64 kq, .int .i64 nq, .slice Aq sq.length cq] (by simp)).keep hb1; have kww1 : Below w.heap.size w w1 := (((Below.refl _ _).alloc (by simp <;> omega) _).alloc (by simp <;> omega) _).trans (hb1.mono (by simp <;> omega)))
    refine name_world ?_
    intro wx hwwx
    have hQwx : Blk wx (w.heap.size + 1) #[.int .i64 kq, .int .i64 nq, .slice Aq sq.length cq] := by rw [hwwx]; exact (hQw1.alloc _)
    have hKwx : Blk wx w1.heap.size #[.int .i64 3, .int .i64 n3, .slice A3 2 c3] := by rw [hwwx]; exact (Blk.new_ _ 25 _ (by simp))
    have kwwx : Below w.heap.size w wx := by rw [hwwx]; exact (kww1.alloc (by have := kww1.size; simp <;> omega) _)
    have r3x : Rd wx A3 0 [.mk kha nha sha, .mk khb nhb shb] := by rw [hwwx]; exact r3.alloc _
    clear hwwx
    obtain ⟨bh, oh, x1, x2, x3, Aha, cha, rfl, hk1, ha1, ha2, ha3, hlha, rha⟩ := r3x.at_ (j := 0) (by simp)
    injection hk1 with e1 e2 e3
    subst e1 e2 e3
    obtain ⟨bb, ob, x1, x2, x3, Ahb, chb, hAb, hk1, hb1, hb2, hb3, hlhb, rhb⟩ := r3x.at_ (j := 1) (by simp)
    injection hk1 with e1 e2 e3
    injection hAb with hA
    injection hA with hA1 hA2
    subst e1 e2 e3 hA1 hA2
    simp only [Nat.zero_mul, Nat.add_zero, Nat.one_mul, Nat.reduceMul] at ha1 ha2 ha3 hb1 hb2 hb3
    replace hKwx : Blk wx w1.heap.size #[.int .i64 3, .int .i64 n3, .slice (some ⟨bh, oh, none⟩) 2 c3] := hKwx
    have v2 := rule_of hKwx.three.2.2
    have z0 := rule_of hQwx.three.1
    have z1 := rule_of hQwx.three.2.1
    have z2 := rule_of hQwx.three.2.2
    have uha1 := rule_of ha1
    have uha2 := rule_of ha2
    have uha3 := rule_of ha3
    obtain ⟨q0, hq0⟩ : ∃ q0, q0 = wx.drew := ⟨_, rfl⟩
    have bq0 : Below wx.heap.size wx q0 := by rw [hq0]; exact (Below.refl _ _).drew
    refine gC_start (fun w' => Below wx.heap.size wx w') [6] 7 (by kernel_rfl) rfl ?_
    refine gC_take [0, 1, 2, 3, 4] (f := 2) (l' := #[true, true, true, true, true, false, false]) (lT := [_, _, _, _, _]) (by rw [← hq0]; exact bq0) rfl (by kernel_rfl) (by kernel_rfl) (by kernel_rfl) rfl (fun _ _ d _ _ h => by cases d <;> exact h) ?_
    repeat ((first | ((refine takeY_skip (a' := ?_) ?_ ?_ ?_); (rotate_left); (· (simp [Region.wanted, yielded, Go.undef]; done))) | ((refine takeY_step (v := ?_) (a' := ?_) ?_ ?_ ?_ ?_); (rotate_left 2); (· (simp [Region.wanted, yielded, Go.undef]; done)); (· (intro w' hS'; go_simp; try (with_reducible rfl))))); (· (simp only [List.getElem_toArray, List.getElem_cons_zero, List.getElem_cons_succ, Act.put, List.setIfInBounds_toArray, List.set_cons_zero, List.set_cons_succ]; exact rfl)))
    refine takeY_nil ?_
    rw [← hq0]
    clear hq0
    refine gC_one (i := 5) (by kernel_rfl) rfl ?_
    ·go_wp2_with (go_at_call 93; refine (hS2.out _ _ _ (rha.below bq0) ((rq.below kwwx).below bq0)).mono ?_; rintro e q1 ⟨he, hbq1⟩; obtain rfl : e = .returned (.int .i64 0) := he)
     have bq1 : Below wx.heap.size wx q1 := bq0.trans (hbq1.mono bq0.size)
     have lq1 := hbq1.size
     refine mid_intro bq1 ?_
     refine gC_end [6] (lB := [_]) (by simp) (by kernel_rfl) (by kernel_rfl) rfl ?_
     simp only [List.getElem_toArray, List.getElem_cons_zero, List.getElem_cons_succ, Act.put, List.setIfInBounds_toArray, List.set_cons_zero, List.set_cons_succ]
     have hQq1 := hQwx.keep bq1
     have hKq1 := hKwx.keep bq1
     have kwq1 := kwwx.trans (bq1.mono kwwx.size)
     have kwxq1 := bq1
     have m2 := hKq1.three.2.2
     have mhb1 := Keeps.of_below kwxq1 _ _ hb1
     have mhb2 := Keeps.of_below kwxq1 _ _ hb2
     have mhb3 := Keeps.of_below kwxq1 _ _ hb3
     go_wp2_with (go_at_call 70; refine (hH.out _ _ _ (rhb.below kwxq1)).mono ?_; rintro e w5 ⟨k6, n6, A6, l6, c6, rfl, hb5⟩; have g5 := (kwq1.trans (hb5.mono kwq1.size)).alloc (by have := kwq1.size; have := hb5.size; omega) (.cells #[.int .i64 k6, .int .i64 n6, .slice A6 l6 c6] 25))
     go_ret
     exact ⟨rfl, g5⟩
   ·injection h4 with h4
    replace h4 : hdR (.mk khb nhb shb) = _ := h4
    have hH := hide (fun (A : Option Addr) (c : Nat) (w : World) (hr : Rd w A 0 shb) => sHd_any khb nhb shb A c w hvhb hr)
    rw [h4] at hH
    unfold famH at hs
    by_cases hk : k6 = 2
    ·subst hk
     rw [if_pos (show (Tm.mk 2 n6 s6).k = 2 from rfl)] at hs
     injection hs with hs
     subst hs
     clear h1 h2 h4 hvp hvc ih hv3 hvha hvhb
     go_enter Try.func88, Try.ntmps88
     go_upto_region 4 with (go_at_call 85; refine (hS1.out _ ((hrc.alloc _).alloc _) ((rp.alloc _).alloc _)).mono ?_; rintro e w1 ⟨A3, c3, rfl, hl3, r3, hb1⟩; have hQw1 : Blk w1 (w.heap.size + 1) #[.int .i64 kq, .int .i64 nq, .slice Aq sq.length cq] := (Blk.new_ _ 25 #[.int .i64 kq, .int .i64 nq, .slice Aq sq.length cq] (by simp)).keep hb1; have kww1 : Below w.heap.size w w1 := (((Below.refl _ _).alloc (by simp <;> omega) _).alloc (by simp <;> omega) _).trans (hb1.mono (by simp <;> omega)))
     refine name_world ?_
     intro wx hwwx
     have hQwx : Blk wx (w.heap.size + 1) #[.int .i64 kq, .int .i64 nq, .slice Aq sq.length cq] := by rw [hwwx]; exact (hQw1.alloc _)
     have hKwx : Blk wx w1.heap.size #[.int .i64 3, .int .i64 n3, .slice A3 2 c3] := by rw [hwwx]; exact (Blk.new_ _ 25 _ (by simp))
     have kwwx : Below w.heap.size w wx := by rw [hwwx]; exact (kww1.alloc (by have := kww1.size; simp <;> omega) _)
     have r3x : Rd wx A3 0 [.mk kha nha sha, .mk khb nhb shb] := by rw [hwwx]; exact r3.alloc _
     clear hwwx
     obtain ⟨bh, oh, x1, x2, x3, Aha, cha, rfl, hk1, ha1, ha2, ha3, hlha, rha⟩ := r3x.at_ (j := 0) (by simp)
     injection hk1 with e1 e2 e3
     subst e1 e2 e3
     obtain ⟨bb, ob, x1, x2, x3, Ahb, chb, hAb, hk1, hb1, hb2, hb3, hlhb, rhb⟩ := r3x.at_ (j := 1) (by simp)
     injection hk1 with e1 e2 e3
     injection hAb with hA
     injection hA with hA1 hA2
     subst e1 e2 e3 hA1 hA2
     simp only [Nat.zero_mul, Nat.add_zero, Nat.one_mul, Nat.reduceMul] at ha1 ha2 ha3 hb1 hb2 hb3
     replace hKwx : Blk wx w1.heap.size #[.int .i64 3, .int .i64 n3, .slice (some ⟨bh, oh, none⟩) 2 c3] := hKwx
     have v2 := rule_of hKwx.three.2.2
     have z0 := rule_of hQwx.three.1
     have z1 := rule_of hQwx.three.2.1
     have z2 := rule_of hQwx.three.2.2
     have uha1 := rule_of ha1
     have uha2 := rule_of ha2
     have uha3 := rule_of ha3
     obtain ⟨q0, hq0⟩ : ∃ q0, q0 = wx.drew := ⟨_, rfl⟩
     have bq0 : Below wx.heap.size wx q0 := by rw [hq0]; exact (Below.refl _ _).drew
     refine gC_start (fun w' => Below wx.heap.size wx w') [6] 7 (by kernel_rfl) rfl ?_
     refine gC_take [0, 1, 2, 3, 4] (f := 2) (l' := #[true, true, true, true, true, false, false]) (lT := [_, _, _, _, _]) (by rw [← hq0]; exact bq0) rfl (by kernel_rfl) (by kernel_rfl) (by kernel_rfl) rfl (fun _ _ d _ _ h => by cases d <;> exact h) ?_
     repeat ((first | ((refine takeY_skip (a' := ?_) ?_ ?_ ?_); (rotate_left); (· (simp [Region.wanted, yielded, Go.undef]; done))) | ((refine takeY_step (v := ?_) (a' := ?_) ?_ ?_ ?_ ?_); (rotate_left 2); (· (simp [Region.wanted, yielded, Go.undef]; done)); (· (intro w' hS'; go_simp; try (with_reducible rfl))))); (· (simp only [List.getElem_toArray, List.getElem_cons_zero, List.getElem_cons_succ, Act.put, List.setIfInBounds_toArray, List.set_cons_zero, List.set_cons_succ]; exact rfl)))
     refine takeY_nil ?_
     rw [← hq0]
     clear hq0
     refine gC_one (i := 5) (by kernel_rfl) rfl ?_
     ·go_wp2_with (go_at_call 93; refine (hS2.out _ _ _ (rha.below bq0) ((rq.below kwwx).below bq0)).mono ?_; rintro e q1 ⟨he, hbq1⟩; obtain rfl : e = .returned (.int .i64 0) := he)
      have bq1 : Below wx.heap.size wx q1 := bq0.trans (hbq1.mono bq0.size)
      have lq1 := hbq1.size
      refine mid_intro bq1 ?_
      refine gC_end [6] (lB := [_]) (by simp) (by kernel_rfl) (by kernel_rfl) rfl ?_
      simp only [List.getElem_toArray, List.getElem_cons_zero, List.getElem_cons_succ, Act.put, List.setIfInBounds_toArray, List.set_cons_zero, List.set_cons_succ]
      have hQq1 := hQwx.keep bq1
      have hKq1 := hKwx.keep bq1
      have kwq1 := kwwx.trans (bq1.mono kwwx.size)
      have kwxq1 := bq1
      have m2 := hKq1.three.2.2
      have mhb1 := Keeps.of_below kwxq1 _ _ hb1
      have mhb2 := Keeps.of_below kwxq1 _ _ hb2
      have mhb3 := Keeps.of_below kwxq1 _ _ hb3
      go_wp2_with (go_at_call 70; refine (hH.out _ _ _ (rhb.below kwxq1)).mono ?_; rintro e w5 ⟨A6, c6, rfl, hl6, r6, hb5⟩; have hL5 := Blk.new_ w5 25 #[.int .i64 2, .int .i64 n6, .slice A6 s6.length c6] rfl; obtain ⟨y0, y1, y2⟩ := hL5.three; have g5 := (kwq1.trans (hb5.mono kwq1.size)).alloc (by have := kwq1.size; have := hb5.size; omega) (.cells #[.int .i64 2, .int .i64 n6, .slice A6 s6.length c6] 25))
      go_ret
      exact ⟨rfl, g5⟩
    ·rw [if_neg (show ¬ (Tm.mk k6 n6 s6).k = 2 from hk)] at hs
     injection hs with hs
     subst hs
     have qk : (k6 != 2) = true := by simpa using hk
     clear h1 h2 h4 hvp hvc ih hv3 hvha hvhb hk
     go_enter Try.func88, Try.ntmps88
     go_upto_region 4 with (go_at_call 85; refine (hS1.out _ ((hrc.alloc _).alloc _) ((rp.alloc _).alloc _)).mono ?_; rintro e w1 ⟨A3, c3, rfl, hl3, r3, hb1⟩; have hQw1 : Blk w1 (w.heap.size + 1) #[.int .i64 kq, .int .i64 nq, .slice Aq sq.length cq] := (Blk.new_ _ 25 #[.int .i64 kq, .int .i64 nq, .slice Aq sq.length cq] (by simp)).keep hb1; have kww1 : Below w.heap.size w w1 := (((Below.refl _ _).alloc (by simp <;> omega) _).alloc (by simp <;> omega) _).trans (hb1.mono (by simp <;> omega)))
     refine name_world ?_
     intro wx hwwx
     have hQwx : Blk wx (w.heap.size + 1) #[.int .i64 kq, .int .i64 nq, .slice Aq sq.length cq] := by rw [hwwx]; exact (hQw1.alloc _)
     have hKwx : Blk wx w1.heap.size #[.int .i64 3, .int .i64 n3, .slice A3 2 c3] := by rw [hwwx]; exact (Blk.new_ _ 25 _ (by simp))
     have kwwx : Below w.heap.size w wx := by rw [hwwx]; exact (kww1.alloc (by have := kww1.size; simp <;> omega) _)
     have r3x : Rd wx A3 0 [.mk kha nha sha, .mk khb nhb shb] := by rw [hwwx]; exact r3.alloc _
     clear hwwx
     obtain ⟨bh, oh, x1, x2, x3, Aha, cha, rfl, hk1, ha1, ha2, ha3, hlha, rha⟩ := r3x.at_ (j := 0) (by simp)
     injection hk1 with e1 e2 e3
     subst e1 e2 e3
     obtain ⟨bb, ob, x1, x2, x3, Ahb, chb, hAb, hk1, hb1, hb2, hb3, hlhb, rhb⟩ := r3x.at_ (j := 1) (by simp)
     injection hk1 with e1 e2 e3
     injection hAb with hA
     injection hA with hA1 hA2
     subst e1 e2 e3 hA1 hA2
     simp only [Nat.zero_mul, Nat.add_zero, Nat.one_mul, Nat.reduceMul] at ha1 ha2 ha3 hb1 hb2 hb3
     replace hKwx : Blk wx w1.heap.size #[.int .i64 3, .int .i64 n3, .slice (some ⟨bh, oh, none⟩) 2 c3] := hKwx
     have v2 := rule_of hKwx.three.2.2
     have z0 := rule_of hQwx.three.1
     have z1 := rule_of hQwx.three.2.1
     have z2 := rule_of hQwx.three.2.2
     have uha1 := rule_of ha1
     have uha2 := rule_of ha2
     have uha3 := rule_of ha3
     obtain ⟨q0, hq0⟩ : ∃ q0, q0 = wx.drew := ⟨_, rfl⟩
     have bq0 : Below wx.heap.size wx q0 := by rw [hq0]; exact (Below.refl _ _).drew
     refine gC_start (fun w' => Below wx.heap.size wx w') [6] 7 (by kernel_rfl) rfl ?_
     refine gC_take [0, 1, 2, 3, 4] (f := 2) (l' := #[true, true, true, true, true, false, false]) (lT := [_, _, _, _, _]) (by rw [← hq0]; exact bq0) rfl (by kernel_rfl) (by kernel_rfl) (by kernel_rfl) rfl (fun _ _ d _ _ h => by cases d <;> exact h) ?_
     repeat ((first | ((refine takeY_skip (a' := ?_) ?_ ?_ ?_); (rotate_left); (· (simp [Region.wanted, yielded, Go.undef]; done))) | ((refine takeY_step (v := ?_) (a' := ?_) ?_ ?_ ?_ ?_); (rotate_left 2); (· (simp [Region.wanted, yielded, Go.undef]; done)); (· (intro w' hS'; go_simp; try (with_reducible rfl))))); (· (simp only [List.getElem_toArray, List.getElem_cons_zero, List.getElem_cons_succ, Act.put, List.setIfInBounds_toArray, List.set_cons_zero, List.set_cons_succ]; exact rfl)))
     refine takeY_nil ?_
     rw [← hq0]
     clear hq0
     refine gC_one (i := 5) (by kernel_rfl) rfl ?_
     ·go_wp2_with (go_at_call 93; refine (hS2.out _ _ _ (rha.below bq0) ((rq.below kwwx).below bq0)).mono ?_; rintro e q1 ⟨he, hbq1⟩; obtain rfl : e = .returned (.int .i64 0) := he)
      have bq1 : Below wx.heap.size wx q1 := bq0.trans (hbq1.mono bq0.size)
      have lq1 := hbq1.size
      refine mid_intro bq1 ?_
      refine gC_end [6] (lB := [_]) (by simp) (by kernel_rfl) (by kernel_rfl) rfl ?_
      simp only [List.getElem_toArray, List.getElem_cons_zero, List.getElem_cons_succ, Act.put, List.setIfInBounds_toArray, List.set_cons_zero, List.set_cons_succ]
      have hQq1 := hQwx.keep bq1
      have hKq1 := hKwx.keep bq1
      have kwq1 := kwwx.trans (bq1.mono kwwx.size)
      have kwxq1 := bq1
      have m2 := hKq1.three.2.2
      have mhb1 := Keeps.of_below kwxq1 _ _ hb1
      have mhb2 := Keeps.of_below kwxq1 _ _ hb2
      have mhb3 := Keeps.of_below kwxq1 _ _ hb3
      go_wp2_with (go_at_call 70; refine (hH.out _ _ _ (rhb.below kwxq1)).mono ?_; rintro e w5 ⟨A6, c6, rfl, hl6, r6, hb5⟩; have hL5 := Blk.new_ w5 25 #[.int .i64 k6, .int .i64 n6, .slice A6 s6.length c6] rfl; obtain ⟨y0, y1, y2⟩ := hL5.three; have g5 := (kwq1.trans (hb5.mono kwq1.size)).alloc (by have := kwq1.size; have := hb5.size; omega) (.cells #[.int .i64 k6, .int .i64 n6, .slice A6 s6.length c6] 25))
      go_ret
      exact ⟨rfl, g5⟩
set_option maxRecDepth 100000 in
set_option maxHeartbeats 8000000 in
theorem sPart_any {N : Nat} (ih : InfC N) (ctx : List Tm) (C : Option Addr) (cc : Nat) (k n : Int) (A : Option Addr) (c : Nat) (ka na : Int) (sa : List Tm) (r : Rs Tm) (w : World) (hs : prtR (infR N) ctx k (.mk ka na sa) = some r) (hva : validT (.mk ka na sa) = true) (hvc : ∀ u, u ∈ ctx → validT u = true) (hm : ctx.length ≤ 20) (hrc : Rd w C 0 ctx) (hr : Rd w A 0 [.mk ka na sa]) :
  Calls Try.prog 91 #[.slice C ctx.length cc, .agg #[.int .i64 k, .int .i64 n, .slice A 1 c]] w (GtT w r) := by
 have hsza := validT_size' hva
 obtain ⟨bk, ok, x1, x2, x3, Aa, ca, rfl, hk1, a1, a2, a3, hla, ra⟩ := hr.at_ (j := 0) (by simp)
 injection hk1 with e1 e2 e3
 subst e1 e2 e3
 simp only [Nat.zero_mul, Nat.add_zero, Nat.one_mul, Nat.reduceMul] at a1 a2 a3
 have lbp := World.block_lt_of_cell? _ _ a1
 rcases bd_inv hs with ⟨b, h1, rfl⟩ | ⟨⟨k3, n3, s3⟩, h1, hs⟩
 ·have hS1 := hide (fun (w : World) (hrc : Rd w C 0 ctx) (ra : Rd w Aa 0 sa) => sShape_any ih ctx C cc ka na sa Aa ca 13 _ w h1 hva hvc (by omega) hrc ra)
  have qb := cdB_q b
  clear hs h1 hva hvc ih
  go_enter Try.func91, Try.ntmps91
  go_wp2_with (go_at_call 85; refine (hS1.out _ ((hrc.alloc _).alloc _) ((ra.alloc _).alloc _)).mono ?_; rintro e w1 ⟨k3, n3, A3, l3, c3, rfl, hb1⟩; have hZ1 : Blk w1 (w.heap.size + 1) #[.int .i64 0, .int .i64 0, .slice none 0 0] := (Blk.new_ _ 25 #[.int .i64 0, .int .i64 0, .slice none 0 0] (by simp)).keep hb1; have g1 : Below w.heap.size w w1 := (((Below.refl _ _).alloc (by simp <;> omega) _).alloc (by simp <;> omega) _).trans (hb1.mono (by simp <;> omega)); have g2 := g1.alloc g1.size (.cells #[.int .i64 k3, .int .i64 n3, .slice A3 l3 c3] 25); have hZ2 := hZ1.alloc (.cells #[.int .i64 k3, .int .i64 n3, .slice A3 l3 c3] 25); obtain ⟨d0, d1, d2⟩ := hZ2.three; have e0 := hZ2.frozen 0; have e1 := hZ2.frozen 1; have e2 := hZ2.frozen 2; have lz := hZ2.lt)
  refine bodyPost_ret (v := .tuple #[.agg #[.int .i64 0, .int .i64 0, .slice none 0 0], .int .i64 (cdB b)]) (by simp [results, Try.results91, go_sem, d0, d1, d2]) rfl ⟨0, 0, none, 0, 0, rfl, ?_⟩
  exact ((g2.setCell (by simp <;> omega) _).setCell (by simp <;> omega) _).setCell (by simp <;> omega) _
 ·obtain ⟨hk3, hv3⟩ := shpR_ok h1
  obtain rfl : k3 = 13 := hk3
  obtain ⟨kha, nha, sha, khb, nhb, shb, rfl⟩ := kids2 (k := 13) rfl hv3
  have hvha := hide (show validT (.mk kha nha sha) = true from validT_kidT (i := 0) hv3 (by simp))
  have hvhb := hide (show validT (.mk khb nhb shb) = true from validT_kidT (i := 1) hv3 (by simp))
  have hS1 := hide (fun (w : World) (hrc : Rd w C 0 ctx) (ra : Rd w Aa 0 sa) => sShape_any ih ctx C cc ka na sa Aa ca 13 _ w h1 hva hvc (by omega) hrc ra)
  by_cases hk : k = 15
  ·subst hk
   rw [if_pos rfl] at hs
   injection hs with hs
   replace hs : Rs.ok (.mk kha nha sha) = r := hs
   subst hs
   clear h1 hva hvc ih hv3
   go_enter Try.func91, Try.ntmps91
   go_upto_region 5 with (go_at_call 85; refine (hS1.out _ ((hrc.alloc _).alloc _) ((ra.alloc _).alloc _)).mono ?_; rintro e w1 ⟨A3, c3, rfl, hl3, r3, hb1⟩; have hTw1 : Blk w1 w.heap.size #[.int .i64 15, .int .i64 n, .slice (some ⟨bk, ok, none⟩) 1 c] := ((Blk.new_ w 25 #[.int .i64 15, .int .i64 n, .slice (some ⟨bk, ok, none⟩) 1 c] rfl).alloc _).keep hb1; have hZw1 : Blk w1 (w.heap.size + 1) #[.int .i64 0, .int .i64 0, .slice none 0 0] := (Blk.new_ _ 25 #[.int .i64 0, .int .i64 0, .slice none 0 0] (by simp)).keep hb1; have kww1 : Below w.heap.size w w1 := (((Below.refl _ _).alloc (by simp <;> omega) _).alloc (by simp <;> omega) _).trans (hb1.mono (by simp <;> omega)); have ltw := hTw1.lt; obtain ⟨t0, t1, t2⟩ := hTw1.three)
   refine name_world ?_
   intro wx hwwx
   have hTwx : Blk wx w.heap.size #[.int .i64 15, .int .i64 n, .slice (some ⟨bk, ok, none⟩) 1 c] := by rw [hwwx]; exact (hTw1.alloc _)
   have hZwx : Blk wx (w.heap.size + 1) #[.int .i64 0, .int .i64 0, .slice none 0 0] := by rw [hwwx]; exact (hZw1.alloc _)
   have hKwx : Blk wx w1.heap.size #[.int .i64 13, .int .i64 n3, .slice A3 2 c3] := by rw [hwwx]; exact (Blk.new_ _ 25 _ (by simp))
   have kwwx : Below w.heap.size w wx := by rw [hwwx]; exact (kww1.alloc (by have := kww1.size; simp <;> omega) _)
   have r3x : Rd wx A3 0 [.mk kha nha sha, .mk khb nhb shb] := by rw [hwwx]; exact r3.alloc _
   clear hwwx
   obtain ⟨bh, oh, x1, x2, x3, Aha, cha, rfl, hk1, ha1, ha2, ha3, hlha, rha⟩ := r3x.at_ (j := 0) (by simp)
   injection hk1 with e1 e2 e3
   subst e1 e2 e3
   obtain ⟨bb, ob, x1, x2, x3, Ahb, chb, hAb, hk1, hb1, hb2, hb3, hlhb, rhb⟩ := r3x.at_ (j := 1) (by simp)
   injection hk1 with e1 e2 e3
   injection hAb with hA
   injection hA with hA1 hA2
   subst e1 e2 e3 hA1 hA2
   simp only [Nat.zero_mul, Nat.add_zero, Nat.one_mul, Nat.reduceMul] at ha1 ha2 ha3 hb1 hb2 hb3
   replace hKwx : Blk wx w1.heap.size #[.int .i64 13, .int .i64 n3, .slice (some ⟨bh, oh, none⟩) 2 c3] := hKwx
   clear t0 t1 t2
   have m2 := hKwx.three.2.2
   obtain ⟨d0, d1, d2⟩ := hZwx.three
   have e0 := hZwx.frozen 0
   have e1 := hZwx.frozen 1
   have e2 := hZwx.frozen 2
   have lz := hZwx.lt
   go_wp2_with fail
   refine bodyPost_ret (v := .tuple #[.agg #[.int .i64 kha, .int .i64 nha, .slice Aha sha.length cha], .int .i64 0]) (by simp [results, Try.results91, go_sem, d0, d1, d2]) rfl ⟨Aha, cha, rfl, hlha, rd_set0 hZwx hvha.out rha _ _ _, ?_⟩
   exact ((kwwx.setCell (by simp <;> omega) _).setCell (by simp <;> omega) _).setCell (by simp <;> omega) _
  ·rw [if_neg hk] at hs
   injection hs with hs
   replace hs : Rs.ok (sbS (.mk 15 0 [.mk ka na sa]) 0 0 (.mk khb nhb shb)) = r := hs
   subst hs
   have qk : (k == 15) = false := by simpa using hk
   have h31 : shape 31 (.mk 15 0 [.mk ka na sa]) = true := by
    have := validT_shape30 hva
    rw [shape_split]
    exact ⟨rfl, by omega, by decide, fun t ht => by rw [List.mem_singleton.1 ht]; exact this⟩
   obtain ⟨k5, n5, s5, h5⟩ := tm_eta (sbS (.mk 15 0 [.mk ka na sa]) 0 0 (.mk khb nhb shb))
   rw [h5]
   have hS3 := hide (fun (A2 : Option Addr) (c2 : Nat) (U : Option Addr) (cu : Nat) (w : World) (hr2 : Rd w A2 0 shb) (hru : Rd w U 0 [.mk ka na sa]) => sSubU_any khb nhb shb A2 c2 15 0 [.mk ka na sa] U cu w hvhb.out h31 (by simp only [sizes, Tm.size]; omega) hr2 hru k5 n5 s5 h5)
   clear h1 hva hvc ih hv3 h5 hk h31
   go_enter Try.func91, Try.ntmps91
   go_upto_region 6 with (go_at_call 85; refine (hS1.out _ ((hrc.alloc _).alloc _) ((ra.alloc _).alloc _)).mono ?_; rintro e w1 ⟨A3, c3, rfl, hl3, r3, hb1⟩; have hTw1 : Blk w1 w.heap.size #[.int .i64 k, .int .i64 n, .slice (some ⟨bk, ok, none⟩) 1 c] := ((Blk.new_ w 25 #[.int .i64 k, .int .i64 n, .slice (some ⟨bk, ok, none⟩) 1 c] rfl).alloc _).keep hb1; have hZw1 : Blk w1 (w.heap.size + 1) #[.int .i64 0, .int .i64 0, .slice none 0 0] := (Blk.new_ _ 25 #[.int .i64 0, .int .i64 0, .slice none 0 0] (by simp)).keep hb1; have kww1 : Below w.heap.size w w1 := (((Below.refl _ _).alloc (by simp <;> omega) _).alloc (by simp <;> omega) _).trans (hb1.mono (by simp <;> omega)); have ltw := hTw1.lt; obtain ⟨t0, t1, t2⟩ := hTw1.three)
   refine name_world ?_
   intro wx hwwx
   have hTwx : Blk wx w.heap.size #[.int .i64 k, .int .i64 n, .slice (some ⟨bk, ok, none⟩) 1 c] := by rw [hwwx]; exact (hTw1.alloc _)
   have hZwx : Blk wx (w.heap.size + 1) #[.int .i64 0, .int .i64 0, .slice none 0 0] := by rw [hwwx]; exact (hZw1.alloc _)
   have hKwx : Blk wx w1.heap.size #[.int .i64 13, .int .i64 n3, .slice A3 2 c3] := by rw [hwwx]; exact (Blk.new_ _ 25 _ (by simp))
   have kwwx : Below w.heap.size w wx := by rw [hwwx]; exact (kww1.alloc (by have := kww1.size; simp <;> omega) _)
   have r3x : Rd wx A3 0 [.mk kha nha sha, .mk khb nhb shb] := by rw [hwwx]; exact r3.alloc _
   clear hwwx
   obtain ⟨bh, oh, x1, x2, x3, Aha, cha, rfl, hk1, ha1, ha2, ha3, hlha, rha⟩ := r3x.at_ (j := 0) (by simp)
   injection hk1 with e1 e2 e3
   subst e1 e2 e3
   obtain ⟨bb, ob, x1, x2, x3, Ahb, chb, hAb, hk1, hb1, hb2, hb3, hlhb, rhb⟩ := r3x.at_ (j := 1) (by simp)
   injection hk1 with e1 e2 e3
   injection hAb with hA
   injection hA with hA1 hA2
   subst e1 e2 e3 hA1 hA2
   simp only [Nat.zero_mul, Nat.add_zero, Nat.one_mul, Nat.reduceMul] at ha1 ha2 ha3 hb1 hb2 hb3
   replace hKwx : Blk wx w1.heap.size #[.int .i64 13, .int .i64 n3, .slice (some ⟨bh, oh, none⟩) 2 c3] := hKwx
   clear t0 t1 t2
   have v2 := rule_of hKwx.three.2.2
   have z2 := rule_of hTwx.three.2.2
   have uhb1 := rule_of hb1
   have uhb2 := rule_of hb2
   have uhb3 := rule_of hb3
   have ua1 := rule_of (Keeps.of_below kwwx _ _ a1)
   have ua2 := rule_of (Keeps.of_below kwwx _ _ a2)
   have ua3 := rule_of (Keeps.of_below kwwx _ _ a3)
   obtain ⟨q0, hq0⟩ : ∃ q0, q0 = wx.drew := ⟨_, rfl⟩
   have bq0 : Below wx.heap.size wx q0 := by rw [hq0]; exact (Below.refl _ _).drew
   refine gC_start (fun w' => Below wx.heap.size wx w') [11, 12] 13 (by kernel_rfl) rfl ?_
   refine gC_take [0, 1, 2, 3, 4, 5, 6, 7] (f := 5) (l' := #[true, true, true, true, true, true, true, true, false, false, false, false, false]) (lT := [_, _, _, _, _, _, _, _]) (by rw [← hq0]; exact bq0) rfl (by kernel_rfl) (by kernel_rfl) (by kernel_rfl) rfl (fun _ _ d _ _ h => by cases d <;> exact h) ?_
   repeat ((first | ((refine takeY_skip (a' := ?_) ?_ ?_ ?_); (rotate_left); (· (simp [Region.wanted, yielded, Go.undef]; done))) | ((refine takeY_step (v := ?_) (a' := ?_) ?_ ?_ ?_ ?_); (rotate_left 2); (· (simp [Region.wanted, yielded, Go.undef]; done)); (· (intro w' hS'; go_simp; try (with_reducible rfl))))); (· (simp only [List.getElem_toArray, List.getElem_cons_zero, List.getElem_cons_succ, Act.put, List.setIfInBounds_toArray, List.set_cons_zero, List.set_cons_succ]; exact rfl)))
   refine takeY_nil ?_
   rw [← hq0]
   clear hq0
   refine gC_one (i := 8) (by kernel_rfl) rfl ?_
   ·go_wp2_with fail
    refine name_midw ?_
    intro q1 hn
    have hbq1 : Below q0.heap.size q0 q1 := by rw [hn]; exact (Below.refl _ _).alloc (Nat.le_refl _) _
    have zq1 : Blk q1 q0.heap.size #[.int .i64 ka, .int .i64 na, .slice Aa sa.length ca] := by rw [hn]; exact Blk.new_ _ 25 _ rfl
    have seq1 : q0.heap.size < q1.heap.size := by rw [hn]; simp
    clear hn
    have bq1 : Below wx.heap.size wx q1 := bq0.trans (hbq1.mono bq0.size)
    have lq1 := hbq1.size
    refine mid_intro bq1 ?_
    refine gC_one (i := 9) (by kernel_rfl) rfl ?_
    ·go_wp2_with (go_at_call 46; refine (sNodeT_any 15 (rdx_consT hla ((ra.below kwwx).below bq1).rdp rdx_nilT) 1 rfl (by omega) _ _ zq1).mono ?_; rintro e q2 ⟨A7, c7, rfl, r7, hbq2⟩)
     have bq2 : Below wx.heap.size wx q2 := bq1.trans (hbq2.mono bq1.size)
     have lq2 := hbq2.size
     refine mid_intro bq2 ?_
     refine gC_one (i := 10) (by kernel_rfl) rfl ?_
     ·go_wp2_with (go_at_call 87; refine (hS3.out _ _ _ _ _ (rhb.below bq2) r7).mono ?_; rintro e q3 ⟨A5, c5, rfl, hl5, hf5, hbq3⟩)
      have bq3 : Below wx.heap.size wx q3 := bq2.trans (hbq3.mono bq2.size)
      have lq3 := hbq3.size
      refine mid_intro bq3 ?_
      refine gC_end [11, 12] (lB := [_, _]) (by simp) (by kernel_rfl) (by kernel_rfl) rfl ?_
      simp only [List.getElem_toArray, List.getElem_cons_zero, List.getElem_cons_succ, Act.put, List.setIfInBounds_toArray, List.set_cons_zero, List.set_cons_succ]
      have hTq3 := hTwx.keep bq3
      have hZq3 := hZwx.keep bq3
      have hKq3 := hKwx.keep bq3
      have kwq3 := kwwx.trans (bq3.mono kwwx.size)
      have kwxq3 := bq3
      obtain ⟨d0, d1, d2⟩ := hZq3.three
      have e0 := hZq3.frozen 0
      have e1 := hZq3.frozen 1
      have e2 := hZq3.frozen 2
      have lz := hZq3.lt
      have hqs : wx.heap.size ≤ q0.heap.size := bq0.size
      go_wp2_with fail
      refine bodyPost_ret (v := .tuple #[.agg #[.int .i64 k5, .int .i64 n5, .slice A5 s5.length c5], .int .i64 0]) (by simp [results, Try.results91, go_sem, d0, d1, d2]) rfl ⟨A5, c5, rfl, hl5, ?_, ?_⟩
      ·have hlz := hZwx.lt
       have hl2 := lq2
       have hl1 := lq1
       exact (((hf5.setCell (by simp; omega) _).setCell (by simp; omega) _).setCell (by simp; omega) _).rd
      ·exact ((kwq3.setCell (by simp <;> omega) _).setCell (by simp <;> omega) _).setCell (by simp <;> omega) _
end Go.Proofs.Ytddkehjdjfmhmaa
