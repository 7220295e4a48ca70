/-
 Contracts of the functions that the law reaches, and plain lemmas. No condition.
-/
import Derived.Test.YtddkehjdjfmhmaaK28
namespace Go.Proofs.Ytddkehjdjfmhmaa
set_option linter.unusedSimpArgs false
set_option linter.unusedVariables false
open Go.RowKit
set_option maxRecDepth 100000 in
set_option maxHeartbeats 8000000 in
theorem sElim_any {N : Nat} (ih : InfC N) (ctx : List Tm) (C : Option Addr) (cc : Nat) (k n : Int) (A : Option Addr) (c : Nat) (kp np : Int) (sp : List Tm) (kz nz : Int) (sz : List Tm) (ks ns : Int) (ss : List Tm) (kn nn : Int) (sn : List Tm) (r : Rs Tm) (w : World) (hs : elmR (infR N) ctx (.mk kp np sp) (.mk kz nz sz) (.mk ks ns ss) (.mk kn nn sn) = some r) (hvp : validT (.mk kp np sp) = true) (hvz : validT (.mk kz nz sz) = true) (hvs : validT (.mk ks ns ss) = true) (hvn : validT (.mk kn nn sn) = true) (hvc : ∀ u, u ∈ ctx → validT u = true) (hm : ctx.length ≤ 20) (hrc : Rd w C 0 ctx) (hr : Rd w A 0 [.mk kp np sp, .mk kz nz sz, .mk ks ns ss, .mk kn nn sn]) :
  Calls Try.prog 74 #[.slice C ctx.length cc, .agg #[.int .i64 k, .int .i64 n, .slice A 4 c]] w (GtT w r) := by
 have hszp := validT_size' hvp
 obtain ⟨bk, ok, x1, x2, x3, Ap, cp, rfl, hk1, p1, p2, p3, hlp, rp⟩ := hr.at_ (j := 0) (by simp)
 injection hk1 with e1 e2 e3
 subst e1 e2 e3
 obtain ⟨bb, ob, x1, x2, x3, Az, cz, hAb, hk1, z1, z2, z3, hlz, rz⟩ := hr.at_ (j := 1) (by simp)
 injection hk1 with e1 e2 e3
 injection hAb with hA
 injection hA with hA1 hA2
 subst e1 e2 e3 hA1 hA2
 obtain ⟨bb, ob, x1, x2, x3, As, cs, hAb, hk1, s1, s2, s3, hls, rs⟩ := hr.at_ (j := 2) (by simp)
 injection hk1 with e1 e2 e3
 injection hAb with hA
 injection hA with hA1 hA2
 subst e1 e2 e3 hA1 hA2
 obtain ⟨bb, ob, x1, x2, x3, An, cn, hAb, hk1, n1, n2, n3, hln, rn⟩ := hr.at_ (j := 3) (by simp)
 injection hk1 with e1 e2 e3
 injection hAb with hA
 injection hA with hA1 hA2
 subst e1 e2 e3 hA1 hA2
 simp only [Nat.zero_mul, Nat.add_zero, Nat.one_mul, Nat.reduceMul] at p1 p2 p3 z1 z2 z3 s1 s2 s3 n1 n2 n3
 have lbp := World.block_lt_of_cell? _ _ p1
 have hvl := hide (show ∀ t, t ∈ [.mk kp np sp, .mk kn nn sn] → validT t = true from fun t ht => by
  rcases List.mem_cons.1 ht with rfl | ht
  ·exact hvp
  ·rw [List.mem_singleton.1 ht]; exact hvn)
 rcases bd_inv hs with ⟨b, h1, rfl⟩ | ⟨u1, h1, hs⟩
 ·have hF := hide (fun (w : World) (hrc : Rd w C 0 ctx) (hrp : Rd w Ap 0 sp) (hr2 : Rd w none 0 []) => sFamily_any ih ctx C cc kp np sp Ap cp 6 0 [] none 0 _ w h1 hvp (by simp [sizes]) hvc hm hrc hrp hr2)
  have qb := cdB_q2 b
  clear hs h1 hvp hvz hvs hvn hvc ih
  go_enter Try.func74, Try.ntmps74
  go_upto_region 10 with (first
   | (go_at_call 88; have _t := tok; refine (hF.out _ (hrc.below kw2) (rp.below kw2) Rd.nil).mono ?_; rintro e w3 ⟨he, hb3⟩; obtain rfl : e = .returned (.int .i64 (cdB b)) := he; have hTw3 := hT2.keep hb3; have hZw3 := hZ2.keep hb3; have hPw3 := hP2.keep hb3; have hNw3 := hN2.keep hb3; have kww3 := kw2.trans (hb3.mono kw2.size); clear y0 y1 y2)
   | (go_at_call 28; refine (sLeaf_any _ _ _).mono ?_; rintro e w1 ⟨rfl, hb1⟩; have hT1 : Blk w1 w.heap.size #[.int .i64 k, .int .i64 n, .slice (some ⟨bk, ok, none⟩) 4 c] := (((Blk.new_ w 25 #[.int .i64 k, .int .i64 n, .slice (some ⟨bk, ok, none⟩) 4 c] rfl).alloc _).alloc _).keep hb1; have hZ1 : Blk w1 (w.heap.size + 1) #[.int .i64 0, .int .i64 0, .slice none 0 0] := ((Blk.new_ _ 25 #[.int .i64 0, .int .i64 0, .slice none 0 0] (by simp)).alloc _).keep hb1; have hP1 : Blk w1 (w.heap.size + 1 + 1) #[.int .i64 kp, .int .i64 np, .slice Ap sp.length cp] := (Blk.new_ _ 25 #[.int .i64 kp, .int .i64 np, .slice Ap sp.length cp] (by simp)).keep hb1; have kw1 : Below w.heap.size w w1 := ((((Below.refl _ _).alloc (by simp <;> omega) _).alloc (by simp <;> omega) _).alloc (by simp <;> omega) _).trans (hb1.mono (by simp <;> omega)); have hT2 := hT1.alloc (.cells #[.int .i64 6, .int .i64 0, .slice none 0 0] 25); have hZ2 := hZ1.alloc (.cells #[.int .i64 6, .int .i64 0, .slice none 0 0] 25); have hP2 := hP1.alloc (.cells #[.int .i64 6, .int .i64 0, .slice none 0 0] 25); have kw2 := kw1.alloc kw1.size (.cells #[.int .i64 6, .int .i64 0, .slice none 0 0] 25); have hN2 := Blk.new_ w1 25 #[.int .i64 6, .int .i64 0, .slice none 0 0] rfl; obtain ⟨y0, y1, y2⟩ := hP2.three; have tok := trivial))
  refine name_world ?_
  intro wl hwwl
  have hTwl : Blk wl w.heap.size #[.int .i64 k, .int .i64 n, .slice (some ⟨bk, ok, none⟩) 4 c] := by rw [hwwl]; exact hTw3
  have hZwl : Blk wl (w.heap.size + 1) #[.int .i64 0, .int .i64 0, .slice none 0 0] := by rw [hwwl]; exact hZw3
  have hPwl : Blk wl (w.heap.size + 1 + 1) #[.int .i64 kp, .int .i64 np, .slice Ap sp.length cp] := by rw [hwwl]; exact hPw3
  have hNwl : Blk wl w1.heap.size #[.int .i64 6, .int .i64 0, .slice none 0 0] := by rw [hwwl]; exact hNw3
  have kwwl : Below w.heap.size w wl := by rw [hwwl]; exact kww3
  clear hwwl
  have lPz := hPwl.lt
  have lZz := hZwl.lt
  have nz0 : bk ≠ (w.heap.size + 1) := by omega
  have nz1 : w.heap.size ≠ (w.heap.size + 1) := by omega
  have nz2 : (w.heap.size + 1 + 1) ≠ (w.heap.size + 1) := by omega
  have lv := rule_ke (z := (w.heap.size + 1)) hTwl.three.2.2 nz1
  have lp0 := rule_ke (z := (w.heap.size + 1)) hPwl.three.1 nz2
  have lp1 := rule_ke (z := (w.heap.size + 1)) hPwl.three.2.1 nz2
  have lp2 := rule_ke (z := (w.heap.size + 1)) hPwl.three.2.2 nz2
  have ln1 := rule_ke (z := (w.heap.size + 1)) (Keeps.of_below kwwl _ _ n1) nz0
  have ln2 := rule_ke (z := (w.heap.size + 1)) (Keeps.of_below kwwl _ _ n2) nz0
  have ln3 := rule_ke (z := (w.heap.size + 1)) (Keeps.of_below kwwl _ _ n3) nz0
  obtain ⟨q0, hq0⟩ : ∃ q0, q0 = wl.drew := ⟨_, rfl⟩
  have bq0 : Below wl.heap.size wl q0 := by rw [hq0]; exact (Below.refl _ _).drew
  have keq0 := KE.of (w.heap.size + 1) bq0
  refine gC_start (KE wl (w.heap.size + 1)) [9] 10 (by kernel_rfl) rfl ?_
  refine gC_take [0, 1, 2, 3, 4, 7] (f := 4) (l' := #[true, true, true, true, true, false, false, true, false, false]) (lT := [_, _, _, _, _, _]) (by rw [← hq0]; exact keq0) rfl (by kernel_rfl) (by kernel_rfl) (by kernel_rfl) rfl (fun _ _ d _ _ h => by cases d <;> exact h) ?_
  repeat ((first | ((refine takeY_skip (a' := ?_) ?_ ?_ ?_); (rotate_left); (· (simp [Region.wanted, yielded, Go.undef]; done))) | ((refine takeY_step (v := ?_) (a' := ?_) ?_ ?_ ?_ ?_); (rotate_left 2); (· (simp [Region.wanted, yielded, Go.undef]; done)); (· (intro w' hS'; go_simp; try (with_reducible rfl))))); (· (simp only [List.getElem_toArray, List.getElem_cons_zero, List.getElem_cons_succ, Act.put, List.setIfInBounds_toArray, List.set_cons_zero, List.set_cons_succ]; exact rfl)))
  refine takeY_nil ?_
  rw [← hq0]
  clear hq0
  refine gC_one (i := 5) (by kernel_rfl) rfl ?_
  go_wp2_with fail
  refine name_midw ?_
  intro q1 hn
  have hbq1 : Below q0.heap.size q0 q1 := by rw [hn]; exact (Below.refl _ _).alloc (Nat.le_refl _) _
  have zq1 : Blk q1 q0.heap.size #[.int .i64 kp, .int .i64 np, .slice Ap sp.length cp, .int .i64 kn, .int .i64 nn, .slice An sn.length cn] := by rw [hn]; exact Blk.new_ _ 25 _ rfl
  have seq1 : q0.heap.size < q1.heap.size := by rw [hn]; simp
  clear hn
  have bq1 : Below wl.heap.size wl q1 := bq0.trans (hbq1.mono bq0.size)
  have lq1 := hbq1.size
  have keq1 := KE.of (w.heap.size + 1) bq1
  refine mid_intro keq1 ?_
  refine gC_one (i := 6) (by kernel_rfl) rfl ?_
  go_wp2_with (go_at_call 46; refine (sNodeT_any 5 (rdx_consT hlp ((rp.below kwwl).below bq1).rdp (rdx_consT hln ((rn.below kwwl).below bq1).rdp rdx_nilT)) 2 rfl (by omega) _ _ zq1).mono ?_; rintro e q2 ⟨A7, c7, rfl, r7, hbq2⟩)
  have bq2 : Below wl.heap.size wl q2 := bq1.trans (hbq2.mono bq1.size)
  have lq2 := hbq2.size
  have keq2 := KE.of (w.heap.size + 1) bq2
  refine mid_intro keq2 ?_
  refine gC_one (i := 8) (by kernel_rfl) rfl ?_
  have hZz := hZwl.keep bq2
  obtain ⟨d0, d1, d2⟩ := hZz.three
  have e0 := hZz.frozen 0
  have e1 := hZz.frozen 1
  have e2 := hZz.frozen 2
  have lz := hZz.lt
  go_wp2_with fail
  refine name_midw ?_
  intro q3 hn
  have hZq3 : Blk q3 (w.heap.size + 1) #[.int .i64 5, .int .i64 0, .slice A7 2 c7] := by rw [hn]; exact ((hZz.set_ 0 _).set_ 1 _).set_ 2 _
  have rq3 : Rd q3 A7 0 [.mk kp np sp, .mk kn nn sn] := by rw [hn]; exact rd_set0L hZz hvl.out r7 _ _ _
  have kwq3 : Below w.heap.size w q3 := by rw [hn]; exact (((kwwl.trans (bq2.mono kwwl.size)).setCell (by simp <;> omega) _).setCell (by simp <;> omega) _).setCell (by simp <;> omega) _
  have keq3 : KE wl (w.heap.size + 1) q3 := by rw [hn]; exact ((keq2.set _ _).set _ _).set _ _
  clear hn d0 d1 d2 e0 e1 e2 lz
  refine mid_intro keq3 ?_
  refine gC_end [9] (lB := [_]) (by simp) (by kernel_rfl) (by kernel_rfl) rfl ?_
  simp only [List.getElem_toArray, List.getElem_cons_zero, List.getElem_cons_succ, Act.put, List.setIfInBounds_toArray, List.set_cons_zero, List.set_cons_succ]
  obtain ⟨d0, d1, d2⟩ := hZq3.three
  have e0 := hZq3.frozen 0
  have e1 := hZq3.frozen 1
  have e2 := hZq3.frozen 2
  have lz := hZq3.lt
  go_wp2_with fail
  refine bodyPost_ret (v := .tuple #[.agg #[.int .i64 5, .int .i64 0, .slice A7 2 c7], .int .i64 (cdB b)]) (by simp [results, Try.results74, go_sem, d0, d1, d2]) rfl ⟨5, 0, A7, 2, c7, rfl, kwq3⟩
 ·have hF := hide (fun (w : World) (hrc : Rd w C 0 ctx) (hrp : Rd w Ap 0 sp) (hr2 : Rd w none 0 []) => sFamily_any ih ctx C cc kp np sp Ap cp 6 0 [] none 0 _ w h1 hvp (by simp [sizes]) hvc hm hrc hrp hr2)
  replace hs : bd (chkR (infR N) ctx (.mk kz nz sz) (.mk 5 0 [.mk kp np sp, Tm.mk 7 0 []])) (fun _ => bd (chkR (infR N) ctx (.mk ks ns ss) (stpR (.mk kp np sp))) fun _ => bd (chkR (infR N) ctx (.mk kn nn sn) (.mk 6 0 [])) fun _ => some (.ok (.mk 5 0 [.mk kp np sp, .mk kn nn sn]))) = some r := hs
  rcases bd_inv hs with ⟨b, h2, rfl⟩ | ⟨u2, h2, hs⟩
  ·have hC1 := hide (fun (A2 : Option Addr) (c2 : Nat) (w : World) (hrc : Rd w C 0 ctx) (hrt : Rd w Az 0 sz) (hr2 : Rd w A2 0 [.mk kp np sp, Tm.mk 7 0 []]) => sCheck_any ih ctx C cc kz nz sz Az cz 5 0 [.mk kp np sp, Tm.mk 7 0 []] A2 c2 _ w h2 hvz hvc (by omega) hrc hrt (by simp only [sizes, Tm.size]; omega) hr2)
   have qb := cdB_q2 b
   clear hs h1 h2 hvp hvz hvs hvn hvc ih
   go_enter Try.func74, Try.ntmps74
   go_upto_region 5 with (first
    | (go_at_call 88; have _t := tok; refine (hF.out _ (hrc.below kw2) (rp.below kw2) Rd.nil).mono ?_; rintro e w3 ⟨he, hb3⟩; obtain rfl : e = .returned (.int .i64 0) := he; have hTw3 := hT2.keep hb3; have hZw3 := hZ2.keep hb3; have hPw3 := hP2.keep hb3; have hNw3 := hN2.keep hb3; have kww3 := kw2.trans (hb3.mono kw2.size); clear y0 y1 y2)
    | (go_at_call 28; refine (sLeaf_any _ _ _).mono ?_; rintro e w1 ⟨rfl, hb1⟩; have hT1 : Blk w1 w.heap.size #[.int .i64 k, .int .i64 n, .slice (some ⟨bk, ok, none⟩) 4 c] := (((Blk.new_ w 25 #[.int .i64 k, .int .i64 n, .slice (some ⟨bk, ok, none⟩) 4 c] rfl).alloc _).alloc _).keep hb1; have hZ1 : Blk w1 (w.heap.size + 1) #[.int .i64 0, .int .i64 0, .slice none 0 0] := ((Blk.new_ _ 25 #[.int .i64 0, .int .i64 0, .slice none 0 0] (by simp)).alloc _).keep hb1; have hP1 : Blk w1 (w.heap.size + 1 + 1) #[.int .i64 kp, .int .i64 np, .slice Ap sp.length cp] := (Blk.new_ _ 25 #[.int .i64 kp, .int .i64 np, .slice Ap sp.length cp] (by simp)).keep hb1; have kw1 : Below w.heap.size w w1 := ((((Below.refl _ _).alloc (by simp <;> omega) _).alloc (by simp <;> omega) _).alloc (by simp <;> omega) _).trans (hb1.mono (by simp <;> omega)); have hT2 := hT1.alloc (.cells #[.int .i64 6, .int .i64 0, .slice none 0 0] 25); have hZ2 := hZ1.alloc (.cells #[.int .i64 6, .int .i64 0, .slice none 0 0] 25); have hP2 := hP1.alloc (.cells #[.int .i64 6, .int .i64 0, .slice none 0 0] 25); have kw2 := kw1.alloc kw1.size (.cells #[.int .i64 6, .int .i64 0, .slice none 0 0] 25); have hN2 := Blk.new_ w1 25 #[.int .i64 6, .int .i64 0, .slice none 0 0] rfl; obtain ⟨y0, y1, y2⟩ := hP2.three; have tok := trivial))
   refine name_world ?_
   intro wx hwwx
   have hTwx : Blk wx w.heap.size #[.int .i64 k, .int .i64 n, .slice (some ⟨bk, ok, none⟩) 4 c] := by rw [hwwx]; exact hTw3
   have hZwx : Blk wx (w.heap.size + 1) #[.int .i64 0, .int .i64 0, .slice none 0 0] := by rw [hwwx]; exact hZw3
   have hPwx : Blk wx (w.heap.size + 1 + 1) #[.int .i64 kp, .int .i64 np, .slice Ap sp.length cp] := by rw [hwwx]; exact hPw3
   have hNwx : Blk wx w1.heap.size #[.int .i64 6, .int .i64 0, .slice none 0 0] := by rw [hwwx]; exact hNw3
   have kwwx : Below w.heap.size w wx := by rw [hwwx]; exact kww3
   clear hwwx
   have v2 := rule_of hTwx.three.2.2
   have y0 := rule_of hPwx.three.1
   have y1 := rule_of hPwx.three.2.1
   have y2 := rule_of hPwx.three.2.2
   have uz1 := rule_of (Keeps.of_below kwwx _ _ z1)
   have uz2 := rule_of (Keeps.of_below kwwx _ _ z2)
   have uz3 := rule_of (Keeps.of_below kwwx _ _ z3)
   obtain ⟨q0, hq0⟩ : ∃ q0, q0 = wx.drew := ⟨_, rfl⟩
   have bq0 : Below wx.heap.size wx q0 := by rw [hq0]; exact (Below.refl _ _).drew
   refine gC_start (fun w' => Below wx.heap.size wx w') [10] 11 (by kernel_rfl) rfl ?_
   refine gC_take [0, 1, 2, 3, 4, 5] (f := 5) (l' := #[true, true, true, true, true, true, false, false, false, false, false]) (lT := [_, _, _, _, _, _]) (by rw [← hq0]; exact bq0) rfl (by kernel_rfl) (by kernel_rfl) (by kernel_rfl) rfl (fun _ _ d _ _ h => by cases d <;> exact h) ?_
   repeat ((first | ((refine takeY_skip (a' := ?_) ?_ ?_ ?_); (rotate_left); (· (simp [Region.wanted, yielded, Go.undef]; done))) | ((refine takeY_step (v := ?_) (a' := ?_) ?_ ?_ ?_ ?_); (rotate_left 2); (· (simp [Region.wanted, yielded, Go.undef]; done)); (· (intro w' hS'; go_simp; try (with_reducible rfl))))); (· (simp only [List.getElem_toArray, List.getElem_cons_zero, List.getElem_cons_succ, Act.put, List.setIfInBounds_toArray, List.set_cons_zero, List.set_cons_succ]; exact rfl)))
   refine takeY_nil ?_
   rw [← hq0]
   clear hq0
   refine gC_one (i := 6) (by kernel_rfl) rfl ?_
   ·go_wp2_with (go_at_call 28; refine (sLeaf_any _ _ _).mono ?_; rintro e q1 ⟨rfl, hbq1⟩)
    have bq1 : Below wx.heap.size wx q1 := bq0.trans (hbq1.mono bq0.size)
    have lq1 := hbq1.size
    refine mid_intro bq1 ?_
    refine gC_one (i := 7) (by kernel_rfl) rfl ?_
    ·go_wp2_with fail
     refine name_midw ?_
     intro q2 hn
     have hbq2 : Below q1.heap.size q1 q2 := by rw [hn]; exact (Below.refl _ _).alloc (Nat.le_refl _) _
     have zq2 : Blk q2 q1.heap.size #[.int .i64 kp, .int .i64 np, .slice Ap sp.length cp, .int .i64 7, .int .i64 0, .slice none 0 0] := by rw [hn]; exact Blk.new_ _ 25 _ rfl
     have seq2 : q1.heap.size < q2.heap.size := by rw [hn]; simp
     clear hn
     have bq2 : Below wx.heap.size wx q2 := bq1.trans (hbq2.mono bq1.size)
     have lq2 := hbq2.size
     refine mid_intro bq2 ?_
     refine gC_one (i := 8) (by kernel_rfl) rfl ?_
     ·go_wp2_with (go_at_call 46; refine (sNodeT_any 5 (rdx_consT hlp ((rp.below kwwx).below bq2).rdp (rdx_consT (ks := []) (by simp) (Rd.nil (w := q2)).rdp rdx_nilT)) 2 rfl (by omega) _ _ zq2).mono ?_; rintro e q3 ⟨A6, c6, rfl, r6, hbq3⟩)
      have bq3 : Below wx.heap.size wx q3 := bq2.trans (hbq3.mono bq2.size)
      have lq3 := hbq3.size
      refine mid_intro bq3 ?_
      refine gC_one (i := 9) (by kernel_rfl) rfl ?_
      ·go_wp2_with (go_at_call 86; refine (hC1.out _ _ _ ((hrc.below kwwx).below bq3) ((rz.below kwwx).below bq3) r6).mono ?_; rintro e q4 ⟨he, hbq4⟩; obtain rfl : e = .returned (.int .i64 (cdB b)) := he)
       have bq4 : Below wx.heap.size wx q4 := bq3.trans (hbq4.mono bq3.size)
       have lq4 := hbq4.size
       refine mid_intro bq4 ?_
       refine gC_end [10] (lB := [_]) (by simp) (by kernel_rfl) (by kernel_rfl) rfl ?_
       simp only [List.getElem_toArray, List.getElem_cons_zero, List.getElem_cons_succ, Act.put, List.setIfInBounds_toArray, List.set_cons_zero, List.set_cons_succ]
       have hTq4 := hTwx.keep bq4
       have hZq4 := hZwx.keep bq4
       have hPq4 := hPwx.keep bq4
       have hNq4 := hNwx.keep bq4
       have kwq4 := kwwx.trans (bq4.mono kwwx.size)
       have kwxq4 := bq4
       go_upto_region 10 with fail
       refine name_world ?_
       intro wl hwwl
       have hTwl : Blk wl w.heap.size #[.int .i64 k, .int .i64 n, .slice (some ⟨bk, ok, none⟩) 4 c] := by rw [hwwl]; exact hTq4
       have hZwl : Blk wl (w.heap.size + 1) #[.int .i64 0, .int .i64 0, .slice none 0 0] := by rw [hwwl]; exact hZq4
       have hPwl : Blk wl (w.heap.size + 1 + 1) #[.int .i64 kp, .int .i64 np, .slice Ap sp.length cp] := by rw [hwwl]; exact hPq4
       have hNwl : Blk wl w1.heap.size #[.int .i64 6, .int .i64 0, .slice none 0 0] := by rw [hwwl]; exact hNq4
       have kwwl : Below w.heap.size w wl := by rw [hwwl]; exact kwq4
       have kwxwl : Below wx.heap.size wx wl := by rw [hwwl]; exact kwxq4
       clear hwwl
       have lPz := hPwl.lt
       have lZz := hZwl.lt
       have nz0 : bk ≠ (w.heap.size + 1) := by omega
       have nz1 : w.heap.size ≠ (w.heap.size + 1) := by omega
       have nz2 : (w.heap.size + 1 + 1) ≠ (w.heap.size + 1) := by omega
       have lv := rule_ke (z := (w.heap.size + 1)) hTwl.three.2.2 nz1
       have lp0 := rule_ke (z := (w.heap.size + 1)) hPwl.three.1 nz2
       have lp1 := rule_ke (z := (w.heap.size + 1)) hPwl.three.2.1 nz2
       have lp2 := rule_ke (z := (w.heap.size + 1)) hPwl.three.2.2 nz2
       have ln1 := rule_ke (z := (w.heap.size + 1)) (Keeps.of_below kwwl _ _ n1) nz0
       have ln2 := rule_ke (z := (w.heap.size + 1)) (Keeps.of_below kwwl _ _ n2) nz0
       have ln3 := rule_ke (z := (w.heap.size + 1)) (Keeps.of_below kwwl _ _ n3) nz0
       obtain ⟨q0, hq0⟩ : ∃ q0, q0 = wl.drew := ⟨_, rfl⟩
       have bq0 : Below wl.heap.size wl q0 := by rw [hq0]; exact (Below.refl _ _).drew
       have keq0 := KE.of (w.heap.size + 1) bq0
       refine gC_start (KE wl (w.heap.size + 1)) [9] 10 (by kernel_rfl) rfl ?_
       refine gC_take [0, 1, 2, 3, 4, 7] (f := 4) (l' := #[true, true, true, true, true, false, false, true, false, false]) (lT := [_, _, _, _, _, _]) (by rw [← hq0]; exact keq0) rfl (by kernel_rfl) (by kernel_rfl) (by kernel_rfl) rfl (fun _ _ d _ _ h => by cases d <;> exact h) ?_
       repeat ((first | ((refine takeY_skip (a' := ?_) ?_ ?_ ?_); (rotate_left); (· (simp [Region.wanted, yielded, Go.undef]; done))) | ((refine takeY_step (v := ?_) (a' := ?_) ?_ ?_ ?_ ?_); (rotate_left 2); (· (simp [Region.wanted, yielded, Go.undef]; done)); (· (intro w' hS'; go_simp; try (with_reducible rfl))))); (· (simp only [List.getElem_toArray, List.getElem_cons_zero, List.getElem_cons_succ, Act.put, List.setIfInBounds_toArray, List.set_cons_zero, List.set_cons_succ]; exact rfl)))
       refine takeY_nil ?_
       rw [← hq0]
       clear hq0
       refine gC_one (i := 5) (by kernel_rfl) rfl ?_
       go_wp2_with fail
       refine name_midw ?_
       intro q1 hn
       have hbq1 : Below q0.heap.size q0 q1 := by rw [hn]; exact (Below.refl _ _).alloc (Nat.le_refl _) _
       have zq1 : Blk q1 q0.heap.size #[.int .i64 kp, .int .i64 np, .slice Ap sp.length cp, .int .i64 kn, .int .i64 nn, .slice An sn.length cn] := by rw [hn]; exact Blk.new_ _ 25 _ rfl
       have seq1 : q0.heap.size < q1.heap.size := by rw [hn]; simp
       clear hn
       have bq1 : Below wl.heap.size wl q1 := bq0.trans (hbq1.mono bq0.size)
       have lq1 := hbq1.size
       have keq1 := KE.of (w.heap.size + 1) bq1
       refine mid_intro keq1 ?_
       refine gC_one (i := 6) (by kernel_rfl) rfl ?_
       go_wp2_with (go_at_call 46; refine (sNodeT_any 5 (rdx_consT hlp ((rp.below kwwl).below bq1).rdp (rdx_consT hln ((rn.below kwwl).below bq1).rdp rdx_nilT)) 2 rfl (by omega) _ _ zq1).mono ?_; rintro e q2 ⟨A7, c7, rfl, r7, hbq2⟩)
       have bq2 : Below wl.heap.size wl q2 := bq1.trans (hbq2.mono bq1.size)
       have lq2 := hbq2.size
       have keq2 := KE.of (w.heap.size + 1) bq2
       refine mid_intro keq2 ?_
       refine gC_one (i := 8) (by kernel_rfl) rfl ?_
       have hZz := hZwl.keep bq2
       obtain ⟨d0, d1, d2⟩ := hZz.three
       have e0 := hZz.frozen 0
       have e1 := hZz.frozen 1
       have e2 := hZz.frozen 2
       have lz := hZz.lt
       go_wp2_with fail
       refine name_midw ?_
       intro q3 hn
       have hZq3 : Blk q3 (w.heap.size + 1) #[.int .i64 5, .int .i64 0, .slice A7 2 c7] := by rw [hn]; exact ((hZz.set_ 0 _).set_ 1 _).set_ 2 _
       have rq3 : Rd q3 A7 0 [.mk kp np sp, .mk kn nn sn] := by rw [hn]; exact rd_set0L hZz hvl.out r7 _ _ _
       have kwq3 : Below w.heap.size w q3 := by rw [hn]; exact (((kwwl.trans (bq2.mono kwwl.size)).setCell (by simp <;> omega) _).setCell (by simp <;> omega) _).setCell (by simp <;> omega) _
       have keq3 : KE wl (w.heap.size + 1) q3 := by rw [hn]; exact ((keq2.set _ _).set _ _).set _ _
       clear hn d0 d1 d2 e0 e1 e2 lz
       refine mid_intro keq3 ?_
       refine gC_end [9] (lB := [_]) (by simp) (by kernel_rfl) (by kernel_rfl) rfl ?_
       simp only [List.getElem_toArray, List.getElem_cons_zero, List.getElem_cons_succ, Act.put, List.setIfInBounds_toArray, List.set_cons_zero, List.set_cons_succ]
       obtain ⟨d0, d1, d2⟩ := hZq3.three
       have e0 := hZq3.frozen 0
       have e1 := hZq3.frozen 1
       have e2 := hZq3.frozen 2
       have lz := hZq3.lt
       go_wp2_with fail
       refine bodyPost_ret (v := .tuple #[.agg #[.int .i64 5, .int .i64 0, .slice A7 2 c7], .int .i64 (cdB b)]) (by simp [results, Try.results74, go_sem, d0, d1, d2]) rfl ⟨5, 0, A7, 2, c7, rfl, kwq3⟩
  ·have hC1 := hide (fun (A2 : Option Addr) (c2 : Nat) (w : World) (hrc : Rd w C 0 ctx) (hrt : Rd w Az 0 sz) (hr2 : Rd w A2 0 [.mk kp np sp, Tm.mk 7 0 []]) => sCheck_any ih ctx C cc kz nz sz Az cz 5 0 [.mk kp np sp, Tm.mk 7 0 []] A2 c2 _ w h2 hvz hvc (by omega) hrc hrt (by simp only [sizes, Tm.size]; omega) hr2)
   obtain ⟨k8, n8, s8, h8⟩ := tm_eta (shS 1 0 (.mk kp np sp))
   obtain ⟨k9, n9, s9, h9⟩ := tm_eta (shS 2 0 (.mk kp np sp))
   obtain rfl : k8 = kp := by have := h8; rw [shS] at this; injection this with a _ _; exact a.symm
   obtain rfl : k9 = k8 := by have := h9; rw [shS] at this; injection this with a _ _; exact a.symm
   have hT9 := hide (fun (w : World) (hr : Rd w Ap 0 sp) => sStepT_any k9 np sp Ap cp n8 n9 s8 s9 w hvp h8 h9 hr)
   have hsz3 : sizes [Tm.mk 6 0 [], Tm.mk 3 0 [Tm.mk 5 0 [Tm.mk k9 n8 s8, Tm.mk 1 0 []], Tm.mk 5 0 [Tm.mk k9 n9 s9, Tm.mk 8 0 [Tm.mk 1 1 []]]]] ≤ 1000000 := by
    have e1 := shS_size 1 (.mk k9 np sp) 0
    have e2 := shS_size 2 (.mk k9 np sp) 0
    rw [h8] at e1
    rw [h9] at e2
    simp only [Tm.size] at e1 e2
    simp only [sizes, Tm.size]
    omega
   have hstp : stpR (.mk k9 np sp) = .mk 3 0 [Tm.mk 6 0 [], Tm.mk 3 0 [Tm.mk 5 0 [Tm.mk k9 n8 s8, Tm.mk 1 0 []], Tm.mk 5 0 [Tm.mk k9 n9 s9, Tm.mk 8 0 [Tm.mk 1 1 []]]]] := by unfold stpR; rw [h8, h9]; rfl
   rw [hstp] at hs
   clear h8 h9 hstp
   rcases bd_inv hs with ⟨b, h3, rfl⟩ | ⟨u3, h3, hs⟩
   ·have hC2 := hide (fun (A2 : Option Addr) (c2 : Nat) (w : World) (hrc : Rd w C 0 ctx) (hrt : Rd w As 0 ss) (hr2 : Rd w A2 0 [Tm.mk 6 0 [], Tm.mk 3 0 [Tm.mk 5 0 [Tm.mk k9 n8 s8, Tm.mk 1 0 []], Tm.mk 5 0 [Tm.mk k9 n9 s9, Tm.mk 8 0 [Tm.mk 1 1 []]]]]) => sCheck_any ih ctx C cc ks ns ss As cs 3 0 [Tm.mk 6 0 [], Tm.mk 3 0 [Tm.mk 5 0 [Tm.mk k9 n8 s8, Tm.mk 1 0 []], Tm.mk 5 0 [Tm.mk k9 n9 s9, Tm.mk 8 0 [Tm.mk 1 1 []]]]] A2 c2 _ w h3 hvs hvc (by omega) hrc hrt hsz3 hr2)
    have qb := cdB_q2 b
    clear hs h1 h2 h3 hvp hvz hvs hvn hvc ih
    go_enter Try.func74, Try.ntmps74
    go_upto_region 5 with (first
     | (go_at_call 88; have _t := tok; refine (hF.out _ (hrc.below kw2) (rp.below kw2) Rd.nil).mono ?_; rintro e w3 ⟨he, hb3⟩; obtain rfl : e = .returned (.int .i64 0) := he; have hTw3 := hT2.keep hb3; have hZw3 := hZ2.keep hb3; have hPw3 := hP2.keep hb3; have hNw3 := hN2.keep hb3; have kww3 := kw2.trans (hb3.mono kw2.size); clear y0 y1 y2)
     | (go_at_call 28; refine (sLeaf_any _ _ _).mono ?_; rintro e w1 ⟨rfl, hb1⟩; have hT1 : Blk w1 w.heap.size #[.int .i64 k, .int .i64 n, .slice (some ⟨bk, ok, none⟩) 4 c] := (((Blk.new_ w 25 #[.int .i64 k, .int .i64 n, .slice (some ⟨bk, ok, none⟩) 4 c] rfl).alloc _).alloc _).keep hb1; have hZ1 : Blk w1 (w.heap.size + 1) #[.int .i64 0, .int .i64 0, .slice none 0 0] := ((Blk.new_ _ 25 #[.int .i64 0, .int .i64 0, .slice none 0 0] (by simp)).alloc _).keep hb1; have hP1 : Blk w1 (w.heap.size + 1 + 1) #[.int .i64 k9, .int .i64 np, .slice Ap sp.length cp] := (Blk.new_ _ 25 #[.int .i64 k9, .int .i64 np, .slice Ap sp.length cp] (by simp)).keep hb1; have kw1 : Below w.heap.size w w1 := ((((Below.refl _ _).alloc (by simp <;> omega) _).alloc (by simp <;> omega) _).alloc (by simp <;> omega) _).trans (hb1.mono (by simp <;> omega)); have hT2 := hT1.alloc (.cells #[.int .i64 6, .int .i64 0, .slice none 0 0] 25); have hZ2 := hZ1.alloc (.cells #[.int .i64 6, .int .i64 0, .slice none 0 0] 25); have hP2 := hP1.alloc (.cells #[.int .i64 6, .int .i64 0, .slice none 0 0] 25); have kw2 := kw1.alloc kw1.size (.cells #[.int .i64 6, .int .i64 0, .slice none 0 0] 25); have hN2 := Blk.new_ w1 25 #[.int .i64 6, .int .i64 0, .slice none 0 0] rfl; obtain ⟨y0, y1, y2⟩ := hP2.three; have tok := trivial))
    refine name_world ?_
    intro wx hwwx
    have hTwx : Blk wx w.heap.size #[.int .i64 k, .int .i64 n, .slice (some ⟨bk, ok, none⟩) 4 c] := by rw [hwwx]; exact hTw3
    have hZwx : Blk wx (w.heap.size + 1) #[.int .i64 0, .int .i64 0, .slice none 0 0] := by rw [hwwx]; exact hZw3
    have hPwx : Blk wx (w.heap.size + 1 + 1) #[.int .i64 k9, .int .i64 np, .slice Ap sp.length cp] := by rw [hwwx]; exact hPw3
    have hNwx : Blk wx w1.heap.size #[.int .i64 6, .int .i64 0, .slice none 0 0] := by rw [hwwx]; exact hNw3
    have kwwx : Below w.heap.size w wx := by rw [hwwx]; exact kww3
    clear hwwx
    have v2 := rule_of hTwx.three.2.2
    have y0 := rule_of hPwx.three.1
    have y1 := rule_of hPwx.three.2.1
    have y2 := rule_of hPwx.three.2.2
    have uz1 := rule_of (Keeps.of_below kwwx _ _ z1)
    have uz2 := rule_of (Keeps.of_below kwwx _ _ z2)
    have uz3 := rule_of (Keeps.of_below kwwx _ _ z3)
    obtain ⟨q0, hq0⟩ : ∃ q0, q0 = wx.drew := ⟨_, rfl⟩
    have bq0 : Below wx.heap.size wx q0 := by rw [hq0]; exact (Below.refl _ _).drew
    refine gC_start (fun w' => Below wx.heap.size wx w') [10] 11 (by kernel_rfl) rfl ?_
    refine gC_take [0, 1, 2, 3, 4, 5] (f := 5) (l' := #[true, true, true, true, true, true, false, false, false, false, false]) (lT := [_, _, _, _, _, _]) (by rw [← hq0]; exact bq0) rfl (by kernel_rfl) (by kernel_rfl) (by kernel_rfl) rfl (fun _ _ d _ _ h => by cases d <;> exact h) ?_
    repeat ((first | ((refine takeY_skip (a' := ?_) ?_ ?_ ?_); (rotate_left); (· (simp [Region.wanted, yielded, Go.undef]; done))) | ((refine takeY_step (v := ?_) (a' := ?_) ?_ ?_ ?_ ?_); (rotate_left 2); (· (simp [Region.wanted, yielded, Go.undef]; done)); (· (intro w' hS'; go_simp; try (with_reducible rfl))))); (· (simp only [List.getElem_toArray, List.getElem_cons_zero, List.getElem_cons_succ, Act.put, List.setIfInBounds_toArray, List.set_cons_zero, List.set_cons_succ]; exact rfl)))
    refine takeY_nil ?_
    rw [← hq0]
    clear hq0
    refine gC_one (i := 6) (by kernel_rfl) rfl ?_
    ·go_wp2_with (go_at_call 28; refine (sLeaf_any _ _ _).mono ?_; rintro e q1 ⟨rfl, hbq1⟩)
     have bq1 : Below wx.heap.size wx q1 := bq0.trans (hbq1.mono bq0.size)
     have lq1 := hbq1.size
     refine mid_intro bq1 ?_
     refine gC_one (i := 7) (by kernel_rfl) rfl ?_
     ·go_wp2_with fail
      refine name_midw ?_
      intro q2 hn
      have hbq2 : Below q1.heap.size q1 q2 := by rw [hn]; exact (Below.refl _ _).alloc (Nat.le_refl _) _
      have zq2 : Blk q2 q1.heap.size #[.int .i64 k9, .int .i64 np, .slice Ap sp.length cp, .int .i64 7, .int .i64 0, .slice none 0 0] := by rw [hn]; exact Blk.new_ _ 25 _ rfl
      have seq2 : q1.heap.size < q2.heap.size := by rw [hn]; simp
      clear hn
      have bq2 : Below wx.heap.size wx q2 := bq1.trans (hbq2.mono bq1.size)
      have lq2 := hbq2.size
      refine mid_intro bq2 ?_
      refine gC_one (i := 8) (by kernel_rfl) rfl ?_
      ·go_wp2_with (go_at_call 46; refine (sNodeT_any 5 (rdx_consT hlp ((rp.below kwwx).below bq2).rdp (rdx_consT (ks := []) (by simp) (Rd.nil (w := q2)).rdp rdx_nilT)) 2 rfl (by omega) _ _ zq2).mono ?_; rintro e q3 ⟨A6, c6, rfl, r6, hbq3⟩)
       have bq3 : Below wx.heap.size wx q3 := bq2.trans (hbq3.mono bq2.size)
       have lq3 := hbq3.size
       refine mid_intro bq3 ?_
       refine gC_one (i := 9) (by kernel_rfl) rfl ?_
       ·go_wp2_with (go_at_call 86; refine (hC1.out _ _ _ ((hrc.below kwwx).below bq3) ((rz.below kwwx).below bq3) r6).mono ?_; rintro e q4 ⟨he, hbq4⟩; obtain rfl : e = .returned (.int .i64 0) := he)
        have bq4 : Below wx.heap.size wx q4 := bq3.trans (hbq4.mono bq3.size)
        have lq4 := hbq4.size
        refine mid_intro bq4 ?_
        refine gC_end [10] (lB := [_]) (by simp) (by kernel_rfl) (by kernel_rfl) rfl ?_
        simp only [List.getElem_toArray, List.getElem_cons_zero, List.getElem_cons_succ, Act.put, List.setIfInBounds_toArray, List.set_cons_zero, List.set_cons_succ]
        have hTq4 := hTwx.keep bq4
        have hZq4 := hZwx.keep bq4
        have hPq4 := hPwx.keep bq4
        have hNq4 := hNwx.keep bq4
        have kwq4 := kwwx.trans (bq4.mono kwwx.size)
        have kwxq4 := bq4
        go_upto_region 7 with fail
        refine name_world ?_
        intro wu hwwu
        have hTwu : Blk wu w.heap.size #[.int .i64 k, .int .i64 n, .slice (some ⟨bk, ok, none⟩) 4 c] := by rw [hwwu]; exact hTq4
        have hZwu : Blk wu (w.heap.size + 1) #[.int .i64 0, .int .i64 0, .slice none 0 0] := by rw [hwwu]; exact hZq4
        have hPwu : Blk wu (w.heap.size + 1 + 1) #[.int .i64 k9, .int .i64 np, .slice Ap sp.length cp] := by rw [hwwu]; exact hPq4
        have hNwu : Blk wu w1.heap.size #[.int .i64 6, .int .i64 0, .slice none 0 0] := by rw [hwwu]; exact hNq4
        have kwwu : Below w.heap.size w wu := by rw [hwwu]; exact kwq4
        have kwxwu : Below wx.heap.size wx wu := by rw [hwwu]; exact kwxq4
        clear hwwu
        clear v2 y0 y1 y2 uz1 uz2 uz3
        have v2 := rule_of hTwu.three.2.2
        have y0 := rule_of hPwu.three.1
        have y1 := rule_of hPwu.three.2.1
        have y2 := rule_of hPwu.three.2.2
        have us1 := rule_of (Keeps.of_below kwwu _ _ s1)
        have us2 := rule_of (Keeps.of_below kwwu _ _ s2)
        have us3 := rule_of (Keeps.of_below kwwu _ _ s3)
        obtain ⟨q0, hq0⟩ : ∃ q0, q0 = wu.drew := ⟨_, rfl⟩
        have bq0 : Below wu.heap.size wu q0 := by rw [hq0]; exact (Below.refl _ _).drew
        refine gC_start (fun w' => Below wu.heap.size wu w') [8] 9 (by kernel_rfl) rfl ?_
        refine gC_take [0, 1, 2, 3, 4, 5] (f := 3) (l' := #[true, true, true, true, true, true, false, false, false]) (lT := [_, _, _, _, _, _]) (by rw [← hq0]; exact bq0) rfl (by kernel_rfl) (by kernel_rfl) (by kernel_rfl) rfl (fun _ _ d _ _ h => by cases d <;> exact h) ?_
        repeat ((first | ((refine takeY_skip (a' := ?_) ?_ ?_ ?_); (rotate_left); (· (simp [Region.wanted, yielded, Go.undef]; done))) | ((refine takeY_step (v := ?_) (a' := ?_) ?_ ?_ ?_ ?_); (rotate_left 2); (· (simp [Region.wanted, yielded, Go.undef]; done)); (· (intro w' hS'; go_simp; try (with_reducible rfl))))); (· (simp only [List.getElem_toArray, List.getElem_cons_zero, List.getElem_cons_succ, Act.put, List.setIfInBounds_toArray, List.set_cons_zero, List.set_cons_succ]; exact rfl)))
        refine takeY_nil ?_
        rw [← hq0]
        clear hq0
        refine gC_one (i := 6) (by kernel_rfl) rfl ?_
        ·go_wp2_with (go_at_call 89; refine (hT9.out _ ((rp.below kwwu).below bq0)).mono ?_; rintro e q1 ⟨A8, c8, rfl, hl8, r8, hbq1⟩)
         have bq1 : Below wu.heap.size wu q1 := bq0.trans (hbq1.mono bq0.size)
         have lq1 := hbq1.size
         refine mid_intro bq1 ?_
         refine gC_one (i := 7) (by kernel_rfl) rfl ?_
         ·go_wp2_with (go_at_call 86; refine (hC2.out _ _ _ ((hrc.below kwwu).below bq1) ((rs.below kwwu).below bq1) r8).mono ?_; rintro e q2 ⟨he, hbq2⟩; obtain rfl : e = .returned (.int .i64 (cdB b)) := he)
          have bq2 : Below wu.heap.size wu q2 := bq1.trans (hbq2.mono bq1.size)
          have lq2 := hbq2.size
          refine mid_intro bq2 ?_
          refine gC_end [8] (lB := [_]) (by simp) (by kernel_rfl) (by kernel_rfl) rfl ?_
          simp only [List.getElem_toArray, List.getElem_cons_zero, List.getElem_cons_succ, Act.put, List.setIfInBounds_toArray, List.set_cons_zero, List.set_cons_succ]
          have hTq2 := hTwu.keep bq2
          have hZq2 := hZwu.keep bq2
          have hPq2 := hPwu.keep bq2
          have hNq2 := hNwu.keep bq2
          have kwq2 := kwwu.trans (bq2.mono kwwu.size)
          have kwxq2 := kwxwu.trans (bq2.mono kwxwu.size)
          have kwuq2 := bq2
          go_upto_region 10 with fail
          refine name_world ?_
          intro wl hwwl
          have hTwl : Blk wl w.heap.size #[.int .i64 k, .int .i64 n, .slice (some ⟨bk, ok, none⟩) 4 c] := by rw [hwwl]; exact hTq2
          have hZwl : Blk wl (w.heap.size + 1) #[.int .i64 0, .int .i64 0, .slice none 0 0] := by rw [hwwl]; exact hZq2
          have hPwl : Blk wl (w.heap.size + 1 + 1) #[.int .i64 k9, .int .i64 np, .slice Ap sp.length cp] := by rw [hwwl]; exact hPq2
          have hNwl : Blk wl w1.heap.size #[.int .i64 6, .int .i64 0, .slice none 0 0] := by rw [hwwl]; exact hNq2
          have kwwl : Below w.heap.size w wl := by rw [hwwl]; exact kwq2
          have kwxwl : Below wx.heap.size wx wl := by rw [hwwl]; exact kwxq2
          have kwuwl : Below wu.heap.size wu wl := by rw [hwwl]; exact kwuq2
          clear hwwl
          have lPz := hPwl.lt
          have lZz := hZwl.lt
          have nz0 : bk ≠ (w.heap.size + 1) := by omega
          have nz1 : w.heap.size ≠ (w.heap.size + 1) := by omega
          have nz2 : (w.heap.size + 1 + 1) ≠ (w.heap.size + 1) := by omega
          have lv := rule_ke (z := (w.heap.size + 1)) hTwl.three.2.2 nz1
          have lp0 := rule_ke (z := (w.heap.size + 1)) hPwl.three.1 nz2
          have lp1 := rule_ke (z := (w.heap.size + 1)) hPwl.three.2.1 nz2
          have lp2 := rule_ke (z := (w.heap.size + 1)) hPwl.three.2.2 nz2
          have ln1 := rule_ke (z := (w.heap.size + 1)) (Keeps.of_below kwwl _ _ n1) nz0
          have ln2 := rule_ke (z := (w.heap.size + 1)) (Keeps.of_below kwwl _ _ n2) nz0
          have ln3 := rule_ke (z := (w.heap.size + 1)) (Keeps.of_below kwwl _ _ n3) nz0
          obtain ⟨q0, hq0⟩ : ∃ q0, q0 = wl.drew := ⟨_, rfl⟩
          have bq0 : Below wl.heap.size wl q0 := by rw [hq0]; exact (Below.refl _ _).drew
          have keq0 := KE.of (w.heap.size + 1) bq0
          refine gC_start (KE wl (w.heap.size + 1)) [9] 10 (by kernel_rfl) rfl ?_
          refine gC_take [0, 1, 2, 3, 4, 7] (f := 4) (l' := #[true, true, true, true, true, false, false, true, false, false]) (lT := [_, _, _, _, _, _]) (by rw [← hq0]; exact keq0) rfl (by kernel_rfl) (by kernel_rfl) (by kernel_rfl) rfl (fun _ _ d _ _ h => by cases d <;> exact h) ?_
          repeat ((first | ((refine takeY_skip (a' := ?_) ?_ ?_ ?_); (rotate_left); (· (simp [Region.wanted, yielded, Go.undef]; done))) | ((refine takeY_step (v := ?_) (a' := ?_) ?_ ?_ ?_ ?_); (rotate_left 2); (· (simp [Region.wanted, yielded, Go.undef]; done)); (· (intro w' hS'; go_simp; try (with_reducible rfl))))); (· (simp only [List.getElem_toArray, List.getElem_cons_zero, List.getElem_cons_succ, Act.put, List.setIfInBounds_toArray, List.set_cons_zero, List.set_cons_succ]; exact rfl)))
          refine takeY_nil ?_
          rw [← hq0]
          clear hq0
          refine gC_one (i := 5) (by kernel_rfl) rfl ?_
          go_wp2_with fail
          refine name_midw ?_
          intro q1 hn
          have hbq1 : Below q0.heap.size q0 q1 := by rw [hn]; exact (Below.refl _ _).alloc (Nat.le_refl _) _
          have zq1 : Blk q1 q0.heap.size #[.int .i64 k9, .int .i64 np, .slice Ap sp.length cp, .int .i64 kn, .int .i64 nn, .slice An sn.length cn] := by rw [hn]; exact Blk.new_ _ 25 _ rfl
          have seq1 : q0.heap.size < q1.heap.size := by rw [hn]; simp
          clear hn
          have bq1 : Below wl.heap.size wl q1 := bq0.trans (hbq1.mono bq0.size)
          have lq1 := hbq1.size
          have keq1 := KE.of (w.heap.size + 1) bq1
          refine mid_intro keq1 ?_
          refine gC_one (i := 6) (by kernel_rfl) rfl ?_
          go_wp2_with (go_at_call 46; refine (sNodeT_any 5 (rdx_consT hlp ((rp.below kwwl).below bq1).rdp (rdx_consT hln ((rn.below kwwl).below bq1).rdp rdx_nilT)) 2 rfl (by omega) _ _ zq1).mono ?_; rintro e q2 ⟨A7, c7, rfl, r7, hbq2⟩)
          have bq2 : Below wl.heap.size wl q2 := bq1.trans (hbq2.mono bq1.size)
          have lq2 := hbq2.size
          have keq2 := KE.of (w.heap.size + 1) bq2
          refine mid_intro keq2 ?_
          refine gC_one (i := 8) (by kernel_rfl) rfl ?_
          have hZz := hZwl.keep bq2
          obtain ⟨d0, d1, d2⟩ := hZz.three
          have e0 := hZz.frozen 0
          have e1 := hZz.frozen 1
          have e2 := hZz.frozen 2
          have lz := hZz.lt
          go_wp2_with fail
          refine name_midw ?_
          intro q3 hn
          have hZq3 : Blk q3 (w.heap.size + 1) #[.int .i64 5, .int .i64 0, .slice A7 2 c7] := by rw [hn]; exact ((hZz.set_ 0 _).set_ 1 _).set_ 2 _
          have rq3 : Rd q3 A7 0 [.mk k9 np sp, .mk kn nn sn] := by rw [hn]; exact rd_set0L hZz hvl.out r7 _ _ _
          have kwq3 : Below w.heap.size w q3 := by rw [hn]; exact (((kwwl.trans (bq2.mono kwwl.size)).setCell (by simp <;> omega) _).setCell (by simp <;> omega) _).setCell (by simp <;> omega) _
          have keq3 : KE wl (w.heap.size + 1) q3 := by rw [hn]; exact ((keq2.set _ _).set _ _).set _ _
          clear hn d0 d1 d2 e0 e1 e2 lz
          refine mid_intro keq3 ?_
          refine gC_end [9] (lB := [_]) (by simp) (by kernel_rfl) (by kernel_rfl) rfl ?_
          simp only [List.getElem_toArray, List.getElem_cons_zero, List.getElem_cons_succ, Act.put, List.setIfInBounds_toArray, List.set_cons_zero, List.set_cons_succ]
          obtain ⟨d0, d1, d2⟩ := hZq3.three
          have e0 := hZq3.frozen 0
          have e1 := hZq3.frozen 1
          have e2 := hZq3.frozen 2
          have lz := hZq3.lt
          go_wp2_with fail
          refine bodyPost_ret (v := .tuple #[.agg #[.int .i64 5, .int .i64 0, .slice A7 2 c7], .int .i64 (cdB b)]) (by simp [results, Try.results74, go_sem, d0, d1, d2]) rfl ⟨5, 0, A7, 2, c7, rfl, kwq3⟩
   ·have hC2 := hide (fun (A2 : Option Addr) (c2 : Nat) (w : World) (hrc : Rd w C 0 ctx) (hrt : Rd w As 0 ss) (hr2 : Rd w A2 0 [Tm.mk 6 0 [], Tm.mk 3 0 [Tm.mk 5 0 [Tm.mk k9 n8 s8, Tm.mk 1 0 []], Tm.mk 5 0 [Tm.mk k9 n9 s9, Tm.mk 8 0 [Tm.mk 1 1 []]]]]) => sCheck_any ih ctx C cc ks ns ss As cs 3 0 [Tm.mk 6 0 [], Tm.mk 3 0 [Tm.mk 5 0 [Tm.mk k9 n8 s8, Tm.mk 1 0 []], Tm.mk 5 0 [Tm.mk k9 n9 s9, Tm.mk 8 0 [Tm.mk 1 1 []]]]] A2 c2 _ w h3 hvs hvc (by omega) hrc hrt hsz3 hr2)
    rcases bd_inv hs with ⟨b, h4, rfl⟩ | ⟨u4, h4, hs⟩
    ·have hC3 := hide (fun (A2 : Option Addr) (c2 : Nat) (w : World) (hrc : Rd w C 0 ctx) (hrt : Rd w An 0 sn) (hr2 : Rd w A2 0 []) => sCheck_any ih ctx C cc kn nn sn An cn 6 0 [] A2 c2 _ w h4 hvn hvc (by omega) hrc hrt (by simp [sizes]) hr2)
     have qb := cdB_q2 b
     clear hs h1 h2 h3 h4 hvp hvz hvs hvn hvc ih
     go_enter Try.func74, Try.ntmps74
     go_upto_region 5 with (first
      | (go_at_call 88; have _t := tok; refine (hF.out _ (hrc.below kw2) (rp.below kw2) Rd.nil).mono ?_; rintro e w3 ⟨he, hb3⟩; obtain rfl : e = .returned (.int .i64 0) := he; have hTw3 := hT2.keep hb3; have hZw3 := hZ2.keep hb3; have hPw3 := hP2.keep hb3; have hNw3 := hN2.keep hb3; have kww3 := kw2.trans (hb3.mono kw2.size); clear y0 y1 y2)
      | (go_at_call 28; refine (sLeaf_any _ _ _).mono ?_; rintro e w1 ⟨rfl, hb1⟩; have hT1 : Blk w1 w.heap.size #[.int .i64 k, .int .i64 n, .slice (some ⟨bk, ok, none⟩) 4 c] := (((Blk.new_ w 25 #[.int .i64 k, .int .i64 n, .slice (some ⟨bk, ok, none⟩) 4 c] rfl).alloc _).alloc _).keep hb1; have hZ1 : Blk w1 (w.heap.size + 1) #[.int .i64 0, .int .i64 0, .slice none 0 0] := ((Blk.new_ _ 25 #[.int .i64 0, .int .i64 0, .slice none 0 0] (by simp)).alloc _).keep hb1; have hP1 : Blk w1 (w.heap.size + 1 + 1) #[.int .i64 k9, .int .i64 np, .slice Ap sp.length cp] := (Blk.new_ _ 25 #[.int .i64 k9, .int .i64 np, .slice Ap sp.length cp] (by simp)).keep hb1; have kw1 : Below w.heap.size w w1 := ((((Below.refl _ _).alloc (by simp <;> omega) _).alloc (by simp <;> omega) _).alloc (by simp <;> omega) _).trans (hb1.mono (by simp <;> omega)); have hT2 := hT1.alloc (.cells #[.int .i64 6, .int .i64 0, .slice none 0 0] 25); have hZ2 := hZ1.alloc (.cells #[.int .i64 6, .int .i64 0, .slice none 0 0] 25); have hP2 := hP1.alloc (.cells #[.int .i64 6, .int .i64 0, .slice none 0 0] 25); have kw2 := kw1.alloc kw1.size (.cells #[.int .i64 6, .int .i64 0, .slice none 0 0] 25); have hN2 := Blk.new_ w1 25 #[.int .i64 6, .int .i64 0, .slice none 0 0] rfl; obtain ⟨y0, y1, y2⟩ := hP2.three; have tok := trivial))
     refine name_world ?_
     intro wx hwwx
     have hTwx : Blk wx w.heap.size #[.int .i64 k, .int .i64 n, .slice (some ⟨bk, ok, none⟩) 4 c] := by rw [hwwx]; exact hTw3
     have hZwx : Blk wx (w.heap.size + 1) #[.int .i64 0, .int .i64 0, .slice none 0 0] := by rw [hwwx]; exact hZw3
     have hPwx : Blk wx (w.heap.size + 1 + 1) #[.int .i64 k9, .int .i64 np, .slice Ap sp.length cp] := by rw [hwwx]; exact hPw3
     have hNwx : Blk wx w1.heap.size #[.int .i64 6, .int .i64 0, .slice none 0 0] := by rw [hwwx]; exact hNw3
     have kwwx : Below w.heap.size w wx := by rw [hwwx]; exact kww3
     clear hwwx
     have v2 := rule_of hTwx.three.2.2
     have y0 := rule_of hPwx.three.1
     have y1 := rule_of hPwx.three.2.1
     have y2 := rule_of hPwx.three.2.2
     have uz1 := rule_of (Keeps.of_below kwwx _ _ z1)
     have uz2 := rule_of (Keeps.of_below kwwx _ _ z2)
     have uz3 := rule_of (Keeps.of_below kwwx _ _ z3)
     obtain ⟨q0, hq0⟩ : ∃ q0, q0 = wx.drew := ⟨_, rfl⟩
     have bq0 : Below wx.heap.size wx q0 := by rw [hq0]; exact (Below.refl _ _).drew
     refine gC_start (fun w' => Below wx.heap.size wx w') [10] 11 (by kernel_rfl) rfl ?_
     refine gC_take [0, 1, 2, 3, 4, 5] (f := 5) (l' := #[true, true, true, true, true, true, false, false, false, false, false]) (lT := [_, _, _, _, _, _]) (by rw [← hq0]; exact bq0) rfl (by kernel_rfl) (by kernel_rfl) (by kernel_rfl) rfl (fun _ _ d _ _ h => by cases d <;> exact h) ?_
     repeat ((first | ((refine takeY_skip (a' := ?_) ?_ ?_ ?_); (rotate_left); (· (simp [Region.wanted, yielded, Go.undef]; done))) | ((refine takeY_step (v := ?_) (a' := ?_) ?_ ?_ ?_ ?_); (rotate_left 2); (· (simp [Region.wanted, yielded, Go.undef]; done)); (· (intro w' hS'; go_simp; try (with_reducible rfl))))); (· (simp only [List.getElem_toArray, List.getElem_cons_zero, List.getElem_cons_succ, Act.put, List.setIfInBounds_toArray, List.set_cons_zero, List.set_cons_succ]; exact rfl)))
     refine takeY_nil ?_
     rw [← hq0]
     clear hq0
     refine gC_one (i := 6) (by kernel_rfl) rfl ?_
     ·go_wp2_with (go_at_call 28; refine (sLeaf_any _ _ _).mono ?_; rintro e q1 ⟨rfl, hbq1⟩)
      have bq1 : Below wx.heap.size wx q1 := bq0.trans (hbq1.mono bq0.size)
      have lq1 := hbq1.size
      refine mid_intro bq1 ?_
      refine gC_one (i := 7) (by kernel_rfl) rfl ?_
      ·go_wp2_with fail
       refine name_midw ?_
       intro q2 hn
       have hbq2 : Below q1.heap.size q1 q2 := by rw [hn]; exact (Below.refl _ _).alloc (Nat.le_refl _) _
       have zq2 : Blk q2 q1.heap.size #[.int .i64 k9, .int .i64 np, .slice Ap sp.length cp, .int .i64 7, .int .i64 0, .slice none 0 0] := by rw [hn]; exact Blk.new_ _ 25 _ rfl
       have seq2 : q1.heap.size < q2.heap.size := by rw [hn]; simp
       clear hn
       have bq2 : Below wx.heap.size wx q2 := bq1.trans (hbq2.mono bq1.size)
       have lq2 := hbq2.size
       refine mid_intro bq2 ?_
       refine gC_one (i := 8) (by kernel_rfl) rfl ?_
       ·go_wp2_with (go_at_call 46; refine (sNodeT_any 5 (rdx_consT hlp ((rp.below kwwx).below bq2).rdp (rdx_consT (ks := []) (by simp) (Rd.nil (w := q2)).rdp rdx_nilT)) 2 rfl (by omega) _ _ zq2).mono ?_; rintro e q3 ⟨A6, c6, rfl, r6, hbq3⟩)
        have bq3 : Below wx.heap.size wx q3 := bq2.trans (hbq3.mono bq2.size)
        have lq3 := hbq3.size
        refine mid_intro bq3 ?_
        refine gC_one (i := 9) (by kernel_rfl) rfl ?_
        ·go_wp2_with (go_at_call 86; refine (hC1.out _ _ _ ((hrc.below kwwx).below bq3) ((rz.below kwwx).below bq3) r6).mono ?_; rintro e q4 ⟨he, hbq4⟩; obtain rfl : e = .returned (.int .i64 0) := he)
         have bq4 : Below wx.heap.size wx q4 := bq3.trans (hbq4.mono bq3.size)
         have lq4 := hbq4.size
         refine mid_intro bq4 ?_
         refine gC_end [10] (lB := [_]) (by simp) (by kernel_rfl) (by kernel_rfl) rfl ?_
         simp only [List.getElem_toArray, List.getElem_cons_zero, List.getElem_cons_succ, Act.put, List.setIfInBounds_toArray, List.set_cons_zero, List.set_cons_succ]
         have hTq4 := hTwx.keep bq4
         have hZq4 := hZwx.keep bq4
         have hPq4 := hPwx.keep bq4
         have hNq4 := hNwx.keep bq4
         have kwq4 := kwwx.trans (bq4.mono kwwx.size)
         have kwxq4 := bq4
         go_upto_region 7 with fail
         refine name_world ?_
         intro wu hwwu
         have hTwu : Blk wu w.heap.size #[.int .i64 k, .int .i64 n, .slice (some ⟨bk, ok, none⟩) 4 c] := by rw [hwwu]; exact hTq4
         have hZwu : Blk wu (w.heap.size + 1) #[.int .i64 0, .int .i64 0, .slice none 0 0] := by rw [hwwu]; exact hZq4
         have hPwu : Blk wu (w.heap.size + 1 + 1) #[.int .i64 k9, .int .i64 np, .slice Ap sp.length cp] := by rw [hwwu]; exact hPq4
         have hNwu : Blk wu w1.heap.size #[.int .i64 6, .int .i64 0, .slice none 0 0] := by rw [hwwu]; exact hNq4
         have kwwu : Below w.heap.size w wu := by rw [hwwu]; exact kwq4
         have kwxwu : Below wx.heap.size wx wu := by rw [hwwu]; exact kwxq4
         clear hwwu
         clear v2 y0 y1 y2 uz1 uz2 uz3
         have v2 := rule_of hTwu.three.2.2
         have y0 := rule_of hPwu.three.1
         have y1 := rule_of hPwu.three.2.1
         have y2 := rule_of hPwu.three.2.2
         have us1 := rule_of (Keeps.of_below kwwu _ _ s1)
         have us2 := rule_of (Keeps.of_below kwwu _ _ s2)
         have us3 := rule_of (Keeps.of_below kwwu _ _ s3)
         obtain ⟨q0, hq0⟩ : ∃ q0, q0 = wu.drew := ⟨_, rfl⟩
         have bq0 : Below wu.heap.size wu q0 := by rw [hq0]; exact (Below.refl _ _).drew
         refine gC_start (fun w' => Below wu.heap.size wu w') [8] 9 (by kernel_rfl) rfl ?_
         refine gC_take [0, 1, 2, 3, 4, 5] (f := 3) (l' := #[true, true, true, true, true, true, false, false, false]) (lT := [_, _, _, _, _, _]) (by rw [← hq0]; exact bq0) rfl (by kernel_rfl) (by kernel_rfl) (by kernel_rfl) rfl (fun _ _ d _ _ h => by cases d <;> exact h) ?_
         repeat ((first | ((refine takeY_skip (a' := ?_) ?_ ?_ ?_); (rotate_left); (· (simp [Region.wanted, yielded, Go.undef]; done))) | ((refine takeY_step (v := ?_) (a' := ?_) ?_ ?_ ?_ ?_); (rotate_left 2); (· (simp [Region.wanted, yielded, Go.undef]; done)); (· (intro w' hS'; go_simp; try (with_reducible rfl))))); (· (simp only [List.getElem_toArray, List.getElem_cons_zero, List.getElem_cons_succ, Act.put, List.setIfInBounds_toArray, List.set_cons_zero, List.set_cons_succ]; exact rfl)))
         refine takeY_nil ?_
         rw [← hq0]
         clear hq0
         refine gC_one (i := 6) (by kernel_rfl) rfl ?_
         ·go_wp2_with (go_at_call 89; refine (hT9.out _ ((rp.below kwwu).below bq0)).mono ?_; rintro e q1 ⟨A8, c8, rfl, hl8, r8, hbq1⟩)
          have bq1 : Below wu.heap.size wu q1 := bq0.trans (hbq1.mono bq0.size)
          have lq1 := hbq1.size
          refine mid_intro bq1 ?_
          refine gC_one (i := 7) (by kernel_rfl) rfl ?_
          ·go_wp2_with (go_at_call 86; refine (hC2.out _ _ _ ((hrc.below kwwu).below bq1) ((rs.below kwwu).below bq1) r8).mono ?_; rintro e q2 ⟨he, hbq2⟩; obtain rfl : e = .returned (.int .i64 0) := he)
           have bq2 : Below wu.heap.size wu q2 := bq1.trans (hbq2.mono bq1.size)
           have lq2 := hbq2.size
           refine mid_intro bq2 ?_
           refine gC_end [8] (lB := [_]) (by simp) (by kernel_rfl) (by kernel_rfl) rfl ?_
           simp only [List.getElem_toArray, List.getElem_cons_zero, List.getElem_cons_succ, Act.put, List.setIfInBounds_toArray, List.set_cons_zero, List.set_cons_succ]
           have hTq2 := hTwu.keep bq2
           have hZq2 := hZwu.keep bq2
           have hPq2 := hPwu.keep bq2
           have hNq2 := hNwu.keep bq2
           have kwq2 := kwwu.trans (bq2.mono kwwu.size)
           have kwxq2 := kwxwu.trans (bq2.mono kwxwu.size)
           have kwuq2 := bq2
           go_upto_region 9 with fail
           refine name_world ?_
           intro wv hwwv
           have hTwv : Blk wv w.heap.size #[.int .i64 k, .int .i64 n, .slice (some ⟨bk, ok, none⟩) 4 c] := by rw [hwwv]; exact hTq2
           have hZwv : Blk wv (w.heap.size + 1) #[.int .i64 0, .int .i64 0, .slice none 0 0] := by rw [hwwv]; exact hZq2
           have hPwv : Blk wv (w.heap.size + 1 + 1) #[.int .i64 k9, .int .i64 np, .slice Ap sp.length cp] := by rw [hwwv]; exact hPq2
           have hNwv : Blk wv w1.heap.size #[.int .i64 6, .int .i64 0, .slice none 0 0] := by rw [hwwv]; exact hNq2
           have kwwv : Below w.heap.size w wv := by rw [hwwv]; exact kwq2
           have kwxwv : Below wx.heap.size wx wv := by rw [hwwv]; exact kwxq2
           have kwuwv : Below wu.heap.size wu wv := by rw [hwwv]; exact kwuq2
           clear hwwv
           clear v2 y0 y1 y2 us1 us2 us3
           have v2 := rule_of hTwv.three.2.2
           have y0 := rule_of hNwv.three.1
           have y1 := rule_of hNwv.three.2.1
           have y2 := rule_of hNwv.three.2.2
           have un1 := rule_of (Keeps.of_below kwwv _ _ n1)
           have un2 := rule_of (Keeps.of_below kwwv _ _ n2)
           have un3 := rule_of (Keeps.of_below kwwv _ _ n3)
           obtain ⟨q0, hq0⟩ : ∃ q0, q0 = wv.drew := ⟨_, rfl⟩
           have bq0 : Below wv.heap.size wv q0 := by rw [hq0]; exact (Below.refl _ _).drew
           refine gC_start (fun w' => Below wv.heap.size wv w') [7] 8 (by kernel_rfl) rfl ?_
           refine gC_take [0, 1, 2, 3, 4, 5] (f := 2) (l' := #[true, true, true, true, true, true, false, false]) (lT := [_, _, _, _, _, _]) (by rw [← hq0]; exact bq0) rfl (by kernel_rfl) (by kernel_rfl) (by kernel_rfl) rfl (fun _ _ d _ _ h => by cases d <;> exact h) ?_
           repeat ((first | ((refine takeY_skip (a' := ?_) ?_ ?_ ?_); (rotate_left); (· (simp [Region.wanted, yielded, Go.undef]; done))) | ((refine takeY_step (v := ?_) (a' := ?_) ?_ ?_ ?_ ?_); (rotate_left 2); (· (simp [Region.wanted, yielded, Go.undef]; done)); (· (intro w' hS'; go_simp; try (with_reducible rfl))))); (· (simp only [List.getElem_toArray, List.getElem_cons_zero, List.getElem_cons_succ, Act.put, List.setIfInBounds_toArray, List.set_cons_zero, List.set_cons_succ]; exact rfl)))
           refine takeY_nil ?_
           rw [← hq0]
           clear hq0
           refine gC_one (i := 6) (by kernel_rfl) rfl ?_
           ·go_wp2_with (go_at_call 86; refine (hC3.out _ _ _ ((hrc.below kwwv).below bq0) ((rn.below kwwv).below bq0) Rd.nil).mono ?_; rintro e q1 ⟨he, hbq1⟩; obtain rfl : e = .returned (.int .i64 (cdB b)) := he)
            have bq1 : Below wv.heap.size wv q1 := bq0.trans (hbq1.mono bq0.size)
            have lq1 := hbq1.size
            refine mid_intro bq1 ?_
            refine gC_end [7] (lB := [_]) (by simp) (by kernel_rfl) (by kernel_rfl) rfl ?_
            simp only [List.getElem_toArray, List.getElem_cons_zero, List.getElem_cons_succ, Act.put, List.setIfInBounds_toArray, List.set_cons_zero, List.set_cons_succ]
            have hTq1 := hTwv.keep bq1
            have hZq1 := hZwv.keep bq1
            have hPq1 := hPwv.keep bq1
            have hNq1 := hNwv.keep bq1
            have kwq1 := kwwv.trans (bq1.mono kwwv.size)
            have kwxq1 := kwxwv.trans (bq1.mono kwxwv.size)
            have kwuq1 := kwuwv.trans (bq1.mono kwuwv.size)
            have kwvq1 := bq1
            go_upto_region 10 with fail
            refine name_world ?_
            intro wl hwwl
            have hTwl : Blk wl w.heap.size #[.int .i64 k, .int .i64 n, .slice (some ⟨bk, ok, none⟩) 4 c] := by rw [hwwl]; exact hTq1
            have hZwl : Blk wl (w.heap.size + 1) #[.int .i64 0, .int .i64 0, .slice none 0 0] := by rw [hwwl]; exact hZq1
            have hPwl : Blk wl (w.heap.size + 1 + 1) #[.int .i64 k9, .int .i64 np, .slice Ap sp.length cp] := by rw [hwwl]; exact hPq1
            have hNwl : Blk wl w1.heap.size #[.int .i64 6, .int .i64 0, .slice none 0 0] := by rw [hwwl]; exact hNq1
            have kwwl : Below w.heap.size w wl := by rw [hwwl]; exact kwq1
            have kwxwl : Below wx.heap.size wx wl := by rw [hwwl]; exact kwxq1
            have kwuwl : Below wu.heap.size wu wl := by rw [hwwl]; exact kwuq1
            have kwvwl : Below wv.heap.size wv wl := by rw [hwwl]; exact kwvq1
            clear hwwl
            have lPz := hPwl.lt
            have lZz := hZwl.lt
            have nz0 : bk ≠ (w.heap.size + 1) := by omega
            have nz1 : w.heap.size ≠ (w.heap.size + 1) := by omega
            have nz2 : (w.heap.size + 1 + 1) ≠ (w.heap.size + 1) := by omega
            have lv := rule_ke (z := (w.heap.size + 1)) hTwl.three.2.2 nz1
            have lp0 := rule_ke (z := (w.heap.size + 1)) hPwl.three.1 nz2
            have lp1 := rule_ke (z := (w.heap.size + 1)) hPwl.three.2.1 nz2
            have lp2 := rule_ke (z := (w.heap.size + 1)) hPwl.three.2.2 nz2
            have ln1 := rule_ke (z := (w.heap.size + 1)) (Keeps.of_below kwwl _ _ n1) nz0
            have ln2 := rule_ke (z := (w.heap.size + 1)) (Keeps.of_below kwwl _ _ n2) nz0
            have ln3 := rule_ke (z := (w.heap.size + 1)) (Keeps.of_below kwwl _ _ n3) nz0
            obtain ⟨q0, hq0⟩ : ∃ q0, q0 = wl.drew := ⟨_, rfl⟩
            have bq0 : Below wl.heap.size wl q0 := by rw [hq0]; exact (Below.refl _ _).drew
            have keq0 := KE.of (w.heap.size + 1) bq0
            refine gC_start (KE wl (w.heap.size + 1)) [9] 10 (by kernel_rfl) rfl ?_
            refine gC_take [0, 1, 2, 3, 4, 7] (f := 4) (l' := #[true, true, true, true, true, false, false, true, false, false]) (lT := [_, _, _, _, _, _]) (by rw [← hq0]; exact keq0) rfl (by kernel_rfl) (by kernel_rfl) (by kernel_rfl) rfl (fun _ _ d _ _ h => by cases d <;> exact h) ?_
            repeat ((first | ((refine takeY_skip (a' := ?_) ?_ ?_ ?_); (rotate_left); (· (simp [Region.wanted, yielded, Go.undef]; done))) | ((refine takeY_step (v := ?_) (a' := ?_) ?_ ?_ ?_ ?_); (rotate_left 2); (· (simp [Region.wanted, yielded, Go.undef]; done)); (· (intro w' hS'; go_simp; try (with_reducible rfl))))); (· (simp only [List.getElem_toArray, List.getElem_cons_zero, List.getElem_cons_succ, Act.put, List.setIfInBounds_toArray, List.set_cons_zero, List.set_cons_succ]; exact rfl)))
            refine takeY_nil ?_
            rw [← hq0]
            clear hq0
            refine gC_one (i := 5) (by kernel_rfl) rfl ?_
            go_wp2_with fail
            refine name_midw ?_
            intro q1 hn
            have hbq1 : Below q0.heap.size q0 q1 := by rw [hn]; exact (Below.refl _ _).alloc (Nat.le_refl _) _
            have zq1 : Blk q1 q0.heap.size #[.int .i64 k9, .int .i64 np, .slice Ap sp.length cp, .int .i64 kn, .int .i64 nn, .slice An sn.length cn] := by rw [hn]; exact Blk.new_ _ 25 _ rfl
            have seq1 : q0.heap.size < q1.heap.size := by rw [hn]; simp
            clear hn
            have bq1 : Below wl.heap.size wl q1 := bq0.trans (hbq1.mono bq0.size)
            have lq1 := hbq1.size
            have keq1 := KE.of (w.heap.size + 1) bq1
            refine mid_intro keq1 ?_
            refine gC_one (i := 6) (by kernel_rfl) rfl ?_
            go_wp2_with (go_at_call 46; refine (sNodeT_any 5 (rdx_consT hlp ((rp.below kwwl).below bq1).rdp (rdx_consT hln ((rn.below kwwl).below bq1).rdp rdx_nilT)) 2 rfl (by omega) _ _ zq1).mono ?_; rintro e q2 ⟨A7, c7, rfl, r7, hbq2⟩)
            have bq2 : Below wl.heap.size wl q2 := bq1.trans (hbq2.mono bq1.size)
            have lq2 := hbq2.size
            have keq2 := KE.of (w.heap.size + 1) bq2
            refine mid_intro keq2 ?_
            refine gC_one (i := 8) (by kernel_rfl) rfl ?_
            have hZz := hZwl.keep bq2
            obtain ⟨d0, d1, d2⟩ := hZz.three
            have e0 := hZz.frozen 0
            have e1 := hZz.frozen 1
            have e2 := hZz.frozen 2
            have lz := hZz.lt
            go_wp2_with fail
            refine name_midw ?_
            intro q3 hn
            have hZq3 : Blk q3 (w.heap.size + 1) #[.int .i64 5, .int .i64 0, .slice A7 2 c7] := by rw [hn]; exact ((hZz.set_ 0 _).set_ 1 _).set_ 2 _
            have rq3 : Rd q3 A7 0 [.mk k9 np sp, .mk kn nn sn] := by rw [hn]; exact rd_set0L hZz hvl.out r7 _ _ _
            have kwq3 : Below w.heap.size w q3 := by rw [hn]; exact (((kwwl.trans (bq2.mono kwwl.size)).setCell (by simp <;> omega) _).setCell (by simp <;> omega) _).setCell (by simp <;> omega) _
            have keq3 : KE wl (w.heap.size + 1) q3 := by rw [hn]; exact ((keq2.set _ _).set _ _).set _ _
            clear hn d0 d1 d2 e0 e1 e2 lz
            refine mid_intro keq3 ?_
            refine gC_end [9] (lB := [_]) (by simp) (by kernel_rfl) (by kernel_rfl) rfl ?_
            simp only [List.getElem_toArray, List.getElem_cons_zero, List.getElem_cons_succ, Act.put, List.setIfInBounds_toArray, List.set_cons_zero, List.set_cons_succ]
            obtain ⟨d0, d1, d2⟩ := hZq3.three
            have e0 := hZq3.frozen 0
            have e1 := hZq3.frozen 1
            have e2 := hZq3.frozen 2
            have lz := hZq3.lt
            go_wp2_with fail
            refine bodyPost_ret (v := .tuple #[.agg #[.int .i64 5, .int .i64 0, .slice A7 2 c7], .int .i64 (cdB b)]) (by simp [results, Try.results74, go_sem, d0, d1, d2]) rfl ⟨5, 0, A7, 2, c7, rfl, kwq3⟩
    ·have hC3 := hide (fun (A2 : Option Addr) (c2 : Nat) (w : World) (hrc : Rd w C 0 ctx) (hrt : Rd w An 0 sn) (hr2 : Rd w A2 0 []) => sCheck_any ih ctx C cc kn nn sn An cn 6 0 [] A2 c2 _ w h4 hvn hvc (by omega) hrc hrt (by simp [sizes]) hr2)
     injection hs with hs
     subst hs
     clear h1 h2 h3 h4 hvp hvz hvs hvn hvc ih
     go_enter Try.func74, Try.ntmps74
     go_upto_region 5 with (first
      | (go_at_call 88; have _t := tok; refine (hF.out _ (hrc.below kw2) (rp.below kw2) Rd.nil).mono ?_; rintro e w3 ⟨he, hb3⟩; obtain rfl : e = .returned (.int .i64 0) := he; have hTw3 := hT2.keep hb3; have hZw3 := hZ2.keep hb3; have hPw3 := hP2.keep hb3; have hNw3 := hN2.keep hb3; have kww3 := kw2.trans (hb3.mono kw2.size); clear y0 y1 y2)
      | (go_at_call 28; refine (sLeaf_any _ _ _).mono ?_; rintro e w1 ⟨rfl, hb1⟩; have hT1 : Blk w1 w.heap.size #[.int .i64 k, .int .i64 n, .slice (some ⟨bk, ok, none⟩) 4 c] := (((Blk.new_ w 25 #[.int .i64 k, .int .i64 n, .slice (some ⟨bk, ok, none⟩) 4 c] rfl).alloc _).alloc _).keep hb1; have hZ1 : Blk w1 (w.heap.size + 1) #[.int .i64 0, .int .i64 0, .slice none 0 0] := ((Blk.new_ _ 25 #[.int .i64 0, .int .i64 0, .slice none 0 0] (by simp)).alloc _).keep hb1; have hP1 : Blk w1 (w.heap.size + 1 + 1) #[.int .i64 k9, .int .i64 np, .slice Ap sp.length cp] := (Blk.new_ _ 25 #[.int .i64 k9, .int .i64 np, .slice Ap sp.length cp] (by simp)).keep hb1; have kw1 : Below w.heap.size w w1 := ((((Below.refl _ _).alloc (by simp <;> omega) _).alloc (by simp <;> omega) _).alloc (by simp <;> omega) _).trans (hb1.mono (by simp <;> omega)); have hT2 := hT1.alloc (.cells #[.int .i64 6, .int .i64 0, .slice none 0 0] 25); have hZ2 := hZ1.alloc (.cells #[.int .i64 6, .int .i64 0, .slice none 0 0] 25); have hP2 := hP1.alloc (.cells #[.int .i64 6, .int .i64 0, .slice none 0 0] 25); have kw2 := kw1.alloc kw1.size (.cells #[.int .i64 6, .int .i64 0, .slice none 0 0] 25); have hN2 := Blk.new_ w1 25 #[.int .i64 6, .int .i64 0, .slice none 0 0] rfl; obtain ⟨y0, y1, y2⟩ := hP2.three; have tok := trivial))
     refine name_world ?_
     intro wx hwwx
     have hTwx : Blk wx w.heap.size #[.int .i64 k, .int .i64 n, .slice (some ⟨bk, ok, none⟩) 4 c] := by rw [hwwx]; exact hTw3
     have hZwx : Blk wx (w.heap.size + 1) #[.int .i64 0, .int .i64 0, .slice none 0 0] := by rw [hwwx]; exact hZw3
     have hPwx : Blk wx (w.heap.size + 1 + 1) #[.int .i64 k9, .int .i64 np, .slice Ap sp.length cp] := by rw [hwwx]; exact hPw3
     have hNwx : Blk wx w1.heap.size #[.int .i64 6, .int .i64 0, .slice none 0 0] := by rw [hwwx]; exact hNw3
     have kwwx : Below w.heap.size w wx := by rw [hwwx]; exact kww3
     clear hwwx
     have v2 := rule_of hTwx.three.2.2
     have y0 := rule_of hPwx.three.1
     have y1 := rule_of hPwx.three.2.1
     have y2 := rule_of hPwx.three.2.2
     have uz1 := rule_of (Keeps.of_below kwwx _ _ z1)
     have uz2 := rule_of (Keeps.of_below kwwx _ _ z2)
     have uz3 := rule_of (Keeps.of_below kwwx _ _ z3)
     obtain ⟨q0, hq0⟩ : ∃ q0, q0 = wx.drew := ⟨_, rfl⟩
     have bq0 : Below wx.heap.size wx q0 := by rw [hq0]; exact (Below.refl _ _).drew
     refine gC_start (fun w' => Below wx.heap.size wx w') [10] 11 (by kernel_rfl) rfl ?_
     refine gC_take [0, 1, 2, 3, 4, 5] (f := 5) (l' := #[true, true, true, true, true, true, false, false, false, false, false]) (lT := [_, _, _, _, _, _]) (by rw [← hq0]; exact bq0) rfl (by kernel_rfl) (by kernel_rfl) (by kernel_rfl) rfl (fun _ _ d _ _ h => by cases d <;> exact h) ?_
     repeat ((first | ((refine takeY_skip (a' := ?_) ?_ ?_ ?_); (rotate_left); (· (simp [Region.wanted, yielded, Go.undef]; done))) | ((refine takeY_step (v := ?_) (a' := ?_) ?_ ?_ ?_ ?_); (rotate_left 2); (· (simp [Region.wanted, yielded, Go.undef]; done)); (· (intro w' hS'; go_simp; try (with_reducible rfl))))); (· (simp only [List.getElem_toArray, List.getElem_cons_zero, List.getElem_cons_succ, Act.put, List.setIfInBounds_toArray, List.set_cons_zero, List.set_cons_succ]; exact rfl)))
     refine takeY_nil ?_
     rw [← hq0]
     clear hq0
     refine gC_one (i := 6) (by kernel_rfl) rfl ?_
     ·go_wp2_with (go_at_call 28; refine (sLeaf_any _ _ _).mono ?_; rintro e q1 ⟨rfl, hbq1⟩)
      have bq1 : Below wx.heap.size wx q1 := bq0.trans (hbq1.mono bq0.size)
      have lq1 := hbq1.size
      refine mid_intro bq1 ?_
      refine gC_one (i := 7) (by kernel_rfl) rfl ?_
      ·go_wp2_with fail
       refine name_midw ?_
       intro q2 hn
       have hbq2 : Below q1.heap.size q1 q2 := by rw [hn]; exact (Below.refl _ _).alloc (Nat.le_refl _) _
       have zq2 : Blk q2 q1.heap.size #[.int .i64 k9, .int .i64 np, .slice Ap sp.length cp, .int .i64 7, .int .i64 0, .slice none 0 0] := by rw [hn]; exact Blk.new_ _ 25 _ rfl
       have seq2 : q1.heap.size < q2.heap.size := by rw [hn]; simp
       clear hn
       have bq2 : Below wx.heap.size wx q2 := bq1.trans (hbq2.mono bq1.size)
       have lq2 := hbq2.size
       refine mid_intro bq2 ?_
       refine gC_one (i := 8) (by kernel_rfl) rfl ?_
       ·go_wp2_with (go_at_call 46; refine (sNodeT_any 5 (rdx_consT hlp ((rp.below kwwx).below bq2).rdp (rdx_consT (ks := []) (by simp) (Rd.nil (w := q2)).rdp rdx_nilT)) 2 rfl (by omega) _ _ zq2).mono ?_; rintro e q3 ⟨A6, c6, rfl, r6, hbq3⟩)
        have bq3 : Below wx.heap.size wx q3 := bq2.trans (hbq3.mono bq2.size)
        have lq3 := hbq3.size
        refine mid_intro bq3 ?_
        refine gC_one (i := 9) (by kernel_rfl) rfl ?_
        ·go_wp2_with (go_at_call 86; refine (hC1.out _ _ _ ((hrc.below kwwx).below bq3) ((rz.below kwwx).below bq3) r6).mono ?_; rintro e q4 ⟨he, hbq4⟩; obtain rfl : e = .returned (.int .i64 0) := he)
         have bq4 : Below wx.heap.size wx q4 := bq3.trans (hbq4.mono bq3.size)
         have lq4 := hbq4.size
         refine mid_intro bq4 ?_
         refine gC_end [10] (lB := [_]) (by simp) (by kernel_rfl) (by kernel_rfl) rfl ?_
         simp only [List.getElem_toArray, List.getElem_cons_zero, List.getElem_cons_succ, Act.put, List.setIfInBounds_toArray, List.set_cons_zero, List.set_cons_succ]
         have hTq4 := hTwx.keep bq4
         have hZq4 := hZwx.keep bq4
         have hPq4 := hPwx.keep bq4
         have hNq4 := hNwx.keep bq4
         have kwq4 := kwwx.trans (bq4.mono kwwx.size)
         have kwxq4 := bq4
         go_upto_region 7 with fail
         refine name_world ?_
         intro wu hwwu
         have hTwu : Blk wu w.heap.size #[.int .i64 k, .int .i64 n, .slice (some ⟨bk, ok, none⟩) 4 c] := by rw [hwwu]; exact hTq4
         have hZwu : Blk wu (w.heap.size + 1) #[.int .i64 0, .int .i64 0, .slice none 0 0] := by rw [hwwu]; exact hZq4
         have hPwu : Blk wu (w.heap.size + 1 + 1) #[.int .i64 k9, .int .i64 np, .slice Ap sp.length cp] := by rw [hwwu]; exact hPq4
         have hNwu : Blk wu w1.heap.size #[.int .i64 6, .int .i64 0, .slice none 0 0] := by rw [hwwu]; exact hNq4
         have kwwu : Below w.heap.size w wu := by rw [hwwu]; exact kwq4
         have kwxwu : Below wx.heap.size wx wu := by rw [hwwu]; exact kwxq4
         clear hwwu
         clear v2 y0 y1 y2 uz1 uz2 uz3
         have v2 := rule_of hTwu.three.2.2
         have y0 := rule_of hPwu.three.1
         have y1 := rule_of hPwu.three.2.1
         have y2 := rule_of hPwu.three.2.2
         have us1 := rule_of (Keeps.of_below kwwu _ _ s1)
         have us2 := rule_of (Keeps.of_below kwwu _ _ s2)
         have us3 := rule_of (Keeps.of_below kwwu _ _ s3)
         obtain ⟨q0, hq0⟩ : ∃ q0, q0 = wu.drew := ⟨_, rfl⟩
         have bq0 : Below wu.heap.size wu q0 := by rw [hq0]; exact (Below.refl _ _).drew
         refine gC_start (fun w' => Below wu.heap.size wu w') [8] 9 (by kernel_rfl) rfl ?_
         refine gC_take [0, 1, 2, 3, 4, 5] (f := 3) (l' := #[true, true, true, true, true, true, false, false, false]) (lT := [_, _, _, _, _, _]) (by rw [← hq0]; exact bq0) rfl (by kernel_rfl) (by kernel_rfl) (by kernel_rfl) rfl (fun _ _ d _ _ h => by cases d <;> exact h) ?_
         repeat ((first | ((refine takeY_skip (a' := ?_) ?_ ?_ ?_); (rotate_left); (· (simp [Region.wanted, yielded, Go.undef]; done))) | ((refine takeY_step (v := ?_) (a' := ?_) ?_ ?_ ?_ ?_); (rotate_left 2); (· (simp [Region.wanted, yielded, Go.undef]; done)); (· (intro w' hS'; go_simp; try (with_reducible rfl))))); (· (simp only [List.getElem_toArray, List.getElem_cons_zero, List.getElem_cons_succ, Act.put, List.setIfInBounds_toArray, List.set_cons_zero, List.set_cons_succ]; exact rfl)))
         refine takeY_nil ?_
         rw [← hq0]
         clear hq0
         refine gC_one (i := 6) (by kernel_rfl) rfl ?_
         ·go_wp2_with (go_at_call 89; refine (hT9.out _ ((rp.below kwwu).below bq0)).mono ?_; rintro e q1 ⟨A8, c8, rfl, hl8, r8, hbq1⟩)
          have bq1 : Below wu.heap.size wu q1 := bq0.trans (hbq1.mono bq0.size)
          have lq1 := hbq1.size
          refine mid_intro bq1 ?_
          refine gC_one (i := 7) (by kernel_rfl) rfl ?_
          ·go_wp2_with (go_at_call 86; refine (hC2.out _ _ _ ((hrc.below kwwu).below bq1) ((rs.below kwwu).below bq1) r8).mono ?_; rintro e q2 ⟨he, hbq2⟩; obtain rfl : e = .returned (.int .i64 0) := he)
           have bq2 : Below wu.heap.size wu q2 := bq1.trans (hbq2.mono bq1.size)
           have lq2 := hbq2.size
           refine mid_intro bq2 ?_
           refine gC_end [8] (lB := [_]) (by simp) (by kernel_rfl) (by kernel_rfl) rfl ?_
           simp only [List.getElem_toArray, List.getElem_cons_zero, List.getElem_cons_succ, Act.put, List.setIfInBounds_toArray, List.set_cons_zero, List.set_cons_succ]
           have hTq2 := hTwu.keep bq2
           have hZq2 := hZwu.keep bq2
           have hPq2 := hPwu.keep bq2
           have hNq2 := hNwu.keep bq2
           have kwq2 := kwwu.trans (bq2.mono kwwu.size)
           have kwxq2 := kwxwu.trans (bq2.mono kwxwu.size)
           have kwuq2 := bq2
           go_upto_region 9 with fail
           refine name_world ?_
           intro wv hwwv
           have hTwv : Blk wv w.heap.size #[.int .i64 k, .int .i64 n, .slice (some ⟨bk, ok, none⟩) 4 c] := by rw [hwwv]; exact hTq2
           have hZwv : Blk wv (w.heap.size + 1) #[.int .i64 0, .int .i64 0, .slice none 0 0] := by rw [hwwv]; exact hZq2
           have hPwv : Blk wv (w.heap.size + 1 + 1) #[.int .i64 k9, .int .i64 np, .slice Ap sp.length cp] := by rw [hwwv]; exact hPq2
           have hNwv : Blk wv w1.heap.size #[.int .i64 6, .int .i64 0, .slice none 0 0] := by rw [hwwv]; exact hNq2
           have kwwv : Below w.heap.size w wv := by rw [hwwv]; exact kwq2
           have kwxwv : Below wx.heap.size wx wv := by rw [hwwv]; exact kwxq2
           have kwuwv : Below wu.heap.size wu wv := by rw [hwwv]; exact kwuq2
           clear hwwv
           clear v2 y0 y1 y2 us1 us2 us3
           have v2 := rule_of hTwv.three.2.2
           have y0 := rule_of hNwv.three.1
           have y1 := rule_of hNwv.three.2.1
           have y2 := rule_of hNwv.three.2.2
           have un1 := rule_of (Keeps.of_below kwwv _ _ n1)
           have un2 := rule_of (Keeps.of_below kwwv _ _ n2)
           have un3 := rule_of (Keeps.of_below kwwv _ _ n3)
           obtain ⟨q0, hq0⟩ : ∃ q0, q0 = wv.drew := ⟨_, rfl⟩
           have bq0 : Below wv.heap.size wv q0 := by rw [hq0]; exact (Below.refl _ _).drew
           refine gC_start (fun w' => Below wv.heap.size wv w') [7] 8 (by kernel_rfl) rfl ?_
           refine gC_take [0, 1, 2, 3, 4, 5] (f := 2) (l' := #[true, true, true, true, true, true, false, false]) (lT := [_, _, _, _, _, _]) (by rw [← hq0]; exact bq0) rfl (by kernel_rfl) (by kernel_rfl) (by kernel_rfl) rfl (fun _ _ d _ _ h => by cases d <;> exact h) ?_
           repeat ((first | ((refine takeY_skip (a' := ?_) ?_ ?_ ?_); (rotate_left); (· (simp [Region.wanted, yielded, Go.undef]; done))) | ((refine takeY_step (v := ?_) (a' := ?_) ?_ ?_ ?_ ?_); (rotate_left 2); (· (simp [Region.wanted, yielded, Go.undef]; done)); (· (intro w' hS'; go_simp; try (with_reducible rfl))))); (· (simp only [List.getElem_toArray, List.getElem_cons_zero, List.getElem_cons_succ, Act.put, List.setIfInBounds_toArray, List.set_cons_zero, List.set_cons_succ]; exact rfl)))
           refine takeY_nil ?_
           rw [← hq0]
           clear hq0
           refine gC_one (i := 6) (by kernel_rfl) rfl ?_
           ·go_wp2_with (go_at_call 86; refine (hC3.out _ _ _ ((hrc.below kwwv).below bq0) ((rn.below kwwv).below bq0) Rd.nil).mono ?_; rintro e q1 ⟨he, hbq1⟩; obtain rfl : e = .returned (.int .i64 0) := he)
            have bq1 : Below wv.heap.size wv q1 := bq0.trans (hbq1.mono bq0.size)
            have lq1 := hbq1.size
            refine mid_intro bq1 ?_
            refine gC_end [7] (lB := [_]) (by simp) (by kernel_rfl) (by kernel_rfl) rfl ?_
            simp only [List.getElem_toArray, List.getElem_cons_zero, List.getElem_cons_succ, Act.put, List.setIfInBounds_toArray, List.set_cons_zero, List.set_cons_succ]
            have hTq1 := hTwv.keep bq1
            have hZq1 := hZwv.keep bq1
            have hPq1 := hPwv.keep bq1
            have hNq1 := hNwv.keep bq1
            have kwq1 := kwwv.trans (bq1.mono kwwv.size)
            have kwxq1 := kwxwv.trans (bq1.mono kwxwv.size)
            have kwuq1 := kwuwv.trans (bq1.mono kwuwv.size)
            have kwvq1 := bq1
            go_upto_region 10 with fail
            refine name_world ?_
            intro wl hwwl
            have hTwl : Blk wl w.heap.size #[.int .i64 k, .int .i64 n, .slice (some ⟨bk, ok, none⟩) 4 c] := by rw [hwwl]; exact hTq1
            have hZwl : Blk wl (w.heap.size + 1) #[.int .i64 0, .int .i64 0, .slice none 0 0] := by rw [hwwl]; exact hZq1
            have hPwl : Blk wl (w.heap.size + 1 + 1) #[.int .i64 k9, .int .i64 np, .slice Ap sp.length cp] := by rw [hwwl]; exact hPq1
            have hNwl : Blk wl w1.heap.size #[.int .i64 6, .int .i64 0, .slice none 0 0] := by rw [hwwl]; exact hNq1
            have kwwl : Below w.heap.size w wl := by rw [hwwl]; exact kwq1
            have kwxwl : Below wx.heap.size wx wl := by rw [hwwl]; exact kwxq1
            have kwuwl : Below wu.heap.size wu wl := by rw [hwwl]; exact kwuq1
            have kwvwl : Below wv.heap.size wv wl := by rw [hwwl]; exact kwvq1
            clear hwwl
            have lPz := hPwl.lt
            have lZz := hZwl.lt
            have nz0 : bk ≠ (w.heap.size + 1) := by omega
            have nz1 : w.heap.size ≠ (w.heap.size + 1) := by omega
            have nz2 : (w.heap.size + 1 + 1) ≠ (w.heap.size + 1) := by omega
            have lv := rule_ke (z := (w.heap.size + 1)) hTwl.three.2.2 nz1
            have lp0 := rule_ke (z := (w.heap.size + 1)) hPwl.three.1 nz2
            have lp1 := rule_ke (z := (w.heap.size + 1)) hPwl.three.2.1 nz2
            have lp2 := rule_ke (z := (w.heap.size + 1)) hPwl.three.2.2 nz2
            have ln1 := rule_ke (z := (w.heap.size + 1)) (Keeps.of_below kwwl _ _ n1) nz0
            have ln2 := rule_ke (z := (w.heap.size + 1)) (Keeps.of_below kwwl _ _ n2) nz0
            have ln3 := rule_ke (z := (w.heap.size + 1)) (Keeps.of_below kwwl _ _ n3) nz0
            obtain ⟨q0, hq0⟩ : ∃ q0, q0 = wl.drew := ⟨_, rfl⟩
            have bq0 : Below wl.heap.size wl q0 := by rw [hq0]; exact (Below.refl _ _).drew
            have keq0 := KE.of (w.heap.size + 1) bq0
            refine gC_start (KE wl (w.heap.size + 1)) [9] 10 (by kernel_rfl) rfl ?_
            refine gC_take [0, 1, 2, 3, 4, 7] (f := 4) (l' := #[true, true, true, true, true, false, false, true, false, false]) (lT := [_, _, _, _, _, _]) (by rw [← hq0]; exact keq0) rfl (by kernel_rfl) (by kernel_rfl) (by kernel_rfl) rfl (fun _ _ d _ _ h => by cases d <;> exact h) ?_
            repeat ((first | ((refine takeY_skip (a' := ?_) ?_ ?_ ?_); (rotate_left); (· (simp [Region.wanted, yielded, Go.undef]; done))) | ((refine takeY_step (v := ?_) (a' := ?_) ?_ ?_ ?_ ?_); (rotate_left 2); (· (simp [Region.wanted, yielded, Go.undef]; done)); (· (intro w' hS'; go_simp; try (with_reducible rfl))))); (· (simp only [List.getElem_toArray, List.getElem_cons_zero, List.getElem_cons_succ, Act.put, List.setIfInBounds_toArray, List.set_cons_zero, List.set_cons_succ]; exact rfl)))
            refine takeY_nil ?_
            rw [← hq0]
            clear hq0
            refine gC_one (i := 5) (by kernel_rfl) rfl ?_
            go_wp2_with fail
            refine name_midw ?_
            intro q1 hn
            have hbq1 : Below q0.heap.size q0 q1 := by rw [hn]; exact (Below.refl _ _).alloc (Nat.le_refl _) _
            have zq1 : Blk q1 q0.heap.size #[.int .i64 k9, .int .i64 np, .slice Ap sp.length cp, .int .i64 kn, .int .i64 nn, .slice An sn.length cn] := by rw [hn]; exact Blk.new_ _ 25 _ rfl
            have seq1 : q0.heap.size < q1.heap.size := by rw [hn]; simp
            clear hn
            have bq1 : Below wl.heap.size wl q1 := bq0.trans (hbq1.mono bq0.size)
            have lq1 := hbq1.size
            have keq1 := KE.of (w.heap.size + 1) bq1
            refine mid_intro keq1 ?_
            refine gC_one (i := 6) (by kernel_rfl) rfl ?_
            go_wp2_with (go_at_call 46; refine (sNodeT_any 5 (rdx_consT hlp ((rp.below kwwl).below bq1).rdp (rdx_consT hln ((rn.below kwwl).below bq1).rdp rdx_nilT)) 2 rfl (by omega) _ _ zq1).mono ?_; rintro e q2 ⟨A7, c7, rfl, r7, hbq2⟩)
            have bq2 : Below wl.heap.size wl q2 := bq1.trans (hbq2.mono bq1.size)
            have lq2 := hbq2.size
            have keq2 := KE.of (w.heap.size + 1) bq2
            refine mid_intro keq2 ?_
            refine gC_one (i := 8) (by kernel_rfl) rfl ?_
            have hZz := hZwl.keep bq2
            obtain ⟨d0, d1, d2⟩ := hZz.three
            have e0 := hZz.frozen 0
            have e1 := hZz.frozen 1
            have e2 := hZz.frozen 2
            have lz := hZz.lt
            go_wp2_with fail
            refine name_midw ?_
            intro q3 hn
            have hZq3 : Blk q3 (w.heap.size + 1) #[.int .i64 5, .int .i64 0, .slice A7 2 c7] := by rw [hn]; exact ((hZz.set_ 0 _).set_ 1 _).set_ 2 _
            have rq3 : Rd q3 A7 0 [.mk k9 np sp, .mk kn nn sn] := by rw [hn]; exact rd_set0L hZz hvl.out r7 _ _ _
            have kwq3 : Below w.heap.size w q3 := by rw [hn]; exact (((kwwl.trans (bq2.mono kwwl.size)).setCell (by simp <;> omega) _).setCell (by simp <;> omega) _).setCell (by simp <;> omega) _
            have keq3 : KE wl (w.heap.size + 1) q3 := by rw [hn]; exact ((keq2.set _ _).set _ _).set _ _
            clear hn d0 d1 d2 e0 e1 e2 lz
            refine mid_intro keq3 ?_
            refine gC_end [9] (lB := [_]) (by simp) (by kernel_rfl) (by kernel_rfl) rfl ?_
            simp only [List.getElem_toArray, List.getElem_cons_zero, List.getElem_cons_succ, Act.put, List.setIfInBounds_toArray, List.set_cons_zero, List.set_cons_succ]
            obtain ⟨d0, d1, d2⟩ := hZq3.three
            have e0 := hZq3.frozen 0
            have e1 := hZq3.frozen 1
            have e2 := hZq3.frozen 2
            have lz := hZq3.lt
            go_wp2_with fail
            refine bodyPost_ret (v := .tuple #[.agg #[.int .i64 5, .int .i64 0, .slice A7 2 c7], .int .i64 0]) (by simp [results, Try.results74, go_sem, d0, d1, d2]) rfl ⟨A7, c7, rfl, by simp, rq3, kwq3⟩
end Go.Proofs.Ytddkehjdjfmhmaa
