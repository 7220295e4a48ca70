/-
 Contracts of the functions that the law reaches, and plain lemmas. No condition.
-/
import Derived.Test.YtddkehjdjfmhmaaK29
namespace Go.Proofs.Ytddkehjdjfmhmaa
set_option linter.unusedSimpArgs false
set_option linter.unusedVariables false
open Go.RowKit
set_option maxRecDepth 100000 in
set_option maxHeartbeats 8000000 in
theorem sSimpleC_any {N : Nat} (ctx : List Tm) (C : Option Addr) (cc : Nat) (n : Int) (A : Option Addr) (c : Nat) (k : Int) (ks : List Tm) (r : Rs Tm) (w : World) (hn : 0 ≤ n ∧ n ≤ 20) (hk : k = 2 ∨ k = 6 ∨ k = 7) (hs : kndR (infR N) ctx (.mk k n ks) = some r) :
  Calls Try.prog 78 #[.slice C ctx.length cc, .agg #[.int .i64 k, .int .i64 n, .slice A ks.length c]] w (GtT w r) := by
 have kz : IntKind.i64.wrap (n + 1) = n + 1 := IntWalk.i64_in _ (by omega)
 have kz2 : wrap64 (n + 1) = n + 1 := IntWalk.wrap64_in _ (by omega)
 rcases hk with rfl | rfl | rfl
 ·simp only [kndR, Int.reduceEq, if_false, if_true, or_self, false_or, or_false] at hs
  by_cases h3 : 3 ≤ n
  ·rw [if_pos h3] at hs
   injection hs with hs
   subst hs
   have q3 : decide (3 ≤ n) = true := decide_eq_true h3
   go_enter Try.func78, Try.ntmps78
   go_wp2_with fail
   have gB : Below w.heap.size w ((w.alloc (.cells #[.int .i64 2, .int .i64 n, .slice A ks.length c] 25)).alloc (.cells #[.int .i64 0, .int .i64 0, .slice none 0 0] 25)) := (((Below.refl _ _).alloc (by simp <;> omega) _).alloc (by simp <;> omega) _)
   refine bodyPost_ret (v := .tuple #[.agg #[.int .i64 0, .int .i64 0, .slice none 0 0], .int .i64 1]) (by simp [results, Try.results78, go_sem]) rfl ⟨0, 0, none, 0, 0, rfl, ?_⟩
   first
    | exact gB
    | exact ((gB.setCell (by simp <;> omega) _).setCell (by simp <;> omega) _).setCell (by simp <;> omega) _
  ·rw [if_neg h3] at hs
   injection hs with hs
   subst hs
   have q3 : decide (3 ≤ n) = false := decide_eq_false h3
   go_enter Try.func78, Try.ntmps78
   go_wp2_with (go_at_call 28; refine (sLeaf_any _ _ _).mono ?_; rintro e w1 ⟨rfl, hb1⟩; have hZ1 : Blk w1 (w.heap.size + 1) #[.int .i64 0, .int .i64 0, .slice none 0 0] := (Blk.new_ _ 25 #[.int .i64 0, .int .i64 0, .slice none 0 0] (by simp)).keep hb1; have g1 : Below w.heap.size w w1 := (((Below.refl _ _).alloc (by simp <;> omega) _).alloc (by simp <;> omega) _).trans (hb1.mono (by simp <;> omega)); obtain ⟨d0, d1, d2⟩ := hZ1.three; have e0 := hZ1.frozen 0; have e1 := hZ1.frozen 1; have e2 := hZ1.frozen 2; have lz := hZ1.lt)
   refine bodyPost_ret (v := .tuple #[.agg #[.int .i64 2, .int .i64 (n + 1), .slice none 0 0], .int .i64 0]) (by simp [results, Try.results78, go_sem, d0, d1, d2]) rfl ⟨none, 0, rfl, by simp, Rd.nil, ?_⟩
   exact ((g1.setCell (by simp <;> omega) _).setCell (by simp <;> omega) _).setCell (by simp <;> omega) _
 ·simp only [kndR, Int.reduceEq, if_false, if_true, or_self, false_or, or_false] at hs
  injection hs with hs
  subst hs
  go_enter Try.func78, Try.ntmps78
  go_wp2_with (go_at_call 28; refine (sLeaf_any _ _ _).mono ?_; rintro e w1 ⟨rfl, hb1⟩; have hZ1 : Blk w1 (w.heap.size + 1) #[.int .i64 0, .int .i64 0, .slice none 0 0] := (Blk.new_ _ 25 #[.int .i64 0, .int .i64 0, .slice none 0 0] (by simp)).keep hb1; have g1 : Below w.heap.size w w1 := (((Below.refl _ _).alloc (by simp <;> omega) _).alloc (by simp <;> omega) _).trans (hb1.mono (by simp <;> omega)); obtain ⟨d0, d1, d2⟩ := hZ1.three; have e0 := hZ1.frozen 0; have e1 := hZ1.frozen 1; have e2 := hZ1.frozen 2; have lz := hZ1.lt)
  refine bodyPost_ret (v := .tuple #[.agg #[.int .i64 2, .int .i64 0, .slice none 0 0], .int .i64 0]) (by simp [results, Try.results78, go_sem, d0, d1, d2]) rfl ⟨none, 0, rfl, by simp, Rd.nil, ?_⟩
  exact ((g1.setCell (by simp <;> omega) _).setCell (by simp <;> omega) _).setCell (by simp <;> omega) _
 ·simp only [kndR, Int.reduceEq, if_false, if_true, or_self, false_or, or_false] at hs
  injection hs with hs
  subst hs
  go_enter Try.func78, Try.ntmps78
  go_wp2_with (go_at_call 28; refine (sLeaf_any _ _ _).mono ?_; rintro e w1 ⟨rfl, hb1⟩; have hZ1 : Blk w1 (w.heap.size + 1) #[.int .i64 0, .int .i64 0, .slice none 0 0] := (Blk.new_ _ 25 #[.int .i64 0, .int .i64 0, .slice none 0 0] (by simp)).keep hb1; have g1 : Below w.heap.size w w1 := (((Below.refl _ _).alloc (by simp <;> omega) _).alloc (by simp <;> omega) _).trans (hb1.mono (by simp <;> omega)); obtain ⟨d0, d1, d2⟩ := hZ1.three; have e0 := hZ1.frozen 0; have e1 := hZ1.frozen 1; have e2 := hZ1.frozen 2; have lz := hZ1.lt)
  refine bodyPost_ret (v := .tuple #[.agg #[.int .i64 6, .int .i64 0, .slice none 0 0], .int .i64 0]) (by simp [results, Try.results78, go_sem, d0, d1, d2]) rfl ⟨none, 0, rfl, by simp, Rd.nil, ?_⟩
  exact ((g1.setCell (by simp <;> omega) _).setCell (by simp <;> omega) _).setCell (by simp <;> omega) _
set_option maxRecDepth 100000 in
set_option maxHeartbeats 8000000 in
theorem sSimpleV_any (ctx : List Tm) (C : Option Addr) (cc : Nat) (n : Int) (A : Option Addr) (c : Nat) (ks : List Tm) (r : Rs Tm) (w : World) (hn : 0 ≤ n ∧ n ≤ 20) (hvc : ∀ u, u ∈ ctx → validT u = true) (hm : ctx.length ≤ 20) (hs : varR ctx n = some r) (hrc : Rd w C 0 ctx) :
  Calls Try.prog 78 #[.slice C ctx.length cc, .agg #[.int .i64 1, .int .i64 n, .slice A ks.length c]] w (GtT w r) := by
 unfold varR at hs
 by_cases hx : (ctx.length : Int) ≤ n
 ·rw [if_pos hx] at hs
  injection hs with hs
  subst hs
  have q : decide ((ctx.length : Int) ≤ n) = true := decide_eq_true hx
  go_enter Try.func78, Try.ntmps78
  go_wp2_with fail
  have gB : Below w.heap.size w ((w.alloc (.cells #[.int .i64 1, .int .i64 n, .slice A ks.length c] 25)).alloc (.cells #[.int .i64 0, .int .i64 0, .slice none 0 0] 25)) := (((Below.refl _ _).alloc (by simp <;> omega) _).alloc (by simp <;> omega) _)
  refine bodyPost_ret (v := .tuple #[.agg #[.int .i64 0, .int .i64 0, .slice none 0 0], .int .i64 1]) (by simp [results, Try.results78, go_sem]) rfl ⟨0, 0, none, 0, 0, rfl, ?_⟩
  first
   | exact gB
   | exact ((gB.setCell (by simp <;> omega) _).setCell (by simp <;> omega) _).setCell (by simp <;> omega) _
 ·rw [if_neg hx] at hs
  injection hs with hs
  have q : decide ((ctx.length : Int) ≤ n) = false := decide_eq_false hx
  obtain ⟨m, rfl⟩ : ∃ m : Nat, n = (m : Int) := ⟨n.toNat, by omega⟩
  rw [Int.toNat_natCast] at hs
  obtain ⟨j, hj⟩ : ∃ j, ctx.length - 1 - m = j := ⟨_, rfl⟩
  have hjl : j < ctx.length := by omega
  rw [hj] at hs
  obtain ⟨bx, ox, kx, nx, sx, Ax, cx, rfl, hkj, x1, x2, x3, hlx, rx⟩ := hrc.at_ hjl
  have hvx : validT (.mk kx nx sx) = true := by rw [← hkj]; exact hvc _ (List.getElem_mem hjl)
  rw [show ctx.getD j default = .mk kx nx sx by rw [← hkj]; simp [List.getD, List.getElem?_eq_getElem hjl]] at hs
  have hszx := validT_size' hvx
  obtain ⟨k5, n5, s5, h5⟩ := tm_eta (shS ((m : Int) + 1) 0 (.mk kx nx sx))
  rw [h5] at hs
  subst hs
  have hS := hide (show ∀ (w : World) (hr : Rd w Ax 0 sx), Calls Try.prog 90 #[.agg #[.int .i64 kx, .int .i64 nx, .slice Ax sx.length cx], .int .i64 ((m : Int) + 1), .int .i64 0] w (GotT w k5 n5 s5) from fun w hr => by
   have := sShift_any _ kx nx sx Ax cx ((m : Int) + 1) 0 30 w (Nat.lt_succ_self _) (by omega) (validT_shape30 hvx) (by omega) (by omega) (by omega) hr
   rw [shS] at h5
   injection h5 with e1 e2 e3
   subst e1
   rw [e2, e3] at this
   exact this)
  have k1 : IntKind.i64.wrap ((ctx.length : Int) - 1) = (ctx.length : Int) - 1 := IntWalk.i64_in _ (by omega)
  have k2 : IntKind.i64.wrap ((ctx.length : Int) - 1 - (m : Int)) = (j : Int) := by rw [IntWalk.i64_in _ (by omega)]; omega
  have k3 : IntKind.i64.wrap ((m : Int) + 1) = (m : Int) + 1 := IntWalk.i64_in _ (by omega)
  have k4 : wrap64 ((ctx.length : Int) - 1) = (ctx.length : Int) - 1 := IntWalk.wrap64_in _ (by omega)
  have k5' : wrap64 ((ctx.length : Int) - 1 - (m : Int)) = (j : Int) := by rw [IntWalk.wrap64_in _ (by omega)]; omega
  have k6 : wrap64 ((m : Int) + 1) = (m : Int) + 1 := IntWalk.wrap64_in _ (by omega)
  have q2 : decide (ctx.length ≤ m) = false := decide_eq_false (fun h => hx (Int.ofNat_le.2 h))
  have hjc : (j : Int) < (ctx.length : Int) := by omega
  clear hj h5 hkj hvc hvx hx
  go_enter Try.func78, Try.ntmps78
  go_upto_region 5 with fail
  refine name_world ?_
  intro wx hwx
  have hTwx : Blk wx w.heap.size #[.int .i64 1, .int .i64 (m : Int), .slice A ks.length c] := by rw [hwx]; exact (Blk.new_ w 25 _ rfl).alloc _
  have hZwx : Blk wx (w.heap.size + 1) #[.int .i64 0, .int .i64 0, .slice none 0 0] := by rw [hwx]; exact Blk.new_ _ 25 _ (by simp)
  have kwwx : Below w.heap.size w wx := by rw [hwx]; exact (((Below.refl _ _).alloc (by simp <;> omega) _).alloc (by simp <;> omega) _)
  clear hwx
  have v1 := rule_of hTwx.three.2.1
  have ux1 := rule_of (Keeps.of_below kwwx _ _ x1)
  have ux2 := rule_of (Keeps.of_below kwwx _ _ x2)
  have ux3 := rule_of (Keeps.of_below kwwx _ _ x3)
  obtain ⟨q0, hq0⟩ : ∃ q0, q0 = wx.drew := ⟨_, rfl⟩
  have bq0 : Below wx.heap.size wx q0 := by rw [hq0]; exact (Below.refl _ _).drew
  refine gC_start (fun w' => Below wx.heap.size wx w') [13, 14] 15 (by kernel_rfl) rfl ?_
  refine gC_take [0, 1, 4, 5, 9, 10, 11] (f := 8) (l' := #[true, true, false, false, true, true, false, false, false, true, true, true, false, false, false]) (lT := [_, _, _, _, _, _, _]) (by rw [← hq0]; exact bq0) rfl (by kernel_rfl) (by kernel_rfl) (by kernel_rfl) rfl (fun _ _ d _ _ h => by cases d <;> exact h) ?_
  repeat ((first | ((refine takeY_skip (a' := ?_) ?_ ?_ ?_); (rotate_left); (· (simp [Region.wanted, yielded, Go.undef]; done))) | ((refine takeY_step (v := ?_) (a' := ?_) ?_ ?_ ?_ ?_); (rotate_left 2); (· (simp [Region.wanted, yielded, Go.undef]; done)); (· (intro w' hS'; go_simp; try (with_reducible rfl))))); (· (simp only [List.getElem_toArray, List.getElem_cons_zero, List.getElem_cons_succ, Act.put, List.setIfInBounds_toArray, List.set_cons_zero, List.set_cons_succ]; exact rfl)))
  refine takeY_nil ?_
  rw [← hq0]
  clear hq0
  refine gC_one (i := 2) (by kernel_rfl) rfl ?_
  go_wp2_with fail
  refine mid_intro bq0 ?_
  refine gC_take [3, 6, 7, 8] (f := 3) (l' := #[true, true, true, true, true, true, true, true, true, true, true, true, false, false, false]) (lT := [_, _, _, _]) bq0 rfl (by kernel_rfl) (by kernel_rfl) (by kernel_rfl) rfl (fun _ _ d _ _ h => by cases d <;> exact h) ?_
  repeat ((first | ((refine takeY_skip (a' := ?_) ?_ ?_ ?_); (rotate_left); (· (simp [Region.wanted, yielded, Go.undef]; done))) | ((refine takeY_step (v := ?_) (a' := ?_) ?_ ?_ ?_ ?_); (rotate_left 2); (· (simp [Region.wanted, yielded, Go.undef]; done)); (· (intro w' hS'; go_simp; try (with_reducible rfl))))); (· (simp only [List.getElem_toArray, List.getElem_cons_zero, List.getElem_cons_succ, Act.put, List.setIfInBounds_toArray, List.set_cons_zero, List.set_cons_succ]; exact rfl)))
  refine takeY_nil ?_
  refine gC_one (i := 12) (by kernel_rfl) rfl ?_
  go_wp2_with (go_at_call 90; refine (hS.out _ ((rx.below kwwx).below bq0)).mono ?_; rintro e q1 ⟨A5, c5, rfl, hl5, hf5, hbq1⟩)
  have bq1 : Below wx.heap.size wx q1 := bq0.trans (hbq1.mono bq0.size)
  refine mid_intro bq1 ?_
  refine gC_end [13, 14] (lB := [_, _]) (by simp) (by kernel_rfl) (by kernel_rfl) rfl ?_
  simp only [List.getElem_toArray, List.getElem_cons_zero, List.getElem_cons_succ, Act.put, List.setIfInBounds_toArray, List.set_cons_zero, List.set_cons_succ]
  have hZ5 := hZwx.keep bq1
  have g5 := kwwx.trans (bq1.mono kwwx.size)
  obtain ⟨d0, d1, d2⟩ := hZ5.three
  have e0 := hZ5.frozen 0
  have e1 := hZ5.frozen 1
  have e2 := hZ5.frozen 2
  have lz := hZ5.lt
  have lz0 := hZwx.lt
  have s0 := bq0.size
  go_wp2_with fail
  refine bodyPost_ret (v := .tuple #[.agg #[.int .i64 k5, .int .i64 n5, .slice A5 s5.length c5], .int .i64 0]) (by simp [results, Try.results78, go_sem, d0, d1, d2]) rfl ⟨A5, c5, rfl, hl5, ?_, ?_⟩
  ·exact (((hf5.setCell (by simp; omega) _).setCell (by simp; omega) _).setCell (by simp; omega) _).rd
  ·exact ((g5.setCell (by simp <;> omega) _).setCell (by simp <;> omega) _).setCell (by simp <;> omega) _
set_option maxRecDepth 100000 in
set_option maxHeartbeats 8000000 in
theorem sSimpleS_any {N : Nat} (ih : InfC N) (ctx : List Tm) (C : Option Addr) (cc : Nat) (n : Int) (A : Option Addr) (c : Nat) (ka na : Int) (sa : List Tm) (r : Rs Tm) (w : World) (hs : sucR (infR N) ctx (.mk ka na sa) = some r) (hva : validT (.mk ka na sa) = true) (hvc : ∀ u, u ∈ ctx → validT u = true) (hm : ctx.length ≤ 20) (hrc : Rd w C 0 ctx) (hr : Rd w A 0 [.mk ka na sa]) :
  Calls Try.prog 78 #[.slice C ctx.length cc, .agg #[.int .i64 8, .int .i64 n, .slice A 1 c]] w (GtT w r) := by
 obtain ⟨bk, ok, x1, x2, x3, Aa, ca, rfl, hk1, a1, a2, a3, hla, ra⟩ := hr.at_ (j := 0) (by simp)
 injection hk1 with e1 e2 e3
 subst e1 e2 e3
 simp only [Nat.zero_mul, Nat.add_zero, Nat.one_mul, Nat.reduceMul] at a1 a2 a3
 have lbp := World.block_lt_of_cell? _ _ a1
 rcases bd_inv hs with ⟨b, h1, rfl⟩ | ⟨u1, h1, hs⟩
 ·replace h1 : chkR (infR N) ctx (.mk ka na sa) (.mk 6 0 []) = _ := h1
  have hC := hide (fun (A2 : Option Addr) (c2 : Nat) (w : World) (hrc : Rd w C 0 ctx) (hrt : Rd w Aa 0 sa) (hr2 : Rd w A2 0 []) => sCheck_any ih ctx C cc ka na sa Aa ca 6 0 [] A2 c2 _ w h1 hva hvc (by omega) hrc hrt (by simp [sizes]) hr2)
  have qb := cdB_q2 b
  clear hs h1 hva hvc ih
  go_enter Try.func78, Try.ntmps78
  go_upto_region 15 with fail
  refine name_world ?_
  intro wx hwx
  have hTwx : Blk wx w.heap.size #[.int .i64 8, .int .i64 n, .slice (some ⟨bk, ok, none⟩) 1 c] := by rw [hwx]; exact (Blk.new_ w 25 _ rfl).alloc _
  have hZwx : Blk wx (w.heap.size + 1) #[.int .i64 0, .int .i64 0, .slice none 0 0] := by rw [hwx]; exact Blk.new_ _ 25 _ (by simp)
  have kwwx : Below w.heap.size w wx := by rw [hwx]; exact (((Below.refl _ _).alloc (by simp <;> omega) _).alloc (by simp <;> omega) _)
  clear hwx
  have v2 := rule_of hTwx.three.2.2
  have ua1 := rule_of (Keeps.of_below kwwx _ _ a1)
  have ua2 := rule_of (Keeps.of_below kwwx _ _ a2)
  have ua3 := rule_of (Keeps.of_below kwwx _ _ a3)
  obtain ⟨q0, hq0⟩ : ∃ q0, q0 = wx.drew := ⟨_, rfl⟩
  have bq0 : Below wx.heap.size wx q0 := by rw [hq0]; exact (Below.refl _ _).drew
  refine gC_start (fun w' => Below wx.heap.size wx w') [8, 9] 10 (by kernel_rfl) rfl ?_
  refine gC_take [1, 2, 3, 4, 5] (f := 5) (l' := #[false, true, true, true, true, true, false, false, false, false]) (lT := [_, _, _, _, _]) (by rw [← hq0]; exact bq0) rfl (by kernel_rfl) (by kernel_rfl) (by kernel_rfl) rfl (fun _ _ d _ _ h => by cases d <;> exact h) ?_
  repeat ((first | ((refine takeY_skip (a' := ?_) ?_ ?_ ?_); (rotate_left); (· (simp [Region.wanted, yielded, Go.undef]; done))) | ((refine takeY_step (v := ?_) (a' := ?_) ?_ ?_ ?_ ?_); (rotate_left 2); (· (simp [Region.wanted, yielded, Go.undef]; done)); (· (intro w' hS'; go_simp; try (with_reducible rfl))))); (· (simp only [List.getElem_toArray, List.getElem_cons_zero, List.getElem_cons_succ, Act.put, List.setIfInBounds_toArray, List.set_cons_zero, List.set_cons_succ]; exact rfl)))
  refine takeY_nil ?_
  rw [← hq0]
  clear hq0
  refine gC_one (i := 0) (by kernel_rfl) rfl ?_
  ·go_wp2_with (go_at_call 28; refine (sLeaf_any _ _ _).mono ?_; rintro e q1 ⟨rfl, hbq1⟩)
   have bq1 : Below wx.heap.size wx q1 := bq0.trans (hbq1.mono bq0.size)
   have lq1 := hbq1.size
   refine mid_intro bq1 ?_
   refine gC_one (i := 6) (by kernel_rfl) rfl ?_
   ·go_wp2_with (go_at_call 28; refine (sLeaf_any _ _ _).mono ?_; rintro e q2 ⟨rfl, hbq2⟩)
    have bq2 : Below wx.heap.size wx q2 := bq1.trans (hbq2.mono bq1.size)
    have lq2 := hbq2.size
    refine mid_intro bq2 ?_
    refine gC_one (i := 7) (by kernel_rfl) rfl ?_
    ·go_wp2_with (go_at_call 86; refine (hC.out none 0 _ ((hrc.below kwwx).below bq2) ((ra.below kwwx).below bq2) Rd.nil).mono ?_; rintro e q3 ⟨he, hbq3⟩; obtain rfl : e = .returned (.int .i64 (cdB b)) := he)
     have bq3 : Below wx.heap.size wx q3 := bq2.trans (hbq3.mono bq2.size)
     have lq3 := hbq3.size
     refine mid_intro bq3 ?_
     refine gC_end [8, 9] (lB := [_, _]) (by simp) (by kernel_rfl) (by kernel_rfl) rfl ?_
     simp only [List.getElem_toArray, List.getElem_cons_zero, List.getElem_cons_succ, Act.put, List.setIfInBounds_toArray, List.set_cons_zero, List.set_cons_succ]
     have hTq3 := hTwx.keep bq3
     have hZq3 := hZwx.keep bq3
     have kwq3 := kwwx.trans (bq3.mono kwwx.size)
     have kwxq3 := bq3
     obtain ⟨d0, d1, d2⟩ := hZq3.three
     have e0 := hZq3.frozen 0
     have e1 := hZq3.frozen 1
     have e2 := hZq3.frozen 2
     have lz := hZq3.lt
     go_wp2_with fail
     refine bodyPost_ret (v := .tuple #[.agg #[.int .i64 6, .int .i64 0, .slice none 0 0], .int .i64 (cdB b)]) (by simp [results, Try.results78, go_sem, d0, d1, d2]) rfl ⟨6, 0, none, 0, 0, rfl, ?_⟩
     exact ((kwq3.setCell (by simp <;> omega) _).setCell (by simp <;> omega) _).setCell (by simp <;> omega) _
 ·replace h1 : chkR (infR N) ctx (.mk ka na sa) (.mk 6 0 []) = _ := h1
  have hC := hide (fun (A2 : Option Addr) (c2 : Nat) (w : World) (hrc : Rd w C 0 ctx) (hrt : Rd w Aa 0 sa) (hr2 : Rd w A2 0 []) => sCheck_any ih ctx C cc ka na sa Aa ca 6 0 [] A2 c2 _ w h1 hva hvc (by omega) hrc hrt (by simp [sizes]) hr2)
  injection hs with hs
  subst hs
  clear h1 hva hvc ih
  go_enter Try.func78, Try.ntmps78
  go_upto_region 15 with fail
  refine name_world ?_
  intro wx hwx
  have hTwx : Blk wx w.heap.size #[.int .i64 8, .int .i64 n, .slice (some ⟨bk, ok, none⟩) 1 c] := by rw [hwx]; exact (Blk.new_ w 25 _ rfl).alloc _
  have hZwx : Blk wx (w.heap.size + 1) #[.int .i64 0, .int .i64 0, .slice none 0 0] := by rw [hwx]; exact Blk.new_ _ 25 _ (by simp)
  have kwwx : Below w.heap.size w wx := by rw [hwx]; exact (((Below.refl _ _).alloc (by simp <;> omega) _).alloc (by simp <;> omega) _)
  clear hwx
  have v2 := rule_of hTwx.three.2.2
  have ua1 := rule_of (Keeps.of_below kwwx _ _ a1)
  have ua2 := rule_of (Keeps.of_below kwwx _ _ a2)
  have ua3 := rule_of (Keeps.of_below kwwx _ _ a3)
  obtain ⟨q0, hq0⟩ : ∃ q0, q0 = wx.drew := ⟨_, rfl⟩
  have bq0 : Below wx.heap.size wx q0 := by rw [hq0]; exact (Below.refl _ _).drew
  refine gC_start (fun w' => Below wx.heap.size wx w') [8, 9] 10 (by kernel_rfl) rfl ?_
  refine gC_take [1, 2, 3, 4, 5] (f := 5) (l' := #[false, true, true, true, true, true, false, false, false, false]) (lT := [_, _, _, _, _]) (by rw [← hq0]; exact bq0) rfl (by kernel_rfl) (by kernel_rfl) (by kernel_rfl) rfl (fun _ _ d _ _ h => by cases d <;> exact h) ?_
  repeat ((first | ((refine takeY_skip (a' := ?_) ?_ ?_ ?_); (rotate_left); (· (simp [Region.wanted, yielded, Go.undef]; done))) | ((refine takeY_step (v := ?_) (a' := ?_) ?_ ?_ ?_ ?_); (rotate_left 2); (· (simp [Region.wanted, yielded, Go.undef]; done)); (· (intro w' hS'; go_simp; try (with_reducible rfl))))); (· (simp only [List.getElem_toArray, List.getElem_cons_zero, List.getElem_cons_succ, Act.put, List.setIfInBounds_toArray, List.set_cons_zero, List.set_cons_succ]; exact rfl)))
  refine takeY_nil ?_
  rw [← hq0]
  clear hq0
  refine gC_one (i := 0) (by kernel_rfl) rfl ?_
  ·go_wp2_with (go_at_call 28; refine (sLeaf_any _ _ _).mono ?_; rintro e q1 ⟨rfl, hbq1⟩)
   have bq1 : Below wx.heap.size wx q1 := bq0.trans (hbq1.mono bq0.size)
   have lq1 := hbq1.size
   refine mid_intro bq1 ?_
   refine gC_one (i := 6) (by kernel_rfl) rfl ?_
   ·go_wp2_with (go_at_call 28; refine (sLeaf_any _ _ _).mono ?_; rintro e q2 ⟨rfl, hbq2⟩)
    have bq2 : Below wx.heap.size wx q2 := bq1.trans (hbq2.mono bq1.size)
    have lq2 := hbq2.size
    refine mid_intro bq2 ?_
    refine gC_one (i := 7) (by kernel_rfl) rfl ?_
    ·go_wp2_with (go_at_call 86; refine (hC.out none 0 _ ((hrc.below kwwx).below bq2) ((ra.below kwwx).below bq2) Rd.nil).mono ?_; rintro e q3 ⟨he, hbq3⟩; obtain rfl : e = .returned (.int .i64 0) := he)
     have bq3 : Below wx.heap.size wx q3 := bq2.trans (hbq3.mono bq2.size)
     have lq3 := hbq3.size
     refine mid_intro bq3 ?_
     refine gC_end [8, 9] (lB := [_, _]) (by simp) (by kernel_rfl) (by kernel_rfl) rfl ?_
     simp only [List.getElem_toArray, List.getElem_cons_zero, List.getElem_cons_succ, Act.put, List.setIfInBounds_toArray, List.set_cons_zero, List.set_cons_succ]
     have hTq3 := hTwx.keep bq3
     have hZq3 := hZwx.keep bq3
     have kwq3 := kwwx.trans (bq3.mono kwwx.size)
     have kwxq3 := bq3
     obtain ⟨d0, d1, d2⟩ := hZq3.three
     have e0 := hZq3.frozen 0
     have e1 := hZq3.frozen 1
     have e2 := hZq3.frozen 2
     have lz := hZq3.lt
     go_wp2_with fail
     refine bodyPost_ret (v := .tuple #[.agg #[.int .i64 6, .int .i64 0, .slice none 0 0], .int .i64 0]) (by simp [results, Try.results78, go_sem, d0, d1, d2]) rfl ⟨none, 0, rfl, by simp, Rd.nil, ?_⟩
     exact ((kwq3.setCell (by simp <;> omega) _).setCell (by simp <;> omega) _).setCell (by simp <;> omega) _
set_option maxRecDepth 100000 in
set_option maxHeartbeats 8000000 in
theorem sSimpleR_any {N : Nat} (ih : InfC N) (ctx : List Tm) (C : Option Addr) (cc : Nat) (n : Int) (A : Option Addr) (c : Nat) (ka na : Int) (sa : List Tm) (r : Rs Tm) (w : World) (hs : rflR (infR N) ctx (.mk ka na sa) = some r) (hva : validT (.mk ka na sa) = true) (hvc : ∀ u, u ∈ ctx → validT u = true) (hm : ctx.length ≤ 20) (hrc : Rd w C 0 ctx) (hr : Rd w A 0 [.mk ka na sa]) :
  Calls Try.prog 78 #[.slice C ctx.length cc, .agg #[.int .i64 11, .int .i64 n, .slice A 1 c]] w (GtT w r) := by
 obtain ⟨bk, ok, x1, x2, x3, Aa, ca, rfl, hk1, a1, a2, a3, hla, ra⟩ := hr.at_ (j := 0) (by simp)
 injection hk1 with e1 e2 e3
 subst e1 e2 e3
 simp only [Nat.zero_mul, Nat.add_zero, Nat.one_mul, Nat.reduceMul] at a1 a2 a3
 have lbp := World.block_lt_of_cell? _ _ a1
 rcases bd_inv hs with ⟨b, h1, rfl⟩ | ⟨⟨k1, n1, s1⟩, h1, hs⟩
 ·have hI := hide (fun (w : World) (hrc : Rd w C 0 ctx) (hra : Rd w Aa 0 sa) => ih ctx ka na sa _ h1 hva hvc (by omega) C cc Aa ca w hrc hra)
  have qb := cdB_q2 b
  clear hs h1 hva hvc ih
  go_enter Try.func78, Try.ntmps78
  go_upto_region 20 with (go_at_call 51; refine (hI.out _ ((hrc.alloc _).alloc _) ((ra.alloc _).alloc _)).mono ?_; rintro e w1 ⟨rfl, hb1⟩; have hTw1 : Blk w1 w.heap.size #[.int .i64 11, .int .i64 n, .slice (some ⟨bk, ok, none⟩) 1 c] := ((Blk.new_ w 25 #[.int .i64 11, .int .i64 n, .slice (some ⟨bk, ok, none⟩) 1 c] rfl).alloc _).keep hb1; have hZw1 : Blk w1 (w.heap.size + 1) #[.int .i64 0, .int .i64 0, .slice none 0 0] := (Blk.new_ _ 25 #[.int .i64 0, .int .i64 0, .slice none 0 0] (by simp)).keep hb1; have kww1 : Below w.heap.size w w1 := (((Below.refl _ _).alloc (by simp <;> omega) _).alloc (by simp <;> omega) _).trans (hb1.mono (by simp <;> omega)); have hTw2 := hTw1.alloc (.cells #[.int .i64 0, .int .i64 0, .slice none 0 0] 25); have hZw2 := hZw1.alloc (.cells #[.int .i64 0, .int .i64 0, .slice none 0 0] 25); have hGw2 := Blk.new_ w1 25 #[.int .i64 0, .int .i64 0, .slice none 0 0] rfl; have kww2 := kww1.alloc kww1.size (.cells #[.int .i64 0, .int .i64 0, .slice none 0 0] 25))
  refine name_world ?_
  intro wl hwwl
  have hTwl : Blk wl w.heap.size #[.int .i64 11, .int .i64 n, .slice (some ⟨bk, ok, none⟩) 1 c] := by rw [hwwl]; exact hTw2
  have hZwl : Blk wl (w.heap.size + 1) #[.int .i64 0, .int .i64 0, .slice none 0 0] := by rw [hwwl]; exact hZw2
  have hGwl : Blk wl w1.heap.size #[.int .i64 0, .int .i64 0, .slice none 0 0] := by rw [hwwl]; exact hGw2
  have kwwl : Below w.heap.size w wl := by rw [hwwl]; exact kww2
  clear hwwl
  have lTz := hTwl.lt
  have lZz := hZwl.lt
  have lGz := hGwl.lt
  have nz0 : bk ≠ (w.heap.size + 1) := by omega
  have nz1 : w.heap.size ≠ (w.heap.size + 1) := by omega
  have nz2 : w1.heap.size ≠ (w.heap.size + 1) := by have := hZw1.lt; omega
  have lv := rule_ke (z := (w.heap.size + 1)) hTwl.three.2.2 nz1
  have lg0 := rule_ke (z := (w.heap.size + 1)) hGwl.three.1 nz2
  have lg1 := rule_ke (z := (w.heap.size + 1)) hGwl.three.2.1 nz2
  have lg2 := rule_ke (z := (w.heap.size + 1)) hGwl.three.2.2 nz2
  have la1 := rule_ke (z := (w.heap.size + 1)) (Keeps.of_below kwwl _ _ a1) nz0
  have la2 := rule_ke (z := (w.heap.size + 1)) (Keeps.of_below kwwl _ _ a2) nz0
  have la3 := rule_ke (z := (w.heap.size + 1)) (Keeps.of_below kwwl _ _ a3) nz0
  obtain ⟨q0, hq0⟩ : ∃ q0, q0 = wl.drew := ⟨_, rfl⟩
  have bq0 : Below wl.heap.size wl q0 := by rw [hq0]; exact (Below.refl _ _).drew
  have keq0 := KE.of (w.heap.size + 1) bq0
  refine gC_start (KE wl (w.heap.size + 1)) [13] 14 (by kernel_rfl) rfl ?_
  refine gC_take [0, 1, 2, 3, 4, 5, 6, 7, 8, 11] (f := 4) (l' := #[true, true, true, true, true, true, true, true, true, false, false, true, false, false]) (lT := [_, _, _, _, _, _, _, _, _, _]) (by rw [← hq0]; exact keq0) rfl (by kernel_rfl) (by kernel_rfl) (by kernel_rfl) rfl (fun _ _ d _ _ h => by cases d <;> exact h) ?_
  repeat ((first | ((refine takeY_skip (a' := ?_) ?_ ?_ ?_); (rotate_left); (· (simp [Region.wanted, yielded, Go.undef]; done))) | ((refine takeY_step (v := ?_) (a' := ?_) ?_ ?_ ?_ ?_); (rotate_left 2); (· (simp [Region.wanted, yielded, Go.undef]; done)); (· (intro w' hS'; go_simp; try (with_reducible rfl))))); (· (simp only [List.getElem_toArray, List.getElem_cons_zero, List.getElem_cons_succ, Act.put, List.setIfInBounds_toArray, List.set_cons_zero, List.set_cons_succ]; exact rfl)))
  refine takeY_nil ?_
  rw [← hq0]
  clear hq0
  refine gC_one (i := 9) (by kernel_rfl) rfl ?_
  go_wp2_with fail
  refine name_midw ?_
  intro q1 hn
  have hbq1 : Below q0.heap.size q0 q1 := by rw [hn]; exact (Below.refl _ _).alloc (Nat.le_refl _) _
  have zq1 : Blk q1 q0.heap.size #[.int .i64 0, .int .i64 0, .slice none 0 0, .int .i64 ka, .int .i64 na, .slice Aa sa.length ca, .int .i64 ka, .int .i64 na, .slice Aa sa.length ca] := by rw [hn]; exact Blk.new_ _ 25 _ rfl
  have seq1 : q0.heap.size < q1.heap.size := by rw [hn]; simp
  clear hn
  have bq1 : Below wl.heap.size wl q1 := bq0.trans (hbq1.mono bq0.size)
  have lq1 := hbq1.size
  have keq1 := KE.of (w.heap.size + 1) bq1
  refine mid_intro keq1 ?_
  refine gC_one (i := 10) (by kernel_rfl) rfl ?_
  go_wp2_with (go_at_call 46; refine (sNodeT_any 10 (rdx_consT (k := 0) (n := 0) (ks := []) (by simp) (Rd.nil (w := q1)).rdp (rdx_consT hla ((ra.below kwwl).below bq1).rdp (rdx_consT hla ((ra.below kwwl).below bq1).rdp rdx_nilT))) 3 rfl (by omega) _ _ zq1).mono ?_; rintro e q2 ⟨A7, c7, rfl, r7, hbq2⟩)
  have bq2 : Below wl.heap.size wl q2 := bq1.trans (hbq2.mono bq1.size)
  have lq2 := hbq2.size
  have keq2 := KE.of (w.heap.size + 1) bq2
  refine mid_intro keq2 ?_
  refine gC_one (i := 12) (by kernel_rfl) rfl ?_
  have hZz := hZwl.keep bq2
  obtain ⟨d0, d1, d2⟩ := hZz.three
  have e0 := hZz.frozen 0
  have e1 := hZz.frozen 1
  have e2 := hZz.frozen 2
  have lz := hZz.lt
  go_wp2_with fail
  refine name_midw ?_
  intro q3 hn
  have hZq3 : Blk q3 (w.heap.size + 1) #[.int .i64 10, .int .i64 0, .slice A7 3 c7] := by rw [hn]; exact ((hZz.set_ 0 _).set_ 1 _).set_ 2 _
  have kwq3 : Below w.heap.size w q3 := by rw [hn]; exact (((kwwl.trans (bq2.mono kwwl.size)).setCell (by simp <;> omega) _).setCell (by simp <;> omega) _).setCell (by simp <;> omega) _
  have keq3 : KE wl (w.heap.size + 1) q3 := by rw [hn]; exact ((keq2.set _ _).set _ _).set _ _
  clear hn d0 d1 d2 e0 e1 e2 lz
  refine mid_intro keq3 ?_
  refine gC_end [13] (lB := [_]) (by simp) (by kernel_rfl) (by kernel_rfl) rfl ?_
  simp only [List.getElem_toArray, List.getElem_cons_zero, List.getElem_cons_succ, Act.put, List.setIfInBounds_toArray, List.set_cons_zero, List.set_cons_succ]
  obtain ⟨d0, d1, d2⟩ := hZq3.three
  have e0 := hZq3.frozen 0
  have e1 := hZq3.frozen 1
  have e2 := hZq3.frozen 2
  have lz := hZq3.lt
  go_wp2_with fail
  refine bodyPost_ret (v := .tuple #[.agg #[.int .i64 10, .int .i64 0, .slice A7 3 c7], .int .i64 (cdB b)]) (by simp [results, Try.results78, go_sem, d0, d1, d2]) rfl ⟨10, 0, A7, 3, c7, rfl, kwq3⟩
 ·have hI := hide (fun (w : World) (hrc : Rd w C 0 ctx) (hra : Rd w Aa 0 sa) => ih ctx ka na sa _ h1 hva hvc (by omega) C cc Aa ca w hrc hra)
  have hvl := hide (show ∀ t, t ∈ [.mk k1 n1 s1, .mk ka na sa, .mk ka na sa] → validT t = true from fun t ht => by
   have hd := infR_valid h1
   rcases List.mem_cons.1 ht with rfl | ht
   ·exact hd
   ·rcases List.mem_cons.1 ht with rfl | ht
    ·exact hva
    ·rw [List.mem_singleton.1 ht]; exact hva)
  rcases bd_inv hs with ⟨b, h2, rfl⟩ | ⟨l5, h2, hs⟩
  ·have hS := hide (fun (A : Option Addr) (c : Nat) (w : World) (hrc : Rd w C 0 ctx) (hr : Rd w A 0 s1) => sSort_any ih ctx C cc k1 n1 s1 A c _ w h2 (infR_valid h1) hvc (by omega) hrc hr)
   have qb := cdB_q2 b
   clear hs h1 h2 hva hvc ih
   go_enter Try.func78, Try.ntmps78
   go_upto_region 20 with (first
    | (go_at_call 62; have _t := tok; refine (hS.out _ _ _ (hrc.below kww2) r1w2).mono ?_; rintro e w3 ⟨l5, rfl, hb3⟩; have hTw3 := hTw2.keep hb3; have hZw3 := hZw2.keep hb3; have hGw3 := hGw2.keep hb3; have kww3 := kww2.trans (hb3.mono kww2.size); have r1q := r1w2.below hb3)
    | (go_at_call 51; refine (hI.out _ ((hrc.alloc _).alloc _) ((ra.alloc _).alloc _)).mono ?_; rintro e w1 ⟨A1, c1, rfl, hl1, r1, hb1⟩; have hTw1 : Blk w1 w.heap.size #[.int .i64 11, .int .i64 n, .slice (some ⟨bk, ok, none⟩) 1 c] := ((Blk.new_ w 25 #[.int .i64 11, .int .i64 n, .slice (some ⟨bk, ok, none⟩) 1 c] rfl).alloc _).keep hb1; have hZw1 : Blk w1 (w.heap.size + 1) #[.int .i64 0, .int .i64 0, .slice none 0 0] := (Blk.new_ _ 25 #[.int .i64 0, .int .i64 0, .slice none 0 0] (by simp)).keep hb1; have kww1 : Below w.heap.size w w1 := (((Below.refl _ _).alloc (by simp <;> omega) _).alloc (by simp <;> omega) _).trans (hb1.mono (by simp <;> omega)); have hTw2 := hTw1.alloc (.cells #[.int .i64 k1, .int .i64 n1, .slice A1 s1.length c1] 25); have hZw2 := hZw1.alloc (.cells #[.int .i64 k1, .int .i64 n1, .slice A1 s1.length c1] 25); have hGw2 := Blk.new_ w1 25 #[.int .i64 k1, .int .i64 n1, .slice A1 s1.length c1] rfl; have kww2 := kww1.alloc kww1.size (.cells #[.int .i64 k1, .int .i64 n1, .slice A1 s1.length c1] 25); have r1w2 := r1.alloc (.cells #[.int .i64 k1, .int .i64 n1, .slice A1 s1.length c1] 25); obtain ⟨y0, y1, y2⟩ := hGw2.three; have tok := trivial))
   refine name_world ?_
   intro wl hwwl
   have hTwl : Blk wl w.heap.size #[.int .i64 11, .int .i64 n, .slice (some ⟨bk, ok, none⟩) 1 c] := by rw [hwwl]; exact hTw3
   have hZwl : Blk wl (w.heap.size + 1) #[.int .i64 0, .int .i64 0, .slice none 0 0] := by rw [hwwl]; exact hZw3
   have hGwl : Blk wl w1.heap.size #[.int .i64 k1, .int .i64 n1, .slice A1 s1.length c1] := by rw [hwwl]; exact hGw3
   have kwwl : Below w.heap.size w wl := by rw [hwwl]; exact kww3
   have rGl : Rd wl A1 0 s1 := by rw [hwwl]; exact r1q
   clear hwwl
   have lTz := hTwl.lt
   have lZz := hZwl.lt
   have lGz := hGwl.lt
   have nz0 : bk ≠ (w.heap.size + 1) := by omega
   have nz1 : w.heap.size ≠ (w.heap.size + 1) := by omega
   have nz2 : w1.heap.size ≠ (w.heap.size + 1) := by have := hZw1.lt; omega
   have lv := rule_ke (z := (w.heap.size + 1)) hTwl.three.2.2 nz1
   have lg0 := rule_ke (z := (w.heap.size + 1)) hGwl.three.1 nz2
   have lg1 := rule_ke (z := (w.heap.size + 1)) hGwl.three.2.1 nz2
   have lg2 := rule_ke (z := (w.heap.size + 1)) hGwl.three.2.2 nz2
   have la1 := rule_ke (z := (w.heap.size + 1)) (Keeps.of_below kwwl _ _ a1) nz0
   have la2 := rule_ke (z := (w.heap.size + 1)) (Keeps.of_below kwwl _ _ a2) nz0
   have la3 := rule_ke (z := (w.heap.size + 1)) (Keeps.of_below kwwl _ _ a3) nz0
   obtain ⟨q0, hq0⟩ : ∃ q0, q0 = wl.drew := ⟨_, rfl⟩
   have bq0 : Below wl.heap.size wl q0 := by rw [hq0]; exact (Below.refl _ _).drew
   have keq0 := KE.of (w.heap.size + 1) bq0
   refine gC_start (KE wl (w.heap.size + 1)) [13] 14 (by kernel_rfl) rfl ?_
   refine gC_take [0, 1, 2, 3, 4, 5, 6, 7, 8, 11] (f := 4) (l' := #[true, true, true, true, true, true, true, true, true, false, false, true, false, false]) (lT := [_, _, _, _, _, _, _, _, _, _]) (by rw [← hq0]; exact keq0) rfl (by kernel_rfl) (by kernel_rfl) (by kernel_rfl) rfl (fun _ _ d _ _ h => by cases d <;> exact h) ?_
   repeat ((first | ((refine takeY_skip (a' := ?_) ?_ ?_ ?_); (rotate_left); (· (simp [Region.wanted, yielded, Go.undef]; done))) | ((refine takeY_step (v := ?_) (a' := ?_) ?_ ?_ ?_ ?_); (rotate_left 2); (· (simp [Region.wanted, yielded, Go.undef]; done)); (· (intro w' hS'; go_simp; try (with_reducible rfl))))); (· (simp only [List.getElem_toArray, List.getElem_cons_zero, List.getElem_cons_succ, Act.put, List.setIfInBounds_toArray, List.set_cons_zero, List.set_cons_succ]; exact rfl)))
   refine takeY_nil ?_
   rw [← hq0]
   clear hq0
   refine gC_one (i := 9) (by kernel_rfl) rfl ?_
   go_wp2_with fail
   refine name_midw ?_
   intro q1 hn
   have hbq1 : Below q0.heap.size q0 q1 := by rw [hn]; exact (Below.refl _ _).alloc (Nat.le_refl _) _
   have zq1 : Blk q1 q0.heap.size #[.int .i64 k1, .int .i64 n1, .slice A1 s1.length c1, .int .i64 ka, .int .i64 na, .slice Aa sa.length ca, .int .i64 ka, .int .i64 na, .slice Aa sa.length ca] := by rw [hn]; exact Blk.new_ _ 25 _ rfl
   have seq1 : q0.heap.size < q1.heap.size := by rw [hn]; simp
   clear hn
   have bq1 : Below wl.heap.size wl q1 := bq0.trans (hbq1.mono bq0.size)
   have lq1 := hbq1.size
   have keq1 := KE.of (w.heap.size + 1) bq1
   refine mid_intro keq1 ?_
   refine gC_one (i := 10) (by kernel_rfl) rfl ?_
   go_wp2_with (go_at_call 46; refine (sNodeT_any 10 (rdx_consT hl1 (rGl.below bq1).rdp (rdx_consT hla ((ra.below kwwl).below bq1).rdp (rdx_consT hla ((ra.below kwwl).below bq1).rdp rdx_nilT))) 3 rfl (by omega) _ _ zq1).mono ?_; rintro e q2 ⟨A7, c7, rfl, r7, hbq2⟩)
   have bq2 : Below wl.heap.size wl q2 := bq1.trans (hbq2.mono bq1.size)
   have lq2 := hbq2.size
   have keq2 := KE.of (w.heap.size + 1) bq2
   refine mid_intro keq2 ?_
   refine gC_one (i := 12) (by kernel_rfl) rfl ?_
   have hZz := hZwl.keep bq2
   obtain ⟨d0, d1, d2⟩ := hZz.three
   have e0 := hZz.frozen 0
   have e1 := hZz.frozen 1
   have e2 := hZz.frozen 2
   have lz := hZz.lt
   go_wp2_with fail
   refine name_midw ?_
   intro q3 hn
   have hZq3 : Blk q3 (w.heap.size + 1) #[.int .i64 10, .int .i64 0, .slice A7 3 c7] := by rw [hn]; exact ((hZz.set_ 0 _).set_ 1 _).set_ 2 _
   have kwq3 : Below w.heap.size w q3 := by rw [hn]; exact (((kwwl.trans (bq2.mono kwwl.size)).setCell (by simp <;> omega) _).setCell (by simp <;> omega) _).setCell (by simp <;> omega) _
   have keq3 : KE wl (w.heap.size + 1) q3 := by rw [hn]; exact ((keq2.set _ _).set _ _).set _ _
   clear hn d0 d1 d2 e0 e1 e2 lz
   refine mid_intro keq3 ?_
   refine gC_end [13] (lB := [_]) (by simp) (by kernel_rfl) (by kernel_rfl) rfl ?_
   simp only [List.getElem_toArray, List.getElem_cons_zero, List.getElem_cons_succ, Act.put, List.setIfInBounds_toArray, List.set_cons_zero, List.set_cons_succ]
   obtain ⟨d0, d1, d2⟩ := hZq3.three
   have e0 := hZq3.frozen 0
   have e1 := hZq3.frozen 1
   have e2 := hZq3.frozen 2
   have lz := hZq3.lt
   go_wp2_with fail
   refine bodyPost_ret (v := .tuple #[.agg #[.int .i64 10, .int .i64 0, .slice A7 3 c7], .int .i64 (cdB b)]) (by simp [results, Try.results78, go_sem, d0, d1, d2]) rfl ⟨10, 0, A7, 3, c7, rfl, kwq3⟩
  ·have hS := hide (fun (A : Option Addr) (c : Nat) (w : World) (hrc : Rd w C 0 ctx) (hr : Rd w A 0 s1) => sSort_any ih ctx C cc k1 n1 s1 A c _ w h2 (infR_valid h1) hvc (by omega) hrc hr)
   injection hs with hs
   subst hs
   clear h1 h2 hva hvc ih
   go_enter Try.func78, Try.ntmps78
   go_upto_region 20 with (first
    | (go_at_call 62; have _t := tok; refine (hS.out _ _ _ (hrc.below kww2) r1w2).mono ?_; rintro e w3 ⟨rfl, hb3⟩; have hTw3 := hTw2.keep hb3; have hZw3 := hZw2.keep hb3; have hGw3 := hGw2.keep hb3; have kww3 := kww2.trans (hb3.mono kww2.size); have r1q := r1w2.below hb3)
    | (go_at_call 51; refine (hI.out _ ((hrc.alloc _).alloc _) ((ra.alloc _).alloc _)).mono ?_; rintro e w1 ⟨A1, c1, rfl, hl1, r1, hb1⟩; have hTw1 : Blk w1 w.heap.size #[.int .i64 11, .int .i64 n, .slice (some ⟨bk, ok, none⟩) 1 c] := ((Blk.new_ w 25 #[.int .i64 11, .int .i64 n, .slice (some ⟨bk, ok, none⟩) 1 c] rfl).alloc _).keep hb1; have hZw1 : Blk w1 (w.heap.size + 1) #[.int .i64 0, .int .i64 0, .slice none 0 0] := (Blk.new_ _ 25 #[.int .i64 0, .int .i64 0, .slice none 0 0] (by simp)).keep hb1; have kww1 : Below w.heap.size w w1 := (((Below.refl _ _).alloc (by simp <;> omega) _).alloc (by simp <;> omega) _).trans (hb1.mono (by simp <;> omega)); have hTw2 := hTw1.alloc (.cells #[.int .i64 k1, .int .i64 n1, .slice A1 s1.length c1] 25); have hZw2 := hZw1.alloc (.cells #[.int .i64 k1, .int .i64 n1, .slice A1 s1.length c1] 25); have hGw2 := Blk.new_ w1 25 #[.int .i64 k1, .int .i64 n1, .slice A1 s1.length c1] rfl; have kww2 := kww1.alloc kww1.size (.cells #[.int .i64 k1, .int .i64 n1, .slice A1 s1.length c1] 25); have r1w2 := r1.alloc (.cells #[.int .i64 k1, .int .i64 n1, .slice A1 s1.length c1] 25); obtain ⟨y0, y1, y2⟩ := hGw2.three; have tok := trivial))
   refine name_world ?_
   intro wl hwwl
   have hTwl : Blk wl w.heap.size #[.int .i64 11, .int .i64 n, .slice (some ⟨bk, ok, none⟩) 1 c] := by rw [hwwl]; exact hTw3
   have hZwl : Blk wl (w.heap.size + 1) #[.int .i64 0, .int .i64 0, .slice none 0 0] := by rw [hwwl]; exact hZw3
   have hGwl : Blk wl w1.heap.size #[.int .i64 k1, .int .i64 n1, .slice A1 s1.length c1] := by rw [hwwl]; exact hGw3
   have kwwl : Below w.heap.size w wl := by rw [hwwl]; exact kww3
   have rGl : Rd wl A1 0 s1 := by rw [hwwl]; exact r1q
   clear hwwl
   have lTz := hTwl.lt
   have lZz := hZwl.lt
   have lGz := hGwl.lt
   have nz0 : bk ≠ (w.heap.size + 1) := by omega
   have nz1 : w.heap.size ≠ (w.heap.size + 1) := by omega
   have nz2 : w1.heap.size ≠ (w.heap.size + 1) := by have := hZw1.lt; omega
   have lv := rule_ke (z := (w.heap.size + 1)) hTwl.three.2.2 nz1
   have lg0 := rule_ke (z := (w.heap.size + 1)) hGwl.three.1 nz2
   have lg1 := rule_ke (z := (w.heap.size + 1)) hGwl.three.2.1 nz2
   have lg2 := rule_ke (z := (w.heap.size + 1)) hGwl.three.2.2 nz2
   have la1 := rule_ke (z := (w.heap.size + 1)) (Keeps.of_below kwwl _ _ a1) nz0
   have la2 := rule_ke (z := (w.heap.size + 1)) (Keeps.of_below kwwl _ _ a2) nz0
   have la3 := rule_ke (z := (w.heap.size + 1)) (Keeps.of_below kwwl _ _ a3) nz0
   obtain ⟨q0, hq0⟩ : ∃ q0, q0 = wl.drew := ⟨_, rfl⟩
   have bq0 : Below wl.heap.size wl q0 := by rw [hq0]; exact (Below.refl _ _).drew
   have keq0 := KE.of (w.heap.size + 1) bq0
   refine gC_start (KE wl (w.heap.size + 1)) [13] 14 (by kernel_rfl) rfl ?_
   refine gC_take [0, 1, 2, 3, 4, 5, 6, 7, 8, 11] (f := 4) (l' := #[true, true, true, true, true, true, true, true, true, false, false, true, false, false]) (lT := [_, _, _, _, _, _, _, _, _, _]) (by rw [← hq0]; exact keq0) rfl (by kernel_rfl) (by kernel_rfl) (by kernel_rfl) rfl (fun _ _ d _ _ h => by cases d <;> exact h) ?_
   repeat ((first | ((refine takeY_skip (a' := ?_) ?_ ?_ ?_); (rotate_left); (· (simp [Region.wanted, yielded, Go.undef]; done))) | ((refine takeY_step (v := ?_) (a' := ?_) ?_ ?_ ?_ ?_); (rotate_left 2); (· (simp [Region.wanted, yielded, Go.undef]; done)); (· (intro w' hS'; go_simp; try (with_reducible rfl))))); (· (simp only [List.getElem_toArray, List.getElem_cons_zero, List.getElem_cons_succ, Act.put, List.setIfInBounds_toArray, List.set_cons_zero, List.set_cons_succ]; exact rfl)))
   refine takeY_nil ?_
   rw [← hq0]
   clear hq0
   refine gC_one (i := 9) (by kernel_rfl) rfl ?_
   go_wp2_with fail
   refine name_midw ?_
   intro q1 hn
   have hbq1 : Below q0.heap.size q0 q1 := by rw [hn]; exact (Below.refl _ _).alloc (Nat.le_refl _) _
   have zq1 : Blk q1 q0.heap.size #[.int .i64 k1, .int .i64 n1, .slice A1 s1.length c1, .int .i64 ka, .int .i64 na, .slice Aa sa.length ca, .int .i64 ka, .int .i64 na, .slice Aa sa.length ca] := by rw [hn]; exact Blk.new_ _ 25 _ rfl
   have seq1 : q0.heap.size < q1.heap.size := by rw [hn]; simp
   clear hn
   have bq1 : Below wl.heap.size wl q1 := bq0.trans (hbq1.mono bq0.size)
   have lq1 := hbq1.size
   have keq1 := KE.of (w.heap.size + 1) bq1
   refine mid_intro keq1 ?_
   refine gC_one (i := 10) (by kernel_rfl) rfl ?_
   go_wp2_with (go_at_call 46; refine (sNodeT_any 10 (rdx_consT hl1 (rGl.below bq1).rdp (rdx_consT hla ((ra.below kwwl).below bq1).rdp (rdx_consT hla ((ra.below kwwl).below bq1).rdp rdx_nilT))) 3 rfl (by omega) _ _ zq1).mono ?_; rintro e q2 ⟨A7, c7, rfl, r7, hbq2⟩)
   have bq2 : Below wl.heap.size wl q2 := bq1.trans (hbq2.mono bq1.size)
   have lq2 := hbq2.size
   have keq2 := KE.of (w.heap.size + 1) bq2
   refine mid_intro keq2 ?_
   refine gC_one (i := 12) (by kernel_rfl) rfl ?_
   have hZz := hZwl.keep bq2
   obtain ⟨d0, d1, d2⟩ := hZz.three
   have e0 := hZz.frozen 0
   have e1 := hZz.frozen 1
   have e2 := hZz.frozen 2
   have lz := hZz.lt
   go_wp2_with fail
   refine name_midw ?_
   intro q3 hn
   have hZq3 : Blk q3 (w.heap.size + 1) #[.int .i64 10, .int .i64 0, .slice A7 3 c7] := by rw [hn]; exact ((hZz.set_ 0 _).set_ 1 _).set_ 2 _
   have rq3 : Rd q3 A7 0 [.mk k1 n1 s1, .mk ka na sa, .mk ka na sa] := by rw [hn]; exact rd_set0L hZz hvl.out r7 _ _ _
   have kwq3 : Below w.heap.size w q3 := by rw [hn]; exact (((kwwl.trans (bq2.mono kwwl.size)).setCell (by simp <;> omega) _).setCell (by simp <;> omega) _).setCell (by simp <;> omega) _
   have keq3 : KE wl (w.heap.size + 1) q3 := by rw [hn]; exact ((keq2.set _ _).set _ _).set _ _
   clear hn d0 d1 d2 e0 e1 e2 lz
   refine mid_intro keq3 ?_
   refine gC_end [13] (lB := [_]) (by simp) (by kernel_rfl) (by kernel_rfl) rfl ?_
   simp only [List.getElem_toArray, List.getElem_cons_zero, List.getElem_cons_succ, Act.put, List.setIfInBounds_toArray, List.set_cons_zero, List.set_cons_succ]
   obtain ⟨d0, d1, d2⟩ := hZq3.three
   have e0 := hZq3.frozen 0
   have e1 := hZq3.frozen 1
   have e2 := hZq3.frozen 2
   have lz := hZq3.lt
   go_wp2_with fail
   refine bodyPost_ret (v := .tuple #[.agg #[.int .i64 10, .int .i64 0, .slice A7 3 c7], .int .i64 0]) (by simp [results, Try.results78, go_sem, d0, d1, d2]) rfl ⟨A7, c7, rfl, by simp, rq3, kwq3⟩
end Go.Proofs.Ytddkehjdjfmhmaa
