/-
 Contracts of the functions that the law reaches, and plain lemmas. No condition.
-/
import Derived.Test.YtddkehjdjfmhmaaK27
namespace Go.Proofs.Ytddkehjdjfmhmaa
set_option linter.unusedSimpArgs false
set_option linter.unusedVariables false
open Go.RowKit
theorem shS_eq {by_ k n n' : Int} {ks s : List Tm} (h : shS by_ 0 (.mk k n ks) = .mk k n' s) : (if k = 1 ∧ 0 ≤ n then n + by_ else n) = n' ∧ shSL by_ k 0 0 ks = s := by
 rw [shS] at h
 injection h with _ h2 h3
 exact ⟨h2, h3⟩
mutual
def nzT : Tm → Bool
 | .mk k _ ks => (k != 0) && nzL ks
def nzL : List Tm → Bool
 | [] => true
 | t :: ts => nzT t && nzL ts
end
theorem shape_nz : (∀ (t : Tm) (d : Nat), shape d t = true → nzT t = true) ∧ ∀ (ts : List Tm) (d : Nat), (∀ t, t ∈ ts → shape d t = true) → nzL ts = true := by
 refine Tm.ind2 (fun k n ks ih d h => ?_) (fun d _ => rfl) (fun t ts h1 h2 d h => ?_)
 ·obtain ⟨q, rfl, ha, _, _, hk⟩ := shape_pos h
  rw [nzT, ih q hk, Bool.and_true, bne_iff_ne]
  rintro rfl
  have : arity 0 = -1 := rfl
  omega
 ·rw [nzL, h1 d (h t (by simp)), h2 d (fun u hu => h u (by simp [hu]))]; rfl
theorem shS_nz (by_ : Int) : (∀ (t : Tm) (c : Int), nzT (shS by_ c t) = nzT t) ∧ ∀ (ts : List Tm) (k c : Int) (i : Nat), nzL (shSL by_ k c i ts) = nzL ts := by
 refine Tm.ind2 (fun k n ks ih c => ?_) (fun k c i => rfl) (fun t ts h1 h2 k c i => ?_)
 ·rw [shS, nzT, nzT, ih]
 ·rw [shSL, nzL, nzL, h1, h2]
theorem rdp_nz {w : World} {z : Nat} (hZ : Blk w z #[.int .i64 0, .int .i64 0, .slice none 0 0]) : (∀ t b off i, nzT t = true → RdC w b off i t → RdPC (· ≠ z) w b off i t) ∧ (∀ (ks : List Tm) A i, nzL ks = true → Rd w A i ks → RdP (· ≠ z) w A i ks) := by
 refine Tm.ind2 (fun k n ks ih b off i hs hr => ?_) (fun A i _ _ => RdP.nil) (fun t ts h1 h2 A i hs hr => ?_)
 ·rw [nzT, Bool.and_eq_true, bne_iff_ne] at hs
  obtain ⟨c1, c2, A, c, c3, hl, hr'⟩ := RdC.iff.1 hr
  refine RdPC.iff.2 ⟨fun e => ?_, c1, c2, A, c, c3, hl, ih A 0 hs.2 hr'⟩
  subst e
  have h0 := hs.1
  rw [hZ.cell] at c1
  generalize off + i * 3 = j at c1
  rcases j with _ | _ | _ | j
  ·simp at c1; exact h0 c1.symm
  ·simp at c1; exact h0 c1.symm
  ·simp at c1
  ·simp at c1
 ·rw [nzL, Bool.and_eq_true] at hs
  obtain ⟨⟨b, off, e, hc⟩, hr'⟩ := Rd.cons_iff.1 hr
  exact RdP.cons_iff.2 ⟨⟨b, off, e, h1 b off i hs.1 hc⟩, h2 A (i + 1) hs.2 hr'⟩
set_option maxRecDepth 100000 in
set_option maxHeartbeats 8000000 in
theorem sStepT_any (kp np : Int) (sp : List Tm) (Ap : Option Addr) (cp : Nat) (n1 n2 : Int) (s1 s2 : List Tm) (w : World) (hv : validT (.mk kp np sp) = true) (h1 : shS 1 0 (.mk kp np sp) = Tm.mk kp n1 s1) (h2 : shS 2 0 (.mk kp np sp) = Tm.mk kp n2 s2) (rp : Rd w Ap 0 sp) :
  Calls Try.prog 89 #[.agg #[.int .i64 kp, .int .i64 np, .slice Ap sp.length cp]] w (GotV w 3 0 [Tm.mk 6 0 [], Tm.mk 3 0 [Tm.mk 5 0 [Tm.mk kp n1 s1, Tm.mk 1 0 []], Tm.mk 5 0 [Tm.mk kp n2 s2, Tm.mk 8 0 [Tm.mk 1 1 []]]]]) := by
 have hsz := validT_size' hv
 obtain ⟨q1, q2⟩ := shS_eq h1
 obtain ⟨q3, q4⟩ := shS_eq h2
 have hS1 := hide (show ∀ (w : World) (hr : Rd w Ap 0 sp), Calls Try.prog 90 #[.agg #[.int .i64 kp, .int .i64 np, .slice Ap sp.length cp], .int .i64 1, .int .i64 0] w (GotT w kp n1 s1) from fun w hr => by
  have := sShift_any _ kp np sp Ap cp 1 0 30 w (Nat.lt_succ_self _) (by omega) (validT_shape30 hv) (by omega) (by omega) (by omega) hr
  rwa [q1, q2] at this)
 have hS2 := hide (show ∀ (w : World) (hr : Rd w Ap 0 sp), Calls Try.prog 90 #[.agg #[.int .i64 kp, .int .i64 np, .slice Ap sp.length cp], .int .i64 2, .int .i64 0] w (GotT w kp n2 s2) from fun w hr => by
  have := sShift_any _ kp np sp Ap cp 2 0 30 w (Nat.lt_succ_self _) (by omega) (validT_shape30 hv) (by omega) (by omega) (by omega) hr
  rwa [q3, q4] at this)
 have hnz := hide (show nzL [Tm.mk 6 0 [], Tm.mk 3 0 [Tm.mk 5 0 [Tm.mk kp n1 s1, Tm.mk 1 0 []], Tm.mk 5 0 [Tm.mk kp n2 s2, Tm.mk 8 0 [Tm.mk 1 1 []]]]] = true by
  have z0 := shape_nz.1 _ _ (validT_shape30 hv)
  have z1 := (shS_nz 1).1 (.mk kp np sp) 0
  have z2 := (shS_nz 2).1 (.mk kp np sp) 0
  rw [h1, z0] at z1
  rw [h2, z0] at z2
  simp only [nzT, nzL] at z1 z2 ⊢
  simp [z1, z2])
 clear h1 h2 q1 q2 q3 q4
 go_enter Try.func89, Try.ntmps89
 go_upto_region 4 with (first
  | (go_at_call 46; have _t := tok7; refine (sNodeT_any 5 (rdx_consT hl5 hf5g.rdp (rdx_consT (show ([Tm.mk 1 1 []] : List Tm).length ≤ 9223372036854775807 by simp) r6g.rdp rdx_nilT)) 2 rfl (by omega) _ _ hRg).mono ?_; rintro e wh ⟨A8, c8, rfl, r8, hbh⟩; have hZw2 := hZg.keep hbh; have hNw2 := hNg.keep hbh; have hQw2 := hQg.keep hbh; have r4h := r4g.below hbh; have kww2 := kwg.trans (hbh.mono kwg.size); clear tok7; have tok8 := trivial)
  | (go_at_call 46; have _t := tok6; refine (sNodeT_any 8 (rdx_consT (by simp) (Rd.nil (w := wf.alloc (.cells #[.int .i64 1, .int .i64 1, .slice none 0 0] 25))).rdp rdx_nilT) 1 rfl (by omega) _ _ hRf).mono ?_; rintro e wg ⟨A6, c6, rfl, r6, hbg⟩; have hZg := (hZf.keep hbg).alloc (.cells #[.int .i64 kp, .int .i64 n2, .slice A5 s2.length c5, .int .i64 8, .int .i64 0, .slice A6 1 c6] 25); have hNg := (hNf.keep hbg).alloc (.cells #[.int .i64 kp, .int .i64 n2, .slice A5 s2.length c5, .int .i64 8, .int .i64 0, .slice A6 1 c6] 25); have hQg := (hQf.keep hbg).alloc (.cells #[.int .i64 kp, .int .i64 n2, .slice A5 s2.length c5, .int .i64 8, .int .i64 0, .slice A6 1 c6] 25); have r4g := (r4f.below hbg).alloc (.cells #[.int .i64 kp, .int .i64 n2, .slice A5 s2.length c5, .int .i64 8, .int .i64 0, .slice A6 1 c6] 25); have kwg := (kwf.trans (hbg.mono kwf.size)).alloc (by have := kwf.size; have := hbg.size; omega) (.cells #[.int .i64 kp, .int .i64 n2, .slice A5 s2.length c5, .int .i64 8, .int .i64 0, .slice A6 1 c6] 25); have hf5g := (hf5f.below hbg).alloc (.cells #[.int .i64 kp, .int .i64 n2, .slice A5 s2.length c5, .int .i64 8, .int .i64 0, .slice A6 1 c6] 25); have r6g := r6.alloc (.cells #[.int .i64 kp, .int .i64 n2, .slice A5 s2.length c5, .int .i64 8, .int .i64 0, .slice A6 1 c6] 25); have hRg := Blk.new_ wg 25 #[.int .i64 kp, .int .i64 n2, .slice A5 s2.length c5, .int .i64 8, .int .i64 0, .slice A6 1 c6] rfl; clear tok6; have tok7 := trivial)
  | (go_at_call 28; have _t := tok5; refine (sLeaf_any _ _ _).mono ?_; rintro e wf ⟨rfl, hbf⟩; have hZf := (hZe.keep hbf).alloc (.cells #[.int .i64 1, .int .i64 1, .slice none 0 0] 25); have hNf := (hNe.keep hbf).alloc (.cells #[.int .i64 1, .int .i64 1, .slice none 0 0] 25); have hQf := (hQe.keep hbf).alloc (.cells #[.int .i64 1, .int .i64 1, .slice none 0 0] 25); have r4f := (r4e.below hbf).alloc (.cells #[.int .i64 1, .int .i64 1, .slice none 0 0] 25); have kwf := (kwe.trans (hbf.mono kwe.size)).alloc (by have := kwe.size; have := hbf.size; omega) (.cells #[.int .i64 1, .int .i64 1, .slice none 0 0] 25); have hf5f := (hf5.rd.below hbf).alloc (.cells #[.int .i64 1, .int .i64 1, .slice none 0 0] 25); have hRf := Blk.new_ wf 25 #[.int .i64 1, .int .i64 1, .slice none 0 0] rfl; clear tok5; have tok6 := trivial)
  | (go_at_call 90; have _t := tok4; refine (hS2.out _ (rp.below kwd)).mono ?_; rintro e we ⟨A5, c5, rfl, hl5, hf5, hbe⟩; have hZe := hZd.keep hbe; have hNe := hNd.keep hbe; have hQe := hQd.keep hbe; have r4e := r4d.below hbe; have kwe := kwd.trans (hbe.mono kwd.size); clear tok4; have tok5 := trivial)
  | (go_at_call 46; have _t := tok3; refine (sNodeT_any 5 (rdx_consT hl1 hf1c.rdp (rdx_consT (by simp) (Rd.nil (w := wc.alloc (.cells #[.int .i64 kp, .int .i64 n1, .slice A1 s1.length c1, .int .i64 1, .int .i64 0, .slice none 0 0] 25))).rdp rdx_nilT)) 2 rfl (by omega) _ _ hRc).mono ?_; rintro e wd ⟨A4, c4, rfl, r4, hbd⟩; have hPd := (hPc.keep hbd).alloc (.cells #[.int .i64 5, .int .i64 0, .slice A4 2 c4] 25); have hZd := (hZc.keep hbd).alloc (.cells #[.int .i64 5, .int .i64 0, .slice A4 2 c4] 25); have hNd := (hNc.keep hbd).alloc (.cells #[.int .i64 5, .int .i64 0, .slice A4 2 c4] 25); have kwd := (kwc.trans (hbd.mono kwc.size)).alloc (by have := kwc.size; have := hbd.size; omega) (.cells #[.int .i64 5, .int .i64 0, .slice A4 2 c4] 25); have r4d := r4.alloc (.cells #[.int .i64 5, .int .i64 0, .slice A4 2 c4] 25); have hQd := Blk.new_ wd 25 #[.int .i64 5, .int .i64 0, .slice A4 2 c4] rfl; clear p0 p1 p2; obtain ⟨p0, p1, p2⟩ := hPd.three; clear tok3; have tok4 := trivial)
  | (go_at_call 28; have _t := tok2; refine (sLeaf_any _ _ _).mono ?_; rintro e wc ⟨rfl, hbc⟩; have hPc := (hPb.keep hbc).alloc (.cells #[.int .i64 kp, .int .i64 n1, .slice A1 s1.length c1, .int .i64 1, .int .i64 0, .slice none 0 0] 25); have hZc := (hZb.keep hbc).alloc (.cells #[.int .i64 kp, .int .i64 n1, .slice A1 s1.length c1, .int .i64 1, .int .i64 0, .slice none 0 0] 25); have hNc := (hNb.keep hbc).alloc (.cells #[.int .i64 kp, .int .i64 n1, .slice A1 s1.length c1, .int .i64 1, .int .i64 0, .slice none 0 0] 25); have kwc := (kwb.trans (hbc.mono kwb.size)).alloc (by have := kwb.size; have := hbc.size; omega) (.cells #[.int .i64 kp, .int .i64 n1, .slice A1 s1.length c1, .int .i64 1, .int .i64 0, .slice none 0 0] 25); have hf1c := (hf1.rd.below hbc).alloc (.cells #[.int .i64 kp, .int .i64 n1, .slice A1 s1.length c1, .int .i64 1, .int .i64 0, .slice none 0 0] 25); have hRc := Blk.new_ wc 25 #[.int .i64 kp, .int .i64 n1, .slice A1 s1.length c1, .int .i64 1, .int .i64 0, .slice none 0 0] rfl; clear tok2; have tok3 := trivial)
  | (go_at_call 90; have _t := tok1; refine (hS1.out _ (rp.below kwa1)).mono ?_; rintro e wb ⟨A1, c1, rfl, hl1, hf1, hbb⟩; have hPb := hPa1.keep hbb; have hZb := hZa1.keep hbb; have hNb := hNa1.keep hbb; have kwb := kwa1.trans (hbb.mono kwa1.size); clear tok1; have tok2 := trivial)
  | (go_at_call 28;  refine (sLeaf_any _ _ _).mono ?_; rintro e wa ⟨rfl, hba⟩; have hPa : Blk wa w.heap.size #[.int .i64 kp, .int .i64 np, .slice Ap sp.length cp] := ((Blk.new_ w 25 #[.int .i64 kp, .int .i64 np, .slice Ap sp.length cp] rfl).alloc _).keep hba; have hZa : Blk wa (w.heap.size + 1) #[.int .i64 0, .int .i64 0, .slice none 0 0] := (Blk.new_ _ 25 #[.int .i64 0, .int .i64 0, .slice none 0 0] (by simp)).keep hba; have kwa : Below w.heap.size w wa := (((Below.refl _ _).alloc (by simp <;> omega) _).alloc (by simp <;> omega) _).trans (hba.mono (by simp <;> omega)); have hPa1 := hPa.alloc (.cells #[.int .i64 6, .int .i64 0, .slice none 0 0] 25); have hZa1 := hZa.alloc (.cells #[.int .i64 6, .int .i64 0, .slice none 0 0] 25); have hNa1 := Blk.new_ wa 25 #[.int .i64 6, .int .i64 0, .slice none 0 0] rfl; have kwa1 := kwa.alloc kwa.size (.cells #[.int .i64 6, .int .i64 0, .slice none 0 0] 25); obtain ⟨p0, p1, p2⟩ := hPa1.three; have tok1 := trivial))
 refine name_world ?_
 intro wx hwwx
 have hZwx : Blk wx (w.heap.size + 1) #[.int .i64 0, .int .i64 0, .slice none 0 0] := by rw [hwwx]; exact (hZw2.alloc _)
 have hNwx : Blk wx wa.heap.size #[.int .i64 6, .int .i64 0, .slice none 0 0] := by rw [hwwx]; exact (hNw2.alloc _)
 have hQwx : Blk wx wd.heap.size #[.int .i64 5, .int .i64 0, .slice A4 2 c4] := by rw [hwwx]; exact (hQw2.alloc _)
 have hSwx : Blk wx wh.heap.size #[.int .i64 5, .int .i64 0, .slice A8 2 c8] := by rw [hwwx]; exact (Blk.new_ _ 25 _ (by simp))
 have kwwx : Below w.heap.size w wx := by rw [hwwx]; exact (kww2.alloc (by have := kww2.size; simp <;> omega) _)
 have r4x : Rd wx A4 0 [Tm.mk kp n1 s1, Tm.mk 1 0 []] := by rw [hwwx]; exact r4h.alloc _
 have r8x : Rd wx A8 0 [Tm.mk kp n2 s2, Tm.mk 8 0 [Tm.mk 1 1 []]] := by rw [hwwx]; exact r8.alloc _
 clear hwwx
 have v0 := rule_of hNwx.three.1
 have v1 := rule_of hNwx.three.2.1
 have v2 := rule_of hNwx.three.2.2
 have u0 := rule_of hQwx.three.1
 have u1 := rule_of hQwx.three.2.1
 have u2 := rule_of hQwx.three.2.2
 have y0 := rule_of hSwx.three.1
 have y1 := rule_of hSwx.three.2.1
 have y2 := rule_of hSwx.three.2.2
 obtain ⟨q0, hq0⟩ : ∃ q0, q0 = wx.drew := ⟨_, rfl⟩
 have bq0 : Below wx.heap.size wx q0 := by rw [hq0]; exact (Below.refl _ _).drew
 refine gC_start (fun w' => Below wx.heap.size wx w') [7] 8 (by kernel_rfl) rfl ?_
 refine gC_take [0, 1, 2] (f := 5) (l' := #[true, true, true, false, false, false, false, false]) (lT := [_, _, _]) (by rw [← hq0]; exact bq0) rfl (by kernel_rfl) (by kernel_rfl) (by kernel_rfl) rfl (fun _ _ d _ _ h => by cases d <;> exact h) ?_
 repeat ((first | ((refine takeY_skip (a' := ?_) ?_ ?_ ?_); (rotate_left); (· (simp [Region.wanted, yielded, Go.undef]; done))) | ((refine takeY_step (v := ?_) (a' := ?_) ?_ ?_ ?_ ?_); (rotate_left 2); (· (simp [Region.wanted, yielded, Go.undef]; done)); (· (intro w' hS'; go_simp; try (with_reducible rfl))))); (· (simp only [List.getElem_toArray, List.getElem_cons_zero, List.getElem_cons_succ, Act.put, List.setIfInBounds_toArray, List.set_cons_zero, List.set_cons_succ]; exact rfl)))
 refine takeY_nil ?_
 rw [← hq0]
 clear hq0
 refine gC_one (i := 3) (by kernel_rfl) rfl ?_
 ·go_wp2_with fail
  refine name_midw ?_
  intro q1 hn
  have hbq1 : Below q0.heap.size q0 q1 := by rw [hn]; exact (Below.refl _ _).alloc (Nat.le_refl _) _
  have zq1 : Blk q1 q0.heap.size #[.int .i64 5, .int .i64 0, .slice A4 2 c4, .int .i64 5, .int .i64 0, .slice A8 2 c8] := by rw [hn]; exact Blk.new_ _ 25 _ rfl
  have seq1 : q0.heap.size < q1.heap.size := by rw [hn]; simp
  clear hn
  have bq1 : Below wx.heap.size wx q1 := bq0.trans (hbq1.mono bq0.size)
  have lq1 := hbq1.size
  refine mid_intro bq1 ?_
  refine gC_one (i := 4) (by kernel_rfl) rfl ?_
  ·go_wp2_with (go_at_call 46; refine (sNodeT_any 3 (rdx_consT (ks := [Tm.mk kp n1 s1, Tm.mk 1 0 []]) (by simp) (r4x.below bq1).rdp (rdx_consT (ks := [Tm.mk kp n2 s2, Tm.mk 8 0 [Tm.mk 1 1 []]]) (by simp) (r8x.below bq1).rdp rdx_nilT)) 2 rfl (by omega) _ _ zq1).mono ?_; rintro e q2 ⟨A9, c9, rfl, r9, hbq2⟩)
   have bq2 : Below wx.heap.size wx q2 := bq1.trans (hbq2.mono bq1.size)
   have lq2 := hbq2.size
   refine mid_intro bq2 ?_
   refine gC_one (i := 5) (by kernel_rfl) rfl ?_
   ·go_wp2_with fail
    refine name_midw ?_
    intro q3 hn
    have hbq3 : Below q2.heap.size q2 q3 := by rw [hn]; exact (Below.refl _ _).alloc (Nat.le_refl _) _
    have zq3 : Blk q3 q2.heap.size #[.int .i64 6, .int .i64 0, .slice none 0 0, .int .i64 3, .int .i64 0, .slice A9 2 c9] := by rw [hn]; exact Blk.new_ _ 25 _ rfl
    have seq3 : q2.heap.size < q3.heap.size := by rw [hn]; simp
    clear hn
    have r9q3 := r9.below hbq3
    have bq3 : Below wx.heap.size wx q3 := bq2.trans (hbq3.mono bq2.size)
    have lq3 := hbq3.size
    refine mid_intro bq3 ?_
    refine gC_one (i := 6) (by kernel_rfl) rfl ?_
    ·go_wp2_with (go_at_call 46; refine (sNodeT_any 3 (rdx_consT (ks := []) (by simp) (Rd.nil (w := q3)).rdp (rdx_consT (ks := [Tm.mk 5 0 [Tm.mk kp n1 s1, Tm.mk 1 0 []], Tm.mk 5 0 [Tm.mk kp n2 s2, Tm.mk 8 0 [Tm.mk 1 1 []]]]) (by simp) r9q3.rdp rdx_nilT)) 2 rfl (by omega) _ _ zq3).mono ?_; rintro e q4 ⟨A7, c7, rfl, r7, hbq4⟩)
     have bq4 : Below wx.heap.size wx q4 := bq3.trans (hbq4.mono bq3.size)
     have lq4 := hbq4.size
     refine mid_intro bq4 ?_
     refine gC_end [7] (lB := [_]) (by simp) (by kernel_rfl) (by kernel_rfl) rfl ?_
     simp only [List.getElem_toArray, List.getElem_cons_zero, List.getElem_cons_succ, Act.put, List.setIfInBounds_toArray, List.set_cons_zero, List.set_cons_succ]
     have hZq4 := hZwx.keep bq4
     have hNq4 := hNwx.keep bq4
     have hQq4 := hQwx.keep bq4
     have hSq4 := hSwx.keep bq4
     have kwq4 := kwwx.trans (bq4.mono kwwx.size)
     have kwxq4 := bq4
     obtain ⟨d0, d1, d2⟩ := hZq4.three
     have e0 := hZq4.frozen 0
     have e1 := hZq4.frozen 1
     have e2 := hZq4.frozen 2
     have lz := hZq4.lt
     have rset := ((rdp_nz hZq4).2 [Tm.mk 6 0 [], Tm.mk 3 0 [Tm.mk 5 0 [Tm.mk kp n1 s1, Tm.mk 1 0 []], Tm.mk 5 0 [Tm.mk kp n2 s2, Tm.mk 8 0 [Tm.mk 1 1 []]]]] A7 0 hnz.out r7)
     go_wp2_with fail
     refine bodyPost_ret (v := .agg #[.int .i64 3, .int .i64 0, .slice A7 2 c7]) (by simp [results, Try.results89, go_sem, d0, d1, d2]) rfl ⟨A7, c7, rfl, by simp, ?_, ?_⟩
     ·exact (((rset.setCell (a := ⟨(w.heap.size + 1), 0, none⟩) (fun h => h rfl) _).setCell (a := ⟨(w.heap.size + 1), 1, none⟩) (fun h => h rfl) _).setCell (a := ⟨(w.heap.size + 1), 2, none⟩) (fun h => h rfl) _).rd
     ·exact ((kwq4.setCell (by simp <;> omega) _).setCell (by simp <;> omega) _).setCell (by simp <;> omega) _
end Go.Proofs.Ytddkehjdjfmhmaa
