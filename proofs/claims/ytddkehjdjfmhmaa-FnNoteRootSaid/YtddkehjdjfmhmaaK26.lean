/-
 Contracts of the functions that the law reaches, and plain lemmas. No condition.
-/
import Derived.Test.YtddkehjdjfmhmaaK25
namespace Go.Proofs.Ytddkehjdjfmhmaa
set_option linter.unusedSimpArgs false
set_option linter.unusedVariables false
open Go.RowKit
set_option maxRecDepth 100000 in
set_option maxHeartbeats 8000000 in
theorem sPair_any {N : Nat} (ih : InfC N) (ctx : List Tm) (C : Option Addr) (cc : Nat) (k n : Int) (A : Option Addr) (c : Nat) (kf nf : Int) (sf : List Tm) (ka na : Int) (sa : List Tm) (kb nb : Int) (sb : List Tm) (r : Rs Tm) (w : World) (hs : parR (infR N) ctx (.mk kf nf sf) (.mk ka na sa) (.mk kb nb sb) = some r) (hvf : validT (.mk kf nf sf) = true) (hva : validT (.mk ka na sa) = true) (hvb : validT (.mk kb nb sb) = true) (hvc : ∀ u, u ∈ ctx → validT u = true) (hm : ctx.length ≤ 20) (hrc : Rd w C 0 ctx) (hr : Rd w A 0 [.mk kf nf sf, .mk ka na sa, .mk kb nb sb]) :
  Calls Try.prog 77 #[.slice C ctx.length cc, .agg #[.int .i64 k, .int .i64 n, .slice A 3 c]] w (GtT w r) := by
 have hsza := validT_size' hva
 have hvf' := hide hvf
 obtain ⟨bk, ok, x1, x2, x3, Af, cf, rfl, hk1, f1, f2, f3, hlf, rf⟩ := hr.at_ (j := 0) (by simp)
 injection hk1 with e1 e2 e3
 subst e1 e2 e3
 obtain ⟨bb, ob, x1, x2, x3, Aa, ca, hAb, hk1, a1, a2, a3, hla, ra⟩ := hr.at_ (j := 1) (by simp)
 injection hk1 with e1 e2 e3
 injection hAb with hA
 injection hA with hA1 hA2
 subst e1 e2 e3 hA1 hA2
 obtain ⟨bb, ob, x1, x2, x3, Ab, cb, hAb, hk1, b1, b2, b3, hlb, rb⟩ := hr.at_ (j := 2) (by simp)
 injection hk1 with e1 e2 e3
 injection hAb with hA
 injection hA with hA1 hA2
 subst e1 e2 e3 hA1 hA2
 simp only [Nat.zero_mul, Nat.add_zero, Nat.one_mul, Nat.reduceMul] at f1 f2 f3 a1 a2 a3 b1 b2 b3
 have lbp := World.block_lt_of_cell? _ _ f1
 rcases bd_inv hs with ⟨b, h1, rfl⟩ | ⟨li, h1, hs⟩
 ·have hS1 := hide (fun (w : World) (hrc : Rd w C 0 ctx) (hrs : Rd w Af 0 sf) => sSort_any ih ctx C cc kf nf sf Af cf _ w h1 hvf hvc (by omega) hrc hrs)
  have qb := cdB_q b
  clear hs h1 hvf hva hvb hvc ih
  go_enter Try.func77, Try.ntmps77
  go_wp2_with (go_at_call 62; refine (hS1.out _ ((hrc.alloc _).alloc _) ((rf.alloc _).alloc _)).mono ?_; rintro e w1 ⟨l1, rfl, hb1⟩; have hTw1 : Blk w1 w.heap.size #[.int .i64 k, .int .i64 n, .slice (some ⟨bk, ok, none⟩) 3 c] := ((Blk.new_ w 25 #[.int .i64 k, .int .i64 n, .slice (some ⟨bk, ok, none⟩) 3 c] rfl).alloc _).keep hb1; have hZw1 : Blk w1 (w.heap.size + 1) #[.int .i64 0, .int .i64 0, .slice none 0 0] := (Blk.new_ _ 25 #[.int .i64 0, .int .i64 0, .slice none 0 0] (by simp)).keep hb1; have kww1 : Below w.heap.size w w1 := (((Below.refl _ _).alloc (by simp <;> omega) _).alloc (by simp <;> omega) _).trans (hb1.mono (by simp <;> omega)); have ltw := hTw1.lt; have mf1 := Keeps.of_below kww1 _ _ f1; have mf2 := Keeps.of_below kww1 _ _ f2; have mf3 := Keeps.of_below kww1 _ _ f3; have t2 := hTw1.three.2.2; obtain ⟨d0, d1, d2⟩ := hZw1.three; have e0 := hZw1.frozen 0; have e1 := hZw1.frozen 1; have e2 := hZw1.frozen 2; have lz := hZw1.lt)
  refine bodyPost_ret (v := .tuple #[.agg #[.int .i64 0, .int .i64 0, .slice none 0 0], .int .i64 (cdB b)]) (by simp [results, Try.results77, go_sem, d0, d1, d2]) rfl ⟨0, 0, none, 0, 0, rfl, ?_⟩
  exact ((kww1.setCell (by simp <;> omega) _).setCell (by simp <;> omega) _).setCell (by simp <;> omega) _
 ·have hS1 := hide (fun (w : World) (hrc : Rd w C 0 ctx) (hrs : Rd w Af 0 sf) => sSort_any ih ctx C cc kf nf sf Af cf _ w h1 hvf hvc (by omega) hrc hrs)
  have hH := hide (fun (w : World) (hr : Rd w Af 0 sf) => sHd_any kf nf sf Af cf w hvf hr)
  rcases bd_inv hs with ⟨b, h2, rfl⟩ | ⟨⟨k3, n3, s3⟩, h2, hs⟩
  ·injection h2 with h2
   rw [h2] at hH
   have qb := cdB_q b
   clear hs h1 h2 hvf hva hvb hvc ih
   go_enter Try.func77, Try.ntmps77
   go_wp2_with (first
    | (go_at_call 70; have _t := tok; refine (hH.out _ (rf.below kww1)).mono ?_; rintro e w2 ⟨k3, n3, A3, l3, c3, rfl, hb2⟩; have hTw2 := hTw1.keep hb2; have hZw2 := hZw1.keep hb2; have kww2 := kww1.trans (hb2.mono kww1.size); have g3 := kww2.alloc kww2.size (.cells #[.int .i64 k3, .int .i64 n3, .slice A3 l3 c3] 25); have hZ3 := hZw2.alloc (.cells #[.int .i64 k3, .int .i64 n3, .slice A3 l3 c3] 25); obtain ⟨d0, d1, d2⟩ := hZ3.three; have e0 := hZ3.frozen 0; have e1 := hZ3.frozen 1; have e2 := hZ3.frozen 2; have lz := hZ3.lt)
    | (go_at_call 62; refine (hS1.out _ ((hrc.alloc _).alloc _) ((rf.alloc _).alloc _)).mono ?_; rintro e w1 ⟨rfl, hb1⟩; have hTw1 : Blk w1 w.heap.size #[.int .i64 k, .int .i64 n, .slice (some ⟨bk, ok, none⟩) 3 c] := ((Blk.new_ w 25 #[.int .i64 k, .int .i64 n, .slice (some ⟨bk, ok, none⟩) 3 c] rfl).alloc _).keep hb1; have hZw1 : Blk w1 (w.heap.size + 1) #[.int .i64 0, .int .i64 0, .slice none 0 0] := (Blk.new_ _ 25 #[.int .i64 0, .int .i64 0, .slice none 0 0] (by simp)).keep hb1; have kww1 : Below w.heap.size w w1 := (((Below.refl _ _).alloc (by simp <;> omega) _).alloc (by simp <;> omega) _).trans (hb1.mono (by simp <;> omega)); have ltw := hTw1.lt; have mf1 := Keeps.of_below kww1 _ _ f1; have mf2 := Keeps.of_below kww1 _ _ f2; have mf3 := Keeps.of_below kww1 _ _ f3; have t2 := hTw1.three.2.2; have tok := trivial))
   refine bodyPost_ret (v := .tuple #[.agg #[.int .i64 0, .int .i64 0, .slice none 0 0], .int .i64 (cdB b)]) (by simp [results, Try.results77, go_sem, d0, d1, d2]) rfl ⟨0, 0, none, 0, 0, rfl, ?_⟩
   exact ((g3.setCell (by simp <;> omega) _).setCell (by simp <;> omega) _).setCell (by simp <;> omega) _
  ·injection h2 with h2
   have hv3 := (hdR_valid h2).2.1
   rw [h2] at hH
   unfold shpH at hs
   by_cases hk : k3 = 13
   ·subst hk
    rw [if_pos (show (Tm.mk 13 n3 s3).k = 13 from rfl)] at hs
    obtain ⟨kha, nha, sha, khb, nhb, shb, rfl⟩ := kids2 (k := 13) rfl hv3
    have hszha : sizes sha ≤ 400 := validT_size' (show validT (.mk kha nha sha) = true from validT_kidT (i := 0) hv3 (by simp))
    have hvhb : validT (.mk khb nhb shb) = true := validT_kidT (i := 1) hv3 (by simp)
    have hszhb := validT_size' hvhb
    replace hs : bd (chkR (infR N) ctx (.mk ka na sa) (.mk kha nha sha)) (fun _ => bd (chkR (infR N) ctx (.mk kb nb sb) (sbS (.mk ka na sa) 0 0 (.mk khb nhb shb))) fun _ => some (.ok (.mk kf nf sf))) = some r := hs
    rcases bd_inv hs with ⟨b, h3, rfl⟩ | ⟨u1, h3, hs⟩
    ·have hC1 := hide (fun (A2 : Option Addr) (c2 : Nat) (w : World) (hrc : Rd w C 0 ctx) (hrt : Rd w Aa 0 sa) (hr2 : Rd w A2 0 sha) => sCheck_any ih ctx C cc ka na sa Aa ca kha nha sha A2 c2 _ w h3 hva hvc (by omega) hrc hrt (by omega) hr2)
     have qb := cdB_q2 b
     clear hs h1 h2 h3 hvf hva hvb hvc ih hv3 hvhb
     go_enter Try.func77, Try.ntmps77
     go_upto_region 9 with (first
      | (go_at_call 70; have _t := tok; refine (hH.out _ (rf.below kww1)).mono ?_; rintro e w2 ⟨A3, c3, rfl, hl3, r3, hb2⟩; have hTw2 := hTw1.keep hb2; have hZw2 := hZw1.keep hb2; have kww2 := kww1.trans (hb2.mono kww1.size); have hK3 := Blk.new_ w2 25 #[.int .i64 13, .int .i64 n3, .slice A3 2 c3] rfl; have y0 := hK3.three.1)
      | (go_at_call 62; refine (hS1.out _ ((hrc.alloc _).alloc _) ((rf.alloc _).alloc _)).mono ?_; rintro e w1 ⟨rfl, hb1⟩; have hTw1 : Blk w1 w.heap.size #[.int .i64 k, .int .i64 n, .slice (some ⟨bk, ok, none⟩) 3 c] := ((Blk.new_ w 25 #[.int .i64 k, .int .i64 n, .slice (some ⟨bk, ok, none⟩) 3 c] rfl).alloc _).keep hb1; have hZw1 : Blk w1 (w.heap.size + 1) #[.int .i64 0, .int .i64 0, .slice none 0 0] := (Blk.new_ _ 25 #[.int .i64 0, .int .i64 0, .slice none 0 0] (by simp)).keep hb1; have kww1 : Below w.heap.size w w1 := (((Below.refl _ _).alloc (by simp <;> omega) _).alloc (by simp <;> omega) _).trans (hb1.mono (by simp <;> omega)); have ltw := hTw1.lt; have mf1 := Keeps.of_below kww1 _ _ f1; have mf2 := Keeps.of_below kww1 _ _ f2; have mf3 := Keeps.of_below kww1 _ _ f3; have t2 := hTw1.three.2.2; have tok := trivial))
     refine name_world ?_
     intro wx hwwx
     have hTwx : Blk wx w.heap.size #[.int .i64 k, .int .i64 n, .slice (some ⟨bk, ok, none⟩) 3 c] := by rw [hwwx]; exact (hTw2.alloc _)
     have hZwx : Blk wx (w.heap.size + 1) #[.int .i64 0, .int .i64 0, .slice none 0 0] := by rw [hwwx]; exact (hZw2.alloc _)
     have hKwx : Blk wx w2.heap.size #[.int .i64 13, .int .i64 n3, .slice A3 2 c3] := by rw [hwwx]; exact (Blk.new_ _ 25 _ (by simp))
     have kwwx : Below w.heap.size w wx := by rw [hwwx]; exact (kww2.alloc (by have := kww2.size; simp <;> omega) _)
     have r3x : Rd wx A3 0 [.mk kha nha sha, .mk khb nhb shb] := by rw [hwwx]; exact r3.alloc _
     clear hwwx
     obtain ⟨bh, oh, x1, x2, x3, Aha, cha, rfl, hk1, ha1, ha2, ha3, hlha, rha⟩ := r3x.at_ (j := 0) (by simp)
     injection hk1 with e1 e2 e3
     subst e1 e2 e3
     obtain ⟨bb, ob, x1, x2, x3, Ahb, chb, hAb, hk1, hb1, hb2, hb3, hlhb, rhb⟩ := r3x.at_ (j := 1) (by simp)
     injection hk1 with e1 e2 e3
     injection hAb with hA
     injection hA with hA1 hA2
     subst e1 e2 e3 hA1 hA2
     simp only [Nat.zero_mul, Nat.add_zero, Nat.one_mul, Nat.reduceMul] at ha1 ha2 ha3 hb1 hb2 hb3
     replace hKwx : Blk wx w2.heap.size #[.int .i64 13, .int .i64 n3, .slice (some ⟨bh, oh, none⟩) 2 c3] := hKwx
     clear y0 mf1 mf2 mf3 t2
     have v2 := rule_of hTwx.three.2.2
     have kq := rule_of hKwx.three.2.2
     have ua1 := rule_of (Keeps.of_below kwwx _ _ a1)
     have ua2 := rule_of (Keeps.of_below kwwx _ _ a2)
     have ua3 := rule_of (Keeps.of_below kwwx _ _ a3)
     have uha1 := rule_of ha1
     have uha2 := rule_of ha2
     have uha3 := rule_of ha3
     obtain ⟨q0, hq0⟩ : ∃ q0, q0 = wx.drew := ⟨_, rfl⟩
     have bq0 : Below wx.heap.size wx q0 := by rw [hq0]; exact (Below.refl _ _).drew
     refine gC_start (fun w' => Below wx.heap.size wx w') [10] 11 (by kernel_rfl) rfl ?_
     refine gC_take [0, 1, 2, 3, 4, 5, 6, 7, 8] (f := 2) (l' := #[true, true, true, true, true, true, true, true, true, false, false]) (lT := [_, _, _, _, _, _, _, _, _]) (by rw [← hq0]; exact bq0) rfl (by kernel_rfl) (by kernel_rfl) (by kernel_rfl) rfl (fun _ _ d _ _ h => by cases d <;> exact h) ?_
     repeat ((first | ((refine takeY_skip (a' := ?_) ?_ ?_ ?_); (rotate_left); (· (simp [Region.wanted, yielded, Go.undef]; done))) | ((refine takeY_step (v := ?_) (a' := ?_) ?_ ?_ ?_ ?_); (rotate_left 2); (· (simp [Region.wanted, yielded, Go.undef]; done)); (· (intro w' hS'; go_simp; try (with_reducible rfl))))); (· (simp only [List.getElem_toArray, List.getElem_cons_zero, List.getElem_cons_succ, Act.put, List.setIfInBounds_toArray, List.set_cons_zero, List.set_cons_succ]; exact rfl)))
     refine takeY_nil ?_
     rw [← hq0]
     clear hq0
     refine gC_one (i := 9) (by kernel_rfl) rfl ?_
     ·go_wp2_with (go_at_call 86; refine (hC1.out _ _ _ ((hrc.below kwwx).below bq0) ((ra.below kwwx).below bq0) (rha.below bq0)).mono ?_; rintro e q1 ⟨he, hbq1⟩; obtain rfl : e = .returned (.int .i64 (cdB b)) := he)
      have bq1 : Below wx.heap.size wx q1 := bq0.trans (hbq1.mono bq0.size)
      have lq1 := hbq1.size
      refine mid_intro bq1 ?_
      refine gC_end [10] (lB := [_]) (by simp) (by kernel_rfl) (by kernel_rfl) rfl ?_
      simp only [List.getElem_toArray, List.getElem_cons_zero, List.getElem_cons_succ, Act.put, List.setIfInBounds_toArray, List.set_cons_zero, List.set_cons_succ]
      have hTq1 := hTwx.keep bq1
      have hZq1 := hZwx.keep bq1
      have hKq1 := hKwx.keep bq1
      have kwq1 := kwwx.trans (bq1.mono kwwx.size)
      have kwxq1 := bq1
      obtain ⟨d0, d1, d2⟩ := hZq1.three
      have e0 := hZq1.frozen 0
      have e1 := hZq1.frozen 1
      have e2 := hZq1.frozen 2
      have lz := hZq1.lt
      have mf1 := Keeps.of_below kwq1 _ _ f1
      have mf2 := Keeps.of_below kwq1 _ _ f2
      have mf3 := Keeps.of_below kwq1 _ _ f3
      have t2 := hTq1.three.2.2
      go_wp2_with fail
      refine bodyPost_ret (v := .tuple #[.agg #[.int .i64 kf, .int .i64 nf, .slice Af sf.length cf], .int .i64 (cdB b)]) (by simp [results, Try.results77, go_sem, d0, d1, d2]) rfl ⟨kf, nf, Af, sf.length, cf, rfl, ?_⟩
      exact ((kwq1.setCell (by simp <;> omega) _).setCell (by simp <;> omega) _).setCell (by simp <;> omega) _
    ·have hC1 := hide (fun (A2 : Option Addr) (c2 : Nat) (w : World) (hrc : Rd w C 0 ctx) (hrt : Rd w Aa 0 sa) (hr2 : Rd w A2 0 sha) => sCheck_any ih ctx C cc ka na sa Aa ca kha nha sha A2 c2 _ w h3 hva hvc (by omega) hrc hrt (by omega) hr2)
     obtain ⟨k5, n5, s5, h5⟩ := tm_eta (sbS (.mk ka na sa) 0 0 (.mk khb nhb shb))
     have h5z : sizes s5 ≤ 1000000 := by
      have := sbS_size (.mk ka na sa) (m := 401) (by rw [Tm.size]; omega) (by omega) (.mk khb nhb shb) 0 0
      rw [h5, Tm.size, Tm.size] at this
      omega
     rw [h5] at hs
     have hS3 := hide (fun (A2 : Option Addr) (c2 : Nat) (w : World) (hr2 : Rd w A2 0 shb) (hra : Rd w Aa 0 sa) => sSubT_any khb nhb shb A2 c2 ka na sa Aa ca w hvhb (validT_shape30 hva) (by omega) hr2 hra k5 n5 s5 h5)
     rcases bd_inv hs with ⟨b, h4, rfl⟩ | ⟨u2, h4, hs⟩
     ·have hC2 := hide (fun (A2 : Option Addr) (c2 : Nat) (w : World) (hrc : Rd w C 0 ctx) (hrt : Rd w Ab 0 sb) (hr2 : Rd w A2 0 s5) => sCheck_any ih ctx C cc kb nb sb Ab cb k5 n5 s5 A2 c2 _ w h4 hvb hvc (by omega) hrc hrt h5z hr2)
      have qb := cdB_q2 b
      clear hs h1 h2 h3 h4 h5 hvf hva hvb hvc ih hv3 hvhb
      go_enter Try.func77, Try.ntmps77
      go_upto_region 9 with (first
       | (go_at_call 70; have _t := tok; refine (hH.out _ (rf.below kww1)).mono ?_; rintro e w2 ⟨A3, c3, rfl, hl3, r3, hb2⟩; have hTw2 := hTw1.keep hb2; have hZw2 := hZw1.keep hb2; have kww2 := kww1.trans (hb2.mono kww1.size); have hK3 := Blk.new_ w2 25 #[.int .i64 13, .int .i64 n3, .slice A3 2 c3] rfl; have y0 := hK3.three.1)
       | (go_at_call 62; refine (hS1.out _ ((hrc.alloc _).alloc _) ((rf.alloc _).alloc _)).mono ?_; rintro e w1 ⟨rfl, hb1⟩; have hTw1 : Blk w1 w.heap.size #[.int .i64 k, .int .i64 n, .slice (some ⟨bk, ok, none⟩) 3 c] := ((Blk.new_ w 25 #[.int .i64 k, .int .i64 n, .slice (some ⟨bk, ok, none⟩) 3 c] rfl).alloc _).keep hb1; have hZw1 : Blk w1 (w.heap.size + 1) #[.int .i64 0, .int .i64 0, .slice none 0 0] := (Blk.new_ _ 25 #[.int .i64 0, .int .i64 0, .slice none 0 0] (by simp)).keep hb1; have kww1 : Below w.heap.size w w1 := (((Below.refl _ _).alloc (by simp <;> omega) _).alloc (by simp <;> omega) _).trans (hb1.mono (by simp <;> omega)); have ltw := hTw1.lt; have mf1 := Keeps.of_below kww1 _ _ f1; have mf2 := Keeps.of_below kww1 _ _ f2; have mf3 := Keeps.of_below kww1 _ _ f3; have t2 := hTw1.three.2.2; have tok := trivial))
      refine name_world ?_
      intro wx hwwx
      have hTwx : Blk wx w.heap.size #[.int .i64 k, .int .i64 n, .slice (some ⟨bk, ok, none⟩) 3 c] := by rw [hwwx]; exact (hTw2.alloc _)
      have hZwx : Blk wx (w.heap.size + 1) #[.int .i64 0, .int .i64 0, .slice none 0 0] := by rw [hwwx]; exact (hZw2.alloc _)
      have hKwx : Blk wx w2.heap.size #[.int .i64 13, .int .i64 n3, .slice A3 2 c3] := by rw [hwwx]; exact (Blk.new_ _ 25 _ (by simp))
      have kwwx : Below w.heap.size w wx := by rw [hwwx]; exact (kww2.alloc (by have := kww2.size; simp <;> omega) _)
      have r3x : Rd wx A3 0 [.mk kha nha sha, .mk khb nhb shb] := by rw [hwwx]; exact r3.alloc _
      clear hwwx
      obtain ⟨bh, oh, x1, x2, x3, Aha, cha, rfl, hk1, ha1, ha2, ha3, hlha, rha⟩ := r3x.at_ (j := 0) (by simp)
      injection hk1 with e1 e2 e3
      subst e1 e2 e3
      obtain ⟨bb, ob, x1, x2, x3, Ahb, chb, hAb, hk1, hb1, hb2, hb3, hlhb, rhb⟩ := r3x.at_ (j := 1) (by simp)
      injection hk1 with e1 e2 e3
      injection hAb with hA
      injection hA with hA1 hA2
      subst e1 e2 e3 hA1 hA2
      simp only [Nat.zero_mul, Nat.add_zero, Nat.one_mul, Nat.reduceMul] at ha1 ha2 ha3 hb1 hb2 hb3
      replace hKwx : Blk wx w2.heap.size #[.int .i64 13, .int .i64 n3, .slice (some ⟨bh, oh, none⟩) 2 c3] := hKwx
      clear y0 mf1 mf2 mf3 t2
      have v2 := rule_of hTwx.three.2.2
      have kq := rule_of hKwx.three.2.2
      have ua1 := rule_of (Keeps.of_below kwwx _ _ a1)
      have ua2 := rule_of (Keeps.of_below kwwx _ _ a2)
      have ua3 := rule_of (Keeps.of_below kwwx _ _ a3)
      have uha1 := rule_of ha1
      have uha2 := rule_of ha2
      have uha3 := rule_of ha3
      obtain ⟨q0, hq0⟩ : ∃ q0, q0 = wx.drew := ⟨_, rfl⟩
      have bq0 : Below wx.heap.size wx q0 := by rw [hq0]; exact (Below.refl _ _).drew
      refine gC_start (fun w' => Below wx.heap.size wx w') [10] 11 (by kernel_rfl) rfl ?_
      refine gC_take [0, 1, 2, 3, 4, 5, 6, 7, 8] (f := 2) (l' := #[true, true, true, true, true, true, true, true, true, false, false]) (lT := [_, _, _, _, _, _, _, _, _]) (by rw [← hq0]; exact bq0) rfl (by kernel_rfl) (by kernel_rfl) (by kernel_rfl) rfl (fun _ _ d _ _ h => by cases d <;> exact h) ?_
      repeat ((first | ((refine takeY_skip (a' := ?_) ?_ ?_ ?_); (rotate_left); (· (simp [Region.wanted, yielded, Go.undef]; done))) | ((refine takeY_step (v := ?_) (a' := ?_) ?_ ?_ ?_ ?_); (rotate_left 2); (· (simp [Region.wanted, yielded, Go.undef]; done)); (· (intro w' hS'; go_simp; try (with_reducible rfl))))); (· (simp only [List.getElem_toArray, List.getElem_cons_zero, List.getElem_cons_succ, Act.put, List.setIfInBounds_toArray, List.set_cons_zero, List.set_cons_succ]; exact rfl)))
      refine takeY_nil ?_
      rw [← hq0]
      clear hq0
      refine gC_one (i := 9) (by kernel_rfl) rfl ?_
      ·go_wp2_with (go_at_call 86; refine (hC1.out _ _ _ ((hrc.below kwwx).below bq0) ((ra.below kwwx).below bq0) (rha.below bq0)).mono ?_; rintro e q1 ⟨he, hbq1⟩; obtain rfl : e = .returned (.int .i64 0) := he)
       have bq1 : Below wx.heap.size wx q1 := bq0.trans (hbq1.mono bq0.size)
       have lq1 := hbq1.size
       refine mid_intro bq1 ?_
       refine gC_end [10] (lB := [_]) (by simp) (by kernel_rfl) (by kernel_rfl) rfl ?_
       simp only [List.getElem_toArray, List.getElem_cons_zero, List.getElem_cons_succ, Act.put, List.setIfInBounds_toArray, List.set_cons_zero, List.set_cons_succ]
       have hTq1 := hTwx.keep bq1
       have hZq1 := hZwx.keep bq1
       have hKq1 := hKwx.keep bq1
       have kwq1 := kwwx.trans (bq1.mono kwwx.size)
       have kwxq1 := bq1
       go_upto_region 11 with fail
       refine name_world ?_
       intro wu hwwu
       have hTwu : Blk wu w.heap.size #[.int .i64 k, .int .i64 n, .slice (some ⟨bk, ok, none⟩) 3 c] := by rw [hwwu]; exact hTq1
       have hZwu : Blk wu (w.heap.size + 1) #[.int .i64 0, .int .i64 0, .slice none 0 0] := by rw [hwwu]; exact hZq1
       have hKwu : Blk wu w2.heap.size #[.int .i64 13, .int .i64 n3, .slice (some ⟨bh, oh, none⟩) 2 c3] := by rw [hwwu]; exact hKq1
       have kwwu : Below w.heap.size w wu := by rw [hwwu]; exact kwq1
       have kwxwu : Below wx.heap.size wx wu := by rw [hwwu]; exact kwxq1
       clear hwwu
       clear v2 kq ua1 ua2 ua3 uha1 uha2 uha3
       have v2 := rule_of hTwu.three.2.2
       have kq := rule_of hKwu.three.2.2
       have ub1 := rule_of (Keeps.of_below kwwu _ _ b1)
       have ub2 := rule_of (Keeps.of_below kwwu _ _ b2)
       have ub3 := rule_of (Keeps.of_below kwwu _ _ b3)
       have uhb1 := rule_of (Keeps.of_below kwxwu _ _ hb1)
       have uhb2 := rule_of (Keeps.of_below kwxwu _ _ hb2)
       have uhb3 := rule_of (Keeps.of_below kwxwu _ _ hb3)
       have ua1 := rule_of (Keeps.of_below kwwu _ _ a1)
       have ua2 := rule_of (Keeps.of_below kwwu _ _ a2)
       have ua3 := rule_of (Keeps.of_below kwwu _ _ a3)
       obtain ⟨q0, hq0⟩ : ∃ q0, q0 = wu.drew := ⟨_, rfl⟩
       have bq0 : Below wu.heap.size wu q0 := by rw [hq0]; exact (Below.refl _ _).drew
       refine gC_start (fun w' => Below wu.heap.size wu w') [15] 16 (by kernel_rfl) rfl ?_
       refine gC_take [0, 1, 2, 3, 4, 5, 6, 7, 8, 9, 10, 11, 12] (f := 3) (l' := #[true, true, true, true, true, true, true, true, true, true, true, true, true, false, false, false]) (lT := [_, _, _, _, _, _, _, _, _, _, _, _, _]) (by rw [← hq0]; exact bq0) rfl (by kernel_rfl) (by kernel_rfl) (by kernel_rfl) rfl (fun _ _ d _ _ h => by cases d <;> exact h) ?_
       repeat ((first | ((refine takeY_skip (a' := ?_) ?_ ?_ ?_); (rotate_left); (· (simp [Region.wanted, yielded, Go.undef]; done))) | ((refine takeY_step (v := ?_) (a' := ?_) ?_ ?_ ?_ ?_); (rotate_left 2); (· (simp [Region.wanted, yielded, Go.undef]; done)); (· (intro w' hS'; go_simp; try (with_reducible rfl))))); (· (simp only [List.getElem_toArray, List.getElem_cons_zero, List.getElem_cons_succ, Act.put, List.setIfInBounds_toArray, List.set_cons_zero, List.set_cons_succ]; exact rfl)))
       refine takeY_nil ?_
       rw [← hq0]
       clear hq0
       refine gC_one (i := 13) (by kernel_rfl) rfl ?_
       ·go_wp2_with (go_at_call 87; refine (hS3.out _ _ _ ((rhb.below kwxwu).below bq0) ((ra.below kwwu).below bq0)).mono ?_; rintro e q1 ⟨A5, c5, rfl, hl5, hf5, hbq1⟩)
        have bq1 : Below wu.heap.size wu q1 := bq0.trans (hbq1.mono bq0.size)
        have lq1 := hbq1.size
        refine mid_intro bq1 ?_
        refine gC_one (i := 14) (by kernel_rfl) rfl ?_
        ·go_wp2_with (go_at_call 86; refine (hC2.out _ _ _ ((hrc.below kwwu).below bq1) ((rb.below kwwu).below bq1) hf5.rd).mono ?_; rintro e q2 ⟨he, hbq2⟩; obtain rfl : e = .returned (.int .i64 (cdB b)) := he)
         have bq2 : Below wu.heap.size wu q2 := bq1.trans (hbq2.mono bq1.size)
         have lq2 := hbq2.size
         refine mid_intro bq2 ?_
         refine gC_end [15] (lB := [_]) (by simp) (by kernel_rfl) (by kernel_rfl) rfl ?_
         simp only [List.getElem_toArray, List.getElem_cons_zero, List.getElem_cons_succ, Act.put, List.setIfInBounds_toArray, List.set_cons_zero, List.set_cons_succ]
         have hTq2 := hTwu.keep bq2
         have hZq2 := hZwu.keep bq2
         have hKq2 := hKwu.keep bq2
         have kwq2 := kwwu.trans (bq2.mono kwwu.size)
         have kwxq2 := kwxwu.trans (bq2.mono kwxwu.size)
         have kwuq2 := bq2
         obtain ⟨d0, d1, d2⟩ := hZq2.three
         have e0 := hZq2.frozen 0
         have e1 := hZq2.frozen 1
         have e2 := hZq2.frozen 2
         have lz := hZq2.lt
         have mf1 := Keeps.of_below kwq2 _ _ f1
         have mf2 := Keeps.of_below kwq2 _ _ f2
         have mf3 := Keeps.of_below kwq2 _ _ f3
         have t2 := hTq2.three.2.2
         go_wp2_with fail
         refine bodyPost_ret (v := .tuple #[.agg #[.int .i64 kf, .int .i64 nf, .slice Af sf.length cf], .int .i64 (cdB b)]) (by simp [results, Try.results77, go_sem, d0, d1, d2]) rfl ⟨kf, nf, Af, sf.length, cf, rfl, ?_⟩
         exact ((kwq2.setCell (by simp <;> omega) _).setCell (by simp <;> omega) _).setCell (by simp <;> omega) _
     ·have hC2 := hide (fun (A2 : Option Addr) (c2 : Nat) (w : World) (hrc : Rd w C 0 ctx) (hrt : Rd w Ab 0 sb) (hr2 : Rd w A2 0 s5) => sCheck_any ih ctx C cc kb nb sb Ab cb k5 n5 s5 A2 c2 _ w h4 hvb hvc (by omega) hrc hrt h5z hr2)
      injection hs with hs
      subst hs
      clear h1 h2 h3 h4 h5 hvf hva hvb hvc ih hv3 hvhb
      go_enter Try.func77, Try.ntmps77
      go_upto_region 9 with (first
       | (go_at_call 70; have _t := tok; refine (hH.out _ (rf.below kww1)).mono ?_; rintro e w2 ⟨A3, c3, rfl, hl3, r3, hb2⟩; have hTw2 := hTw1.keep hb2; have hZw2 := hZw1.keep hb2; have kww2 := kww1.trans (hb2.mono kww1.size); have hK3 := Blk.new_ w2 25 #[.int .i64 13, .int .i64 n3, .slice A3 2 c3] rfl; have y0 := hK3.three.1)
       | (go_at_call 62; refine (hS1.out _ ((hrc.alloc _).alloc _) ((rf.alloc _).alloc _)).mono ?_; rintro e w1 ⟨rfl, hb1⟩; have hTw1 : Blk w1 w.heap.size #[.int .i64 k, .int .i64 n, .slice (some ⟨bk, ok, none⟩) 3 c] := ((Blk.new_ w 25 #[.int .i64 k, .int .i64 n, .slice (some ⟨bk, ok, none⟩) 3 c] rfl).alloc _).keep hb1; have hZw1 : Blk w1 (w.heap.size + 1) #[.int .i64 0, .int .i64 0, .slice none 0 0] := (Blk.new_ _ 25 #[.int .i64 0, .int .i64 0, .slice none 0 0] (by simp)).keep hb1; have kww1 : Below w.heap.size w w1 := (((Below.refl _ _).alloc (by simp <;> omega) _).alloc (by simp <;> omega) _).trans (hb1.mono (by simp <;> omega)); have ltw := hTw1.lt; have mf1 := Keeps.of_below kww1 _ _ f1; have mf2 := Keeps.of_below kww1 _ _ f2; have mf3 := Keeps.of_below kww1 _ _ f3; have t2 := hTw1.three.2.2; have tok := trivial))
      refine name_world ?_
      intro wx hwwx
      have hTwx : Blk wx w.heap.size #[.int .i64 k, .int .i64 n, .slice (some ⟨bk, ok, none⟩) 3 c] := by rw [hwwx]; exact (hTw2.alloc _)
      have hZwx : Blk wx (w.heap.size + 1) #[.int .i64 0, .int .i64 0, .slice none 0 0] := by rw [hwwx]; exact (hZw2.alloc _)
      have hKwx : Blk wx w2.heap.size #[.int .i64 13, .int .i64 n3, .slice A3 2 c3] := by rw [hwwx]; exact (Blk.new_ _ 25 _ (by simp))
      have kwwx : Below w.heap.size w wx := by rw [hwwx]; exact (kww2.alloc (by have := kww2.size; simp <;> omega) _)
      have r3x : Rd wx A3 0 [.mk kha nha sha, .mk khb nhb shb] := by rw [hwwx]; exact r3.alloc _
      clear hwwx
      obtain ⟨bh, oh, x1, x2, x3, Aha, cha, rfl, hk1, ha1, ha2, ha3, hlha, rha⟩ := r3x.at_ (j := 0) (by simp)
      injection hk1 with e1 e2 e3
      subst e1 e2 e3
      obtain ⟨bb, ob, x1, x2, x3, Ahb, chb, hAb, hk1, hb1, hb2, hb3, hlhb, rhb⟩ := r3x.at_ (j := 1) (by simp)
      injection hk1 with e1 e2 e3
      injection hAb with hA
      injection hA with hA1 hA2
      subst e1 e2 e3 hA1 hA2
      simp only [Nat.zero_mul, Nat.add_zero, Nat.one_mul, Nat.reduceMul] at ha1 ha2 ha3 hb1 hb2 hb3
      replace hKwx : Blk wx w2.heap.size #[.int .i64 13, .int .i64 n3, .slice (some ⟨bh, oh, none⟩) 2 c3] := hKwx
      clear y0 mf1 mf2 mf3 t2
      have v2 := rule_of hTwx.three.2.2
      have kq := rule_of hKwx.three.2.2
      have ua1 := rule_of (Keeps.of_below kwwx _ _ a1)
      have ua2 := rule_of (Keeps.of_below kwwx _ _ a2)
      have ua3 := rule_of (Keeps.of_below kwwx _ _ a3)
      have uha1 := rule_of ha1
      have uha2 := rule_of ha2
      have uha3 := rule_of ha3
      obtain ⟨q0, hq0⟩ : ∃ q0, q0 = wx.drew := ⟨_, rfl⟩
      have bq0 : Below wx.heap.size wx q0 := by rw [hq0]; exact (Below.refl _ _).drew
      refine gC_start (fun w' => Below wx.heap.size wx w') [10] 11 (by kernel_rfl) rfl ?_
      refine gC_take [0, 1, 2, 3, 4, 5, 6, 7, 8] (f := 2) (l' := #[true, true, true, true, true, true, true, true, true, false, false]) (lT := [_, _, _, _, _, _, _, _, _]) (by rw [← hq0]; exact bq0) rfl (by kernel_rfl) (by kernel_rfl) (by kernel_rfl) rfl (fun _ _ d _ _ h => by cases d <;> exact h) ?_
      repeat ((first | ((refine takeY_skip (a' := ?_) ?_ ?_ ?_); (rotate_left); (· (simp [Region.wanted, yielded, Go.undef]; done))) | ((refine takeY_step (v := ?_) (a' := ?_) ?_ ?_ ?_ ?_); (rotate_left 2); (· (simp [Region.wanted, yielded, Go.undef]; done)); (· (intro w' hS'; go_simp; try (with_reducible rfl))))); (· (simp only [List.getElem_toArray, List.getElem_cons_zero, List.getElem_cons_succ, Act.put, List.setIfInBounds_toArray, List.set_cons_zero, List.set_cons_succ]; exact rfl)))
      refine takeY_nil ?_
      rw [← hq0]
      clear hq0
      refine gC_one (i := 9) (by kernel_rfl) rfl ?_
      ·go_wp2_with (go_at_call 86; refine (hC1.out _ _ _ ((hrc.below kwwx).below bq0) ((ra.below kwwx).below bq0) (rha.below bq0)).mono ?_; rintro e q1 ⟨he, hbq1⟩; obtain rfl : e = .returned (.int .i64 0) := he)
       have bq1 : Below wx.heap.size wx q1 := bq0.trans (hbq1.mono bq0.size)
       have lq1 := hbq1.size
       refine mid_intro bq1 ?_
       refine gC_end [10] (lB := [_]) (by simp) (by kernel_rfl) (by kernel_rfl) rfl ?_
       simp only [List.getElem_toArray, List.getElem_cons_zero, List.getElem_cons_succ, Act.put, List.setIfInBounds_toArray, List.set_cons_zero, List.set_cons_succ]
       have hTq1 := hTwx.keep bq1
       have hZq1 := hZwx.keep bq1
       have hKq1 := hKwx.keep bq1
       have kwq1 := kwwx.trans (bq1.mono kwwx.size)
       have kwxq1 := bq1
       go_upto_region 11 with fail
       refine name_world ?_
       intro wu hwwu
       have hTwu : Blk wu w.heap.size #[.int .i64 k, .int .i64 n, .slice (some ⟨bk, ok, none⟩) 3 c] := by rw [hwwu]; exact hTq1
       have hZwu : Blk wu (w.heap.size + 1) #[.int .i64 0, .int .i64 0, .slice none 0 0] := by rw [hwwu]; exact hZq1
       have hKwu : Blk wu w2.heap.size #[.int .i64 13, .int .i64 n3, .slice (some ⟨bh, oh, none⟩) 2 c3] := by rw [hwwu]; exact hKq1
       have kwwu : Below w.heap.size w wu := by rw [hwwu]; exact kwq1
       have kwxwu : Below wx.heap.size wx wu := by rw [hwwu]; exact kwxq1
       clear hwwu
       clear v2 kq ua1 ua2 ua3 uha1 uha2 uha3
       have v2 := rule_of hTwu.three.2.2
       have kq := rule_of hKwu.three.2.2
       have ub1 := rule_of (Keeps.of_below kwwu _ _ b1)
       have ub2 := rule_of (Keeps.of_below kwwu _ _ b2)
       have ub3 := rule_of (Keeps.of_below kwwu _ _ b3)
       have uhb1 := rule_of (Keeps.of_below kwxwu _ _ hb1)
       have uhb2 := rule_of (Keeps.of_below kwxwu _ _ hb2)
       have uhb3 := rule_of (Keeps.of_below kwxwu _ _ hb3)
       have ua1 := rule_of (Keeps.of_below kwwu _ _ a1)
       have ua2 := rule_of (Keeps.of_below kwwu _ _ a2)
       have ua3 := rule_of (Keeps.of_below kwwu _ _ a3)
       obtain ⟨q0, hq0⟩ : ∃ q0, q0 = wu.drew := ⟨_, rfl⟩
       have bq0 : Below wu.heap.size wu q0 := by rw [hq0]; exact (Below.refl _ _).drew
       refine gC_start (fun w' => Below wu.heap.size wu w') [15] 16 (by kernel_rfl) rfl ?_
       refine gC_take [0, 1, 2, 3, 4, 5, 6, 7, 8, 9, 10, 11, 12] (f := 3) (l' := #[true, true, true, true, true, true, true, true, true, true, true, true, true, false, false, false]) (lT := [_, _, _, _, _, _, _, _, _, _, _, _, _]) (by rw [← hq0]; exact bq0) rfl (by kernel_rfl) (by kernel_rfl) (by kernel_rfl) rfl (fun _ _ d _ _ h => by cases d <;> exact h) ?_
       repeat ((first | ((refine takeY_skip (a' := ?_) ?_ ?_ ?_); (rotate_left); (· (simp [Region.wanted, yielded, Go.undef]; done))) | ((refine takeY_step (v := ?_) (a' := ?_) ?_ ?_ ?_ ?_); (rotate_left 2); (· (simp [Region.wanted, yielded, Go.undef]; done)); (· (intro w' hS'; go_simp; try (with_reducible rfl))))); (· (simp only [List.getElem_toArray, List.getElem_cons_zero, List.getElem_cons_succ, Act.put, List.setIfInBounds_toArray, List.set_cons_zero, List.set_cons_succ]; exact rfl)))
       refine takeY_nil ?_
       rw [← hq0]
       clear hq0
       refine gC_one (i := 13) (by kernel_rfl) rfl ?_
       ·go_wp2_with (go_at_call 87; refine (hS3.out _ _ _ ((rhb.below kwxwu).below bq0) ((ra.below kwwu).below bq0)).mono ?_; rintro e q1 ⟨A5, c5, rfl, hl5, hf5, hbq1⟩)
        have bq1 : Below wu.heap.size wu q1 := bq0.trans (hbq1.mono bq0.size)
        have lq1 := hbq1.size
        refine mid_intro bq1 ?_
        refine gC_one (i := 14) (by kernel_rfl) rfl ?_
        ·go_wp2_with (go_at_call 86; refine (hC2.out _ _ _ ((hrc.below kwwu).below bq1) ((rb.below kwwu).below bq1) hf5.rd).mono ?_; rintro e q2 ⟨he, hbq2⟩; obtain rfl : e = .returned (.int .i64 0) := he)
         have bq2 : Below wu.heap.size wu q2 := bq1.trans (hbq2.mono bq1.size)
         have lq2 := hbq2.size
         refine mid_intro bq2 ?_
         refine gC_end [15] (lB := [_]) (by simp) (by kernel_rfl) (by kernel_rfl) rfl ?_
         simp only [List.getElem_toArray, List.getElem_cons_zero, List.getElem_cons_succ, Act.put, List.setIfInBounds_toArray, List.set_cons_zero, List.set_cons_succ]
         have hTq2 := hTwu.keep bq2
         have hZq2 := hZwu.keep bq2
         have hKq2 := hKwu.keep bq2
         have kwq2 := kwwu.trans (bq2.mono kwwu.size)
         have kwxq2 := kwxwu.trans (bq2.mono kwxwu.size)
         have kwuq2 := bq2
         obtain ⟨d0, d1, d2⟩ := hZq2.three
         have e0 := hZq2.frozen 0
         have e1 := hZq2.frozen 1
         have e2 := hZq2.frozen 2
         have lz := hZq2.lt
         have mf1 := Keeps.of_below kwq2 _ _ f1
         have mf2 := Keeps.of_below kwq2 _ _ f2
         have mf3 := Keeps.of_below kwq2 _ _ f3
         have t2 := hTq2.three.2.2
         go_wp2_with fail
         refine bodyPost_ret (v := .tuple #[.agg #[.int .i64 kf, .int .i64 nf, .slice Af sf.length cf], .int .i64 0]) (by simp [results, Try.results77, go_sem, d0, d1, d2]) rfl ⟨Af, cf, rfl, hlf, rd_set0 hZq2 hvf'.out (rf.below kwq2) _ _ _, ?_⟩
         exact ((kwq2.setCell (by simp <;> omega) _).setCell (by simp <;> omega) _).setCell (by simp <;> omega) _
   ·rw [if_neg (show ¬ (Tm.mk k3 n3 s3).k = 13 from hk)] at hs
    injection hs with hs
    subst hs
    have qk : (k3 != 13) = true := by simpa using hk
    clear h1 h2 hvf hva hvb hvc ih hv3 hk
    go_enter Try.func77, Try.ntmps77
    go_wp2_with (first
     | (go_at_call 70; have _t := tok; refine (hH.out _ (rf.below kww1)).mono ?_; rintro e w2 ⟨A3, c3, rfl, hl3, r3, hb2⟩; have hTw2 := hTw1.keep hb2; have hZw2 := hZw1.keep hb2; have kww2 := kww1.trans (hb2.mono kww1.size); have g3 := kww2.alloc kww2.size (.cells #[.int .i64 k3, .int .i64 n3, .slice A3 s3.length c3] 25); have hZ3 := hZw2.alloc (.cells #[.int .i64 k3, .int .i64 n3, .slice A3 s3.length c3] 25); have hK3 := Blk.new_ w2 25 #[.int .i64 k3, .int .i64 n3, .slice A3 s3.length c3] rfl; obtain ⟨y0, y1, y2⟩ := hK3.three; obtain ⟨d0, d1, d2⟩ := hZ3.three; have e0 := hZ3.frozen 0; have e1 := hZ3.frozen 1; have e2 := hZ3.frozen 2; have lz := hZ3.lt)
     | (go_at_call 62; refine (hS1.out _ ((hrc.alloc _).alloc _) ((rf.alloc _).alloc _)).mono ?_; rintro e w1 ⟨rfl, hb1⟩; have hTw1 : Blk w1 w.heap.size #[.int .i64 k, .int .i64 n, .slice (some ⟨bk, ok, none⟩) 3 c] := ((Blk.new_ w 25 #[.int .i64 k, .int .i64 n, .slice (some ⟨bk, ok, none⟩) 3 c] rfl).alloc _).keep hb1; have hZw1 : Blk w1 (w.heap.size + 1) #[.int .i64 0, .int .i64 0, .slice none 0 0] := (Blk.new_ _ 25 #[.int .i64 0, .int .i64 0, .slice none 0 0] (by simp)).keep hb1; have kww1 : Below w.heap.size w w1 := (((Below.refl _ _).alloc (by simp <;> omega) _).alloc (by simp <;> omega) _).trans (hb1.mono (by simp <;> omega)); have ltw := hTw1.lt; have mf1 := Keeps.of_below kww1 _ _ f1; have mf2 := Keeps.of_below kww1 _ _ f2; have mf3 := Keeps.of_below kww1 _ _ f3; have t2 := hTw1.three.2.2; have tok := trivial))
    refine bodyPost_ret (v := .tuple #[.agg #[.int .i64 0, .int .i64 0, .slice none 0 0], .int .i64 1]) (by simp [results, Try.results77, go_sem, d0, d1, d2]) rfl ⟨0, 0, none, 0, 0, rfl, ?_⟩
    exact ((g3.setCell (by simp <;> omega) _).setCell (by simp <;> omega) _).setCell (by simp <;> omega) _
end Go.Proofs.Ytddkehjdjfmhmaa
