/-
 Contracts of the functions that the law reaches, and plain lemmas. No condition.
-/
import Derived.Test.YtddkehjdjfmhmaaK4
import Derived.Test.YtddkehjdjfmhmaaK9
import Derived.Test.YtddkehjdjfmhmaaK10
namespace Go.Proofs.Ytddkehjdjfmhmaa
set_option linter.unusedSimpArgs false
set_option linter.unusedVariables false
open Go.RowKit
def rdT (t : Tm) : Bool := decide (rdx t.k t.kids ≠ 0)
set_option maxHeartbeats 8000000 in
set_option maxRecDepth 100000 in
theorem l8Red_any (B : Nat) (N : Nat) : ∀ (k n : Int) (ks : List Tm) (A : Option Addr) (c : Nat) (p : List Int) (pb cp : Nat) (ps : List (List Int)) (V : Option Addr) (cv : Nat) (w : World), validT (.mk k n ks) = true → sizes ks < N → sizes ks ≤ 1000 → p.length + sizes ks ≤ 2000 → ps.length + sizes ks + 1 ≤ 1000000 → B ≤ w.heap.size → RdP (fun b => b < B) w A 0 ks → RdI w (some ⟨pb, 0, none⟩) p → p.length ≤ cp → pb < w.heap.size → (Value.slice V ps.length cv).ownBlock ≠ some pb → RowP B w (.slice V ps.length cv) ps →
  Calls Try.prog 55 #[.slice V ps.length cv, .agg #[.int .i64 k, .int .i64 n, .slice A ks.length c], .slice (some ⟨pb, 0, none⟩) p.length cp, .bool true] w (GotPl B (.slice V ps.length cv) w (ps ++ plT rdT p (.mk k n ks))) := by
 induction N with
 | zero => intro k n ks A c p pb cp ps V cv w hv hN; exact absurd hN (Nat.not_lt_zero _)
 | succ N ih =>
 intro k n ks A c p pb cp ps V cv w hv hN hM hpl hps hB hr hi hcp hpb hvp hR
 have hlen := length_le_sizes ks
 have ha' := hide (validT_len2 hv)
 have hv' := hide hv
 clear hv
 have how := hR.own
 have hxx : ∃ P0 : List (List Int), P0 = (if rdT (.mk k n ks) = true then [p] else []) := ⟨_, rfl⟩
 obtain ⟨P0, hP0⟩ := hxx
 have hpt : plT rdT p (.mk k n ks) = P0 ++ plL rdT p 0 ks := by rw [plT, hP0]
 have hpt' := hide hpt
 clear hpt
 have hP1 : P0.length ≤ 1 := by rw [hP0]; split <;> simp
 by_cases hx : rdx k ks = 0
 ·have hz' := hide hx
  have hP2 : P0 = [] := by rw [hP0, if_neg]; simp [rdT, Tm.k, Tm.kids, hx]
  clear hx hP0
  have tokA := trivial
  go_enter Try.func55, Try.ntmps55
  go_wp2_with (go_at_call 64; have _t := tokA; refine (sRedex_any k n ks A c _ (by omega) ha'.out (hr.rd.alloc _)).mono ?_; rw [hz'.out]; rintro e w0 ⟨rfl, hb0⟩; have hK0 : Blk w0 w.heap.size #[.int .i64 k, .int .i64 n, .slice A ks.length c] := (Blk.new_ w 25 _ rfl).keep hb0; have g0 : Below w.heap.size w w0 := (by_alloc (by_refl _) _).trans (hb0.mono (by simp)); have hi0 : RdI w0 (some ⟨pb, 0, none⟩) p := hi.below g0; have hR0 : RowP B w0 (.slice V ps.length cv) ps := hR.below g0; have l0 := hK0.lt; have hr0 : RdP (fun b => b < B) w0 A 0 ks := hr.below g0; have s0 := g0.size; obtain ⟨x0, x1, x2⟩ := hK0.three; have how0 := hR0.own; clear tokA _t; have tokB := trivial)
  have g0g := only_below (World.grownBy.refl w (Value.slice V ps.length cv).ownBlock) g0
  have n0 : (Value.slice V ps.length cv).ownBlock ≠ some w.heap.size := fun e => by have := (how _ e).2; omega
  go_loopw [0, 9] (fun vv iv wr => ∃ (j : Nat) (A5 : Option Addr) (c5 : Nat) (ps5 : List (List Int)), j ≤ ks.length ∧ iv = .int .i64 j ∧ vv = .slice A5 ps5.length c5 ∧ ps5 = ps ++ P0 ++ plL rdT p 0 (ks.take j) ∧ RowP B wr (.slice A5 ps5.length c5) ps5 ∧ Blk wr w.heap.size #[.int .i64 k, .int .i64 n, .slice A ks.length c] ∧ w.grownBy wr (Value.slice V ps.length cv).ownBlock ∧ OwnTo w (.slice V ps.length cv) (.slice A5 ps5.length c5) ∧ (Value.slice A5 ps5.length c5).ownBlock ≠ some w.heap.size)
   (fun _ iv _ => ks.length - (intOf iv).toNat)
  case atStart => exact ⟨0, V, cv, ps, Nat.zero_le _, rfl, rfl, by rw [hP2]; simp [plL], hR0, hK0, g0g, .inl rfl, n0⟩
  case round =>
   obtain ⟨j, A5, c5, ps5, hj, rfl, rfl, hps5, hR5, hK5, g5, o5, n5⟩ := hrel
   have hpl5 : ps5.length ≤ ps.length + 1 + sizes ks := by rw [hps5]; have := plL_le rdT (ks.take j) p 0; have := sizes_take_leC ks j; rw [List.length_append, List.length_append]; omega
   have hps5' := hide hps5
   clear hps5
   have s5 := g5.size
   have how5 := hR5.own
   have lK := hK5.lt
   have hr5 : RdP (fun b => b < B) _ A 0 ks := hr.grown g5 (fun b hb e => by have := (how b e.symm).1; omega)
   have hi5 := hi.grown g5 (fun a ha e => by injection ha with ha; subst ha; exact hvp e)
   have hvp5 : (Value.slice A5 ps5.length c5).ownBlock ≠ some pb := o5.ne hpb hvp
   obtain ⟨x0, x1, x2⟩ := hK5.three
   by_cases hlt : j < ks.length
   ·have hszj := sizes_takeC hlt
    have hle := sizes_take_leC ks (j + 1)
    obtain ⟨b, off, k', n', ks', A', c', rfl, hkj, hbl, hc1, hc2, hc3', hl', hr'⟩ := hr5.atp hlt
    rw [hkj] at hszj
    have hvk := validT_kid hv'.out (List.getElem_mem hlt)
    rw [hkj] at hvk
    have hvk' := hide hvk
    clear hvk
    simp only [Tm.size] at hszj
    have hplt := plL_take rdT p hlt
    rw [hkj] at hplt
    obtain ⟨q, hq0⟩ : ∃ q, p ++ [(j : Int)] = q := ⟨_, rfl⟩
    have hqq := hide hq0
    have hql : q.length ≤ p.length + 1 := by rw [← hq0]; simp
    have hqn : q ≠ [] := by rw [← hq0]; simp
    have hqn' := hide hqn
    rw [hq0] at hplt
    clear hq0 hqn
    have hplt' := hide hplt
    have hq := plL_le rdT (ks.take j) p 0
    have hlps : ps5.length ≤ ps.length + 1 + sizes (ks.take j) := by rw [hps5'.out, List.length_append, List.length_append]; omega
    have hlj : (j : Int) < (ks.length : Int) := by omega
    clear hplt hkj
    go_upto_region 6 with fail
    have y0 := rule_of hK5.three.2.2
    have y1 := rule_of hc1
    have y2 := rule_of hc2
    have y3 := rule_of hc3'
    clear x0 x1 x2 hc1 hc2 hc3'
    obtain ⟨q0, hq0⟩ : ∃ q0, q0 = wr.drew := ⟨_, rfl⟩
    have bq0 : Below wr.heap.size wr q0 := by rw [hq0]; exact by_drew (by_refl _)
    refine gC_start (fun w' => Below wr.heap.size wr w') [13, 14] 15 (by kernel_rfl) rfl ?_
    refine gC_take [0, 1, 2, 3, 4, 5, 7, 9, 12] (f := 6) (l' := #[true, true, true, true, true, true, false, true, false, true, false, false, true, false, false]) (lT := [_, _, _, _, _, _, _, _, _]) (by rw [← hq0]; exact bq0) rfl (by kernel_rfl) (by kernel_rfl) (by kernel_rfl) rfl (fun _ _ d _ _ h => by cases d <;> exact h) ?_
    repeat ((first | ((refine takeY_skip (a' := ?_) ?_ ?_ ?_); (rotate_left); (· (simp [Region.wanted, yielded]; done))) | ((refine takeY_step (v := ?_) (a' := ?_) ?_ ?_ ?_ ?_); (rotate_left 2); (· (simp [Region.wanted, yielded]; done)); (· (intro w' hS'; go_simp; try (with_reducible rfl))))); (· (simp only [List.getElem_toArray, List.getElem_cons_zero, List.getElem_cons_succ, Act.put, List.setIfInBounds_toArray, List.set_cons_zero, List.set_cons_succ]; exact rfl)))
    refine takeY_nil ?_
    rw [← hq0]
    clear hq0 y0 y1 y2 y3
    refine gC_two (i := 6) (j := 10) (by kernel_rfl) rfl rfl ?_ ?_
    ·go_wp2_with fail
     refine name_midw ?_
     intro p1 hn
     have bp1 : Below wr.heap.size wr p1 := by rw [hn]; exact by_alloc bq0 _
     have sp1 := bq0.size
     have ltp1 : q0.heap.size < p1.heap.size := by rw [hn]; simp
     have ep1 : RowI wr.heap.size p1 (.slice (some ⟨q0.heap.size, 0, none⟩) 0 0) [] := by rw [hn]; exact RowI.empty q0 bq0.size
     clear hn
     refine mid_intro bp1 ?_
     refine gC_two (i := 8) (j := 10) (by kernel_rfl) rfl rfl ?_ ?_
     ·have sp2 := bp1.size
      refine wpList_append_ints (B := wr.heap.size) (ys := p) (ad := ⟨pb, 0, none⟩) (c := cp) ep1 sp2 (by simp; omega) (hi5.below bp1).addr rfl (.tmp 36) (.tmp 37) rfl rfl rfl ?_
      intro vp2 p2 rp2 hp2 hgp2
      rw [List.nil_append] at rp2
      obtain ⟨Ap2, cp2, hvp2, -, -⟩ := rp2.form2
      subst hvp2
      go_wp2_with fail
      have bp2 : Below wr.heap.size wr p2 := bp1.trans hp2
      refine mid_intro bp2 ?_
      refine gC_one (i := 10) (by kernel_rfl) rfl ?_
      ·go_wp2_with fail
       refine name_midw ?_
       intro p3 hn
       have bp3 : Below wr.heap.size wr p3 := by rw [hn]; exact by_alloc bp2 _
       have sp3 := bp2.size
       have ltp3 : p2.heap.size < p3.heap.size := by rw [hn]; simp
       have zp3 : Blk p3 p2.heap.size #[.int .i64 j] := by rw [hn]; exact Blk.new_ _ 3 _ rfl
       have rp3 := rp2.alloc (.cells #[.int .i64 j] 3)
       rw [← hn] at rp3
       clear hn
       refine mid_intro bp3 ?_
       refine gC_one (i := 11) (by kernel_rfl) rfl ?_
       ·have sp4 := bp3.size
        refine wpList_append_ints (B := wr.heap.size) (xs := p) (ys := [(j : Int)]) (ad := ⟨p2.heap.size, 0, none⟩) (c := 1) rp3 sp4 (by simp; omega) zp3.oneI rfl (.tmp 38) (.tmp 40) rfl rfl rfl ?_
        intro vp4 p4 rp4 hp4 hgp4
        rw [hqq.out] at rp4
        obtain ⟨gp4, cp4, hvp4, hip4, hgBp4, hglp4, hgcp4⟩ := rp4.some_ hqn'.out
        subst hvp4
        go_wp2_with fail
        have bp4 : Below wr.heap.size wr p4 := bp3.trans hp4
        refine mid_intro bp4 ?_
        refine gC_end [13, 14] (lB := [_, _]) (by simp) (by kernel_rfl) (by kernel_rfl) rfl ?_
        have hRw := hR5.below bp4
        have sw := bp4.size
        go_wp2_with (go_at_call 55; refine (ih k' n' ks' A' c' q gp4 cp4 ps5 A5 c5 p4 hvk'.out (by omega) (by omega) (by omega) (by omega) (by omega) (hr'.below bp4) hip4 hgcp4 hglp4 (fun e => by have := (how5 _ e).2; omega) hRw).mono ?_; rintro e w9 ⟨A9, c9, rfl, hR9, hg9, ho9⟩)
        go_roundw
        case rel =>
         have gw : w.grownBy p4 (Value.slice V ps.length cv).ownBlock := only_below g5 bp4
         refine ⟨j + 1, A9, c9, _, hlt, by go_num, by rw [List.length_append], ?_, hR9, ?_, grown_own gw o5 hg9, o5.trans ho9 gw.size, ?_⟩
         ·rw [hplt'.out, ← List.append_assoc, ← hps5'.out]
         ·exact (hK5.keep bp4).grown hg9 (fun e => n5 e.symm)
         ·exact ho9.ne (by omega) n5
        case measure => simp [intOf]; omega
     ·go_wp2_with fail
      refine name_midw ?_
      intro p5 hn
      have bp5 : Below wr.heap.size wr p5 := by rw [hn]; exact by_alloc bp1 _
      have sp5 := bp1.size
      have ltp5 : p1.heap.size < p5.heap.size := by rw [hn]; simp
      have zp5 : Blk p5 p1.heap.size #[.int .i64 j] := by rw [hn]; exact Blk.new_ _ 3 _ rfl
      have ep5 := ep1.alloc (.cells #[.int .i64 j] 3)
      rw [← hn] at ep5
      clear hn
      refine mid_intro bp5 ?_
      refine gC_one (i := 8) (by kernel_rfl) rfl ?_
      ·have sp6 := bp5.size
       refine wpList_append_ints (B := wr.heap.size) (ys := p) (ad := ⟨pb, 0, none⟩) (c := cp) ep5 sp6 (by simp; omega) (hi5.below bp5).addr rfl (.tmp 36) (.tmp 37) rfl rfl rfl ?_
       intro vp6 p6 rp6 hp6 hgp6
       rw [List.nil_append] at rp6
       obtain ⟨Ap6, cp6, hvp6, -, -⟩ := rp6.form2
       subst hvp6
       go_wp2_with fail
       have bp6 : Below wr.heap.size wr p6 := bp5.trans hp6
       have zp6 := zp5.grown hgp6 (by simp [Value.ownBlock]; omega)
       refine mid_intro bp6 ?_
       refine gC_one (i := 11) (by kernel_rfl) rfl ?_
       ·have sp7 := bp6.size
        refine wpList_append_ints (B := wr.heap.size) (xs := p) (ys := [(j : Int)]) (ad := ⟨p1.heap.size, 0, none⟩) (c := 1) rp6 sp7 (by simp; omega) zp6.oneI rfl (.tmp 38) (.tmp 40) rfl rfl rfl ?_
        intro vp7 p7 rp7 hp7 hgp7
        rw [hqq.out] at rp7
        obtain ⟨gp7, cp7, hvp7, hip7, hgBp7, hglp7, hgcp7⟩ := rp7.some_ hqn'.out
        subst hvp7
        go_wp2_with fail
        have bp7 : Below wr.heap.size wr p7 := bp6.trans hp7
        refine mid_intro bp7 ?_
        refine gC_end [13, 14] (lB := [_, _]) (by simp) (by kernel_rfl) (by kernel_rfl) rfl ?_
        have hRw := hR5.below bp7
        have sw := bp7.size
        go_wp2_with (go_at_call 55; refine (ih k' n' ks' A' c' q gp7 cp7 ps5 A5 c5 p7 hvk'.out (by omega) (by omega) (by omega) (by omega) (by omega) (hr'.below bp7) hip7 hgcp7 hglp7 (fun e => by have := (how5 _ e).2; omega) hRw).mono ?_; rintro e w9 ⟨A9, c9, rfl, hR9, hg9, ho9⟩)
        go_roundw
        case rel =>
         have gw : w.grownBy p7 (Value.slice V ps.length cv).ownBlock := only_below g5 bp7
         refine ⟨j + 1, A9, c9, _, hlt, by go_num, by rw [List.length_append], ?_, hR9, ?_, grown_own gw o5 hg9, o5.trans ho9 gw.size, ?_⟩
         ·rw [hplt'.out, ← List.append_assoc, ← hps5'.out]
         ·exact (hK5.keep bp7).grown hg9 (fun e => n5 e.symm)
         ·exact ho9.ne (by omega) n5
        case measure => simp [intOf]; omega
    ·go_wp2_with fail
     refine name_midw ?_
     intro p8 hn
     have bp8 : Below wr.heap.size wr p8 := by rw [hn]; exact by_alloc bq0 _
     have sp8 := bq0.size
     have ltp8 : q0.heap.size < p8.heap.size := by rw [hn]; simp
     have zp8 : Blk p8 q0.heap.size #[.int .i64 j] := by rw [hn]; exact Blk.new_ _ 3 _ rfl
     clear hn
     refine mid_intro bp8 ?_
     refine gC_one (i := 6) (by kernel_rfl) rfl ?_
     ·go_wp2_with fail
      refine name_midw ?_
      intro p9 hn
      have bp9 : Below wr.heap.size wr p9 := by rw [hn]; exact by_alloc bp8 _
      have sp9 := bp8.size
      have ltp9 : p8.heap.size < p9.heap.size := by rw [hn]; simp
      have ep9 : RowI wr.heap.size p9 (.slice (some ⟨p8.heap.size, 0, none⟩) 0 0) [] := by rw [hn]; exact RowI.empty p8 bp8.size
      have zzp9 := zp8.alloc (.cells #[] 3)
      rw [← hn] at zzp9
      clear hn
      refine mid_intro bp9 ?_
      refine gC_one (i := 8) (by kernel_rfl) rfl ?_
      ·have sp10 := bp9.size
       refine wpList_append_ints (B := wr.heap.size) (ys := p) (ad := ⟨pb, 0, none⟩) (c := cp) ep9 sp10 (by simp; omega) (hi5.below bp9).addr rfl (.tmp 36) (.tmp 37) rfl rfl rfl ?_
       intro vp10 p10 rp10 hp10 hgp10
       rw [List.nil_append] at rp10
       obtain ⟨Ap10, cp10, hvp10, -, -⟩ := rp10.form2
       subst hvp10
       go_wp2_with fail
       have bp10 : Below wr.heap.size wr p10 := bp9.trans hp10
       have zp10 := zzp9.grown hgp10 (by simp [Value.ownBlock]; omega)
       refine mid_intro bp10 ?_
       refine gC_one (i := 11) (by kernel_rfl) rfl ?_
       ·have sp11 := bp10.size
        refine wpList_append_ints (B := wr.heap.size) (xs := p) (ys := [(j : Int)]) (ad := ⟨q0.heap.size, 0, none⟩) (c := 1) rp10 sp11 (by simp; omega) zp10.oneI rfl (.tmp 38) (.tmp 40) rfl rfl rfl ?_
        intro vp11 p11 rp11 hp11 hgp11
        rw [hqq.out] at rp11
        obtain ⟨gp11, cp11, hvp11, hip11, hgBp11, hglp11, hgcp11⟩ := rp11.some_ hqn'.out
        subst hvp11
        go_wp2_with fail
        have bp11 : Below wr.heap.size wr p11 := bp10.trans hp11
        refine mid_intro bp11 ?_
        refine gC_end [13, 14] (lB := [_, _]) (by simp) (by kernel_rfl) (by kernel_rfl) rfl ?_
        have hRw := hR5.below bp11
        have sw := bp11.size
        go_wp2_with (go_at_call 55; refine (ih k' n' ks' A' c' q gp11 cp11 ps5 A5 c5 p11 hvk'.out (by omega) (by omega) (by omega) (by omega) (by omega) (hr'.below bp11) hip11 hgcp11 hglp11 (fun e => by have := (how5 _ e).2; omega) hRw).mono ?_; rintro e w9 ⟨A9, c9, rfl, hR9, hg9, ho9⟩)
        go_roundw
        case rel =>
         have gw : w.grownBy p11 (Value.slice V ps.length cv).ownBlock := only_below g5 bp11
         refine ⟨j + 1, A9, c9, _, hlt, by go_num, by rw [List.length_append], ?_, hR9, ?_, grown_own gw o5 hg9, o5.trans ho9 gw.size, ?_⟩
         ·rw [hplt'.out, ← List.append_assoc, ← hps5'.out]
         ·exact (hK5.keep bp11).grown hg9 (fun e => n5 e.symm)
         ·exact ho9.ne (by omega) n5
        case measure => simp [intOf]; omega
   ·have hjl : j = ks.length := by omega
    subst hjl
    go_wp2_with fail
    go_ret
    have e : ps5 = ps ++ plT rdT p (.mk k n ks) := by rw [hps5'.out, hpt'.out, List.take_length, List.append_assoc]
    subst e
    exact ⟨A5, c5, rfl, hR5, g5, o5⟩
 ·obtain ⟨r, hr9⟩ : ∃ r, rdx k ks = r := ⟨_, rfl⟩
  have hP2 : P0 = [p] := by rw [hP0, if_pos]; simp [rdT, Tm.k, Tm.kids, hx]
  rw [hr9] at hx
  have hx2 : (r == 0) = false := by simpa using hx
  have hz' := hide hr9
  clear hr9 hP0
  have tokA := trivial
  go_enter Try.func55, Try.ntmps55
  go_wp2_with (first
   | (go_at_call 64; have _t := tokA; refine (sRedex_any k n ks A c _ (by omega) ha'.out (hr.rd.alloc _)).mono ?_; rw [hz'.out]; rintro e w0 ⟨rfl, hb0⟩; have hK0 : Blk w0 w.heap.size #[.int .i64 k, .int .i64 n, .slice A ks.length c] := (Blk.new_ w 25 _ rfl).keep hb0; have g0 : Below w.heap.size w w0 := (by_alloc (by_refl _) _).trans (hb0.mono (by simp)); have hi0 : RdI w0 (some ⟨pb, 0, none⟩) p := hi.below g0; have hR0 : RowP B w0 (.slice V ps.length cv) ps := hR.below g0; have l0 := hK0.lt; have hr0 : RdP (fun b => b < B) w0 A 0 ks := hr.below g0; have s0 := g0.size; obtain ⟨x0, x1, x2⟩ := hK0.three; have how0 := hR0.own; clear tokA _t; have tokB := trivial)
   | (at_builtin; have _t := tokB; refine name_list ?_; intro wa hwa; have ba : Below w0.heap.size w0 wa := (by rw [hwa]; exact by_alloc (by_refl _) _); have hRa : RowI w0.heap.size wa (.slice (some ⟨w0.heap.size, 0, none⟩) 0 0) [] := (by rw [hwa]; exact RowI.empty w0 (Nat.le_refl _)); have hia : RdI wa (some ⟨pb, 0, none⟩) p := (by rw [hwa]; exact hi0.alloc _); have hKa : Blk wa w.heap.size #[.int .i64 k, .int .i64 n, .slice A ks.length c] := hK0.keep ba; have hRoa : RowP B wa (.slice V ps.length cv) ps := hR0.below ba; have sa : w0.heap.size < wa.heap.size := (by rw [hwa]; simp); clear hwa; refine wpList_append_ints (B := w0.heap.size) (ys := p) (ad := ⟨pb, 0, none⟩) (c := cp) hRa (by omega) (by simp; omega) hia.addr rfl (.tmp 18) (.tmp 19) rfl rfl rfl ?_; intro v3 w1 hR3 hb3 hg3; rw [List.nil_append] at hR3; obtain ⟨A3, c3, rfl, hi3, hn3⟩ := hR3.form2; have hc3 := hR3.cap; have b1 := ba.trans hb3; have hK1 := hK0.keep b1; have hR1 : RowP B w1 (.slice V ps.length cv) ps := hR0.below b1; have s1 := hb3.size; clear tokB _t; have tokC := trivial)
   | (at_builtin; have _t := tokC; refine name_list ?_; intro wx hwx; have hBx : Blk wx w1.heap.size #[.slice A3 p.length c3] := (by rw [hwx]; exact Blk.new_ _ _ _ rfl); have hRx : RowP B wx (.slice V ps.length cv) ps := (by rw [hwx]; exact hR1.alloc _); have hix : RdI wx A3 p := (by rw [hwx]; exact hi3.alloc _); have hKx : Blk wx w.heap.size #[.int .i64 k, .int .i64 n, .slice A ks.length c] := (by rw [hwx]; exact hK1.alloc _); have bx : Below w0.heap.size w0 wx := (by rw [hwx]; exact by_alloc b1 _); clear hwx; have sx := hBx.lt; refine wpList_append_pthG (B := B) hRx (by omega) rfl (by omega) hix hc3.1 (fun a ha => ⟨by have := (hn3 a ha).1; omega, fun e => by have := (how0 _ e).2; have := (hn3 a ha).1; omega, by have := (hn3 a ha).2; omega⟩) _ 1 hBx rfl (.tmp 17) (.tmp 21) rfl rfl rfl ?_; intro A4 c4 w2 hR2 hg2 ho2; have hK2 := hKx.grown hg2 (fun e => by have := (how _ e.symm).2; omega); have g2 := only_trans (only_below (World.grownBy.refl _ _) (g0.trans (bx.mono s0))) hg2; have o2 : OwnTo w (.slice V ps.length cv) (.slice A4 (ps.length + 1) c4) := ho2.imp id (fun ⟨g, h1, h2⟩ => ⟨g, by omega, h2⟩); have n2 : (Value.slice A4 (ps.length + 1) c4).ownBlock ≠ some w.heap.size := (ho2.ne (by omega) (fun e => by have := (how _ e).2; omega)); clear tokC _t))
  go_loopw [0, 9] (fun vv iv wr => ∃ (j : Nat) (A5 : Option Addr) (c5 : Nat) (ps5 : List (List Int)), j ≤ ks.length ∧ iv = .int .i64 j ∧ vv = .slice A5 ps5.length c5 ∧ ps5 = ps ++ P0 ++ plL rdT p 0 (ks.take j) ∧ RowP B wr (.slice A5 ps5.length c5) ps5 ∧ Blk wr w.heap.size #[.int .i64 k, .int .i64 n, .slice A ks.length c] ∧ w.grownBy wr (Value.slice V ps.length cv).ownBlock ∧ OwnTo w (.slice V ps.length cv) (.slice A5 ps5.length c5) ∧ (Value.slice A5 ps5.length c5).ownBlock ≠ some w.heap.size)
   (fun _ iv _ => ks.length - (intOf iv).toNat)
  case atStart => exact ⟨0, A4, c4, ps ++ [p], Nat.zero_le _, rfl, by simp, by rw [hP2]; simp [plL], by simpa using hR2, hK2, g2, by simpa using o2, by simpa using n2⟩
  case round =>
   obtain ⟨j, A5, c5, ps5, hj, rfl, rfl, hps5, hR5, hK5, g5, o5, n5⟩ := hrel
   have hpl5 : ps5.length ≤ ps.length + 1 + sizes ks := by rw [hps5]; have := plL_le rdT (ks.take j) p 0; have := sizes_take_leC ks j; rw [List.length_append, List.length_append]; omega
   have hps5' := hide hps5
   clear hps5
   have s5 := g5.size
   have how5 := hR5.own
   have lK := hK5.lt
   have hr5 : RdP (fun b => b < B) _ A 0 ks := hr.grown g5 (fun b hb e => by have := (how b e.symm).1; omega)
   have hi5 := hi.grown g5 (fun a ha e => by injection ha with ha; subst ha; exact hvp e)
   have hvp5 : (Value.slice A5 ps5.length c5).ownBlock ≠ some pb := o5.ne hpb hvp
   obtain ⟨x0, x1, x2⟩ := hK5.three
   by_cases hlt : j < ks.length
   ·have hszj := sizes_takeC hlt
    have hle := sizes_take_leC ks (j + 1)
    obtain ⟨b, off, k', n', ks', A', c', rfl, hkj, hbl, hc1, hc2, hc3', hl', hr'⟩ := hr5.atp hlt
    rw [hkj] at hszj
    have hvk := validT_kid hv'.out (List.getElem_mem hlt)
    rw [hkj] at hvk
    have hvk' := hide hvk
    clear hvk
    simp only [Tm.size] at hszj
    have hplt := plL_take rdT p hlt
    rw [hkj] at hplt
    obtain ⟨q, hq0⟩ : ∃ q, p ++ [(j : Int)] = q := ⟨_, rfl⟩
    have hqq := hide hq0
    have hql : q.length ≤ p.length + 1 := by rw [← hq0]; simp
    have hqn : q ≠ [] := by rw [← hq0]; simp
    have hqn' := hide hqn
    rw [hq0] at hplt
    clear hq0 hqn
    have hplt' := hide hplt
    have hq := plL_le rdT (ks.take j) p 0
    have hlps : ps5.length ≤ ps.length + 1 + sizes (ks.take j) := by rw [hps5'.out, List.length_append, List.length_append]; omega
    have hlj : (j : Int) < (ks.length : Int) := by omega
    clear hplt hkj
    go_upto_region 6 with fail
    have y0 := rule_of hK5.three.2.2
    have y1 := rule_of hc1
    have y2 := rule_of hc2
    have y3 := rule_of hc3'
    clear x0 x1 x2 hc1 hc2 hc3'
    obtain ⟨q0, hq0⟩ : ∃ q0, q0 = wr.drew := ⟨_, rfl⟩
    have bq0 : Below wr.heap.size wr q0 := by rw [hq0]; exact by_drew (by_refl _)
    refine gC_start (fun w' => Below wr.heap.size wr w') [13, 14] 15 (by kernel_rfl) rfl ?_
    refine gC_take [0, 1, 2, 3, 4, 5, 7, 9, 12] (f := 6) (l' := #[true, true, true, true, true, true, false, true, false, true, false, false, true, false, false]) (lT := [_, _, _, _, _, _, _, _, _]) (by rw [← hq0]; exact bq0) rfl (by kernel_rfl) (by kernel_rfl) (by kernel_rfl) rfl (fun _ _ d _ _ h => by cases d <;> exact h) ?_
    repeat ((first | ((refine takeY_skip (a' := ?_) ?_ ?_ ?_); (rotate_left); (· (simp [Region.wanted, yielded]; done))) | ((refine takeY_step (v := ?_) (a' := ?_) ?_ ?_ ?_ ?_); (rotate_left 2); (· (simp [Region.wanted, yielded]; done)); (· (intro w' hS'; go_simp; try (with_reducible rfl))))); (· (simp only [List.getElem_toArray, List.getElem_cons_zero, List.getElem_cons_succ, Act.put, List.setIfInBounds_toArray, List.set_cons_zero, List.set_cons_succ]; exact rfl)))
    refine takeY_nil ?_
    rw [← hq0]
    clear hq0 y0 y1 y2 y3
    refine gC_two (i := 6) (j := 10) (by kernel_rfl) rfl rfl ?_ ?_
    ·go_wp2_with fail
     refine name_midw ?_
     intro p1 hn
     have bp1 : Below wr.heap.size wr p1 := by rw [hn]; exact by_alloc bq0 _
     have sp1 := bq0.size
     have ltp1 : q0.heap.size < p1.heap.size := by rw [hn]; simp
     have ep1 : RowI wr.heap.size p1 (.slice (some ⟨q0.heap.size, 0, none⟩) 0 0) [] := by rw [hn]; exact RowI.empty q0 bq0.size
     clear hn
     refine mid_intro bp1 ?_
     refine gC_two (i := 8) (j := 10) (by kernel_rfl) rfl rfl ?_ ?_
     ·have sp2 := bp1.size
      refine wpList_append_ints (B := wr.heap.size) (ys := p) (ad := ⟨pb, 0, none⟩) (c := cp) ep1 sp2 (by simp; omega) (hi5.below bp1).addr rfl (.tmp 36) (.tmp 37) rfl rfl rfl ?_
      intro vp2 p2 rp2 hp2 hgp2
      rw [List.nil_append] at rp2
      obtain ⟨Ap2, cp2, hvp2, -, -⟩ := rp2.form2
      subst hvp2
      go_wp2_with fail
      have bp2 : Below wr.heap.size wr p2 := bp1.trans hp2
      refine mid_intro bp2 ?_
      refine gC_one (i := 10) (by kernel_rfl) rfl ?_
      ·go_wp2_with fail
       refine name_midw ?_
       intro p3 hn
       have bp3 : Below wr.heap.size wr p3 := by rw [hn]; exact by_alloc bp2 _
       have sp3 := bp2.size
       have ltp3 : p2.heap.size < p3.heap.size := by rw [hn]; simp
       have zp3 : Blk p3 p2.heap.size #[.int .i64 j] := by rw [hn]; exact Blk.new_ _ 3 _ rfl
       have rp3 := rp2.alloc (.cells #[.int .i64 j] 3)
       rw [← hn] at rp3
       clear hn
       refine mid_intro bp3 ?_
       refine gC_one (i := 11) (by kernel_rfl) rfl ?_
       ·have sp4 := bp3.size
        refine wpList_append_ints (B := wr.heap.size) (xs := p) (ys := [(j : Int)]) (ad := ⟨p2.heap.size, 0, none⟩) (c := 1) rp3 sp4 (by simp; omega) zp3.oneI rfl (.tmp 38) (.tmp 40) rfl rfl rfl ?_
        intro vp4 p4 rp4 hp4 hgp4
        rw [hqq.out] at rp4
        obtain ⟨gp4, cp4, hvp4, hip4, hgBp4, hglp4, hgcp4⟩ := rp4.some_ hqn'.out
        subst hvp4
        go_wp2_with fail
        have bp4 : Below wr.heap.size wr p4 := bp3.trans hp4
        refine mid_intro bp4 ?_
        refine gC_end [13, 14] (lB := [_, _]) (by simp) (by kernel_rfl) (by kernel_rfl) rfl ?_
        have hRw := hR5.below bp4
        have sw := bp4.size
        go_wp2_with (go_at_call 55; refine (ih k' n' ks' A' c' q gp4 cp4 ps5 A5 c5 p4 hvk'.out (by omega) (by omega) (by omega) (by omega) (by omega) (hr'.below bp4) hip4 hgcp4 hglp4 (fun e => by have := (how5 _ e).2; omega) hRw).mono ?_; rintro e w9 ⟨A9, c9, rfl, hR9, hg9, ho9⟩)
        go_roundw
        case rel =>
         have gw : w.grownBy p4 (Value.slice V ps.length cv).ownBlock := only_below g5 bp4
         refine ⟨j + 1, A9, c9, _, hlt, by go_num, by rw [List.length_append], ?_, hR9, ?_, grown_own gw o5 hg9, o5.trans ho9 gw.size, ?_⟩
         ·rw [hplt'.out, ← List.append_assoc, ← hps5'.out]
         ·exact (hK5.keep bp4).grown hg9 (fun e => n5 e.symm)
         ·exact ho9.ne (by omega) n5
        case measure => simp [intOf]; omega
     ·go_wp2_with fail
      refine name_midw ?_
      intro p5 hn
      have bp5 : Below wr.heap.size wr p5 := by rw [hn]; exact by_alloc bp1 _
      have sp5 := bp1.size
      have ltp5 : p1.heap.size < p5.heap.size := by rw [hn]; simp
      have zp5 : Blk p5 p1.heap.size #[.int .i64 j] := by rw [hn]; exact Blk.new_ _ 3 _ rfl
      have ep5 := ep1.alloc (.cells #[.int .i64 j] 3)
      rw [← hn] at ep5
      clear hn
      refine mid_intro bp5 ?_
      refine gC_one (i := 8) (by kernel_rfl) rfl ?_
      ·have sp6 := bp5.size
       refine wpList_append_ints (B := wr.heap.size) (ys := p) (ad := ⟨pb, 0, none⟩) (c := cp) ep5 sp6 (by simp; omega) (hi5.below bp5).addr rfl (.tmp 36) (.tmp 37) rfl rfl rfl ?_
       intro vp6 p6 rp6 hp6 hgp6
       rw [List.nil_append] at rp6
       obtain ⟨Ap6, cp6, hvp6, -, -⟩ := rp6.form2
       subst hvp6
       go_wp2_with fail
       have bp6 : Below wr.heap.size wr p6 := bp5.trans hp6
       have zp6 := zp5.grown hgp6 (by simp [Value.ownBlock]; omega)
       refine mid_intro bp6 ?_
       refine gC_one (i := 11) (by kernel_rfl) rfl ?_
       ·have sp7 := bp6.size
        refine wpList_append_ints (B := wr.heap.size) (xs := p) (ys := [(j : Int)]) (ad := ⟨p1.heap.size, 0, none⟩) (c := 1) rp6 sp7 (by simp; omega) zp6.oneI rfl (.tmp 38) (.tmp 40) rfl rfl rfl ?_
        intro vp7 p7 rp7 hp7 hgp7
        rw [hqq.out] at rp7
        obtain ⟨gp7, cp7, hvp7, hip7, hgBp7, hglp7, hgcp7⟩ := rp7.some_ hqn'.out
        subst hvp7
        go_wp2_with fail
        have bp7 : Below wr.heap.size wr p7 := bp6.trans hp7
        refine mid_intro bp7 ?_
        refine gC_end [13, 14] (lB := [_, _]) (by simp) (by kernel_rfl) (by kernel_rfl) rfl ?_
        have hRw := hR5.below bp7
        have sw := bp7.size
        go_wp2_with (go_at_call 55; refine (ih k' n' ks' A' c' q gp7 cp7 ps5 A5 c5 p7 hvk'.out (by omega) (by omega) (by omega) (by omega) (by omega) (hr'.below bp7) hip7 hgcp7 hglp7 (fun e => by have := (how5 _ e).2; omega) hRw).mono ?_; rintro e w9 ⟨A9, c9, rfl, hR9, hg9, ho9⟩)
        go_roundw
        case rel =>
         have gw : w.grownBy p7 (Value.slice V ps.length cv).ownBlock := only_below g5 bp7
         refine ⟨j + 1, A9, c9, _, hlt, by go_num, by rw [List.length_append], ?_, hR9, ?_, grown_own gw o5 hg9, o5.trans ho9 gw.size, ?_⟩
         ·rw [hplt'.out, ← List.append_assoc, ← hps5'.out]
         ·exact (hK5.keep bp7).grown hg9 (fun e => n5 e.symm)
         ·exact ho9.ne (by omega) n5
        case measure => simp [intOf]; omega
    ·go_wp2_with fail
     refine name_midw ?_
     intro p8 hn
     have bp8 : Below wr.heap.size wr p8 := by rw [hn]; exact by_alloc bq0 _
     have sp8 := bq0.size
     have ltp8 : q0.heap.size < p8.heap.size := by rw [hn]; simp
     have zp8 : Blk p8 q0.heap.size #[.int .i64 j] := by rw [hn]; exact Blk.new_ _ 3 _ rfl
     clear hn
     refine mid_intro bp8 ?_
     refine gC_one (i := 6) (by kernel_rfl) rfl ?_
     ·go_wp2_with fail
      refine name_midw ?_
      intro p9 hn
      have bp9 : Below wr.heap.size wr p9 := by rw [hn]; exact by_alloc bp8 _
      have sp9 := bp8.size
      have ltp9 : p8.heap.size < p9.heap.size := by rw [hn]; simp
      have ep9 : RowI wr.heap.size p9 (.slice (some ⟨p8.heap.size, 0, none⟩) 0 0) [] := by rw [hn]; exact RowI.empty p8 bp8.size
      have zzp9 := zp8.alloc (.cells #[] 3)
      rw [← hn] at zzp9
      clear hn
      refine mid_intro bp9 ?_
      refine gC_one (i := 8) (by kernel_rfl) rfl ?_
      ·have sp10 := bp9.size
       refine wpList_append_ints (B := wr.heap.size) (ys := p) (ad := ⟨pb, 0, none⟩) (c := cp) ep9 sp10 (by simp; omega) (hi5.below bp9).addr rfl (.tmp 36) (.tmp 37) rfl rfl rfl ?_
       intro vp10 p10 rp10 hp10 hgp10
       rw [List.nil_append] at rp10
       obtain ⟨Ap10, cp10, hvp10, -, -⟩ := rp10.form2
       subst hvp10
       go_wp2_with fail
       have bp10 : Below wr.heap.size wr p10 := bp9.trans hp10
       have zp10 := zzp9.grown hgp10 (by simp [Value.ownBlock]; omega)
       refine mid_intro bp10 ?_
       refine gC_one (i := 11) (by kernel_rfl) rfl ?_
       ·have sp11 := bp10.size
        refine wpList_append_ints (B := wr.heap.size) (xs := p) (ys := [(j : Int)]) (ad := ⟨q0.heap.size, 0, none⟩) (c := 1) rp10 sp11 (by simp; omega) zp10.oneI rfl (.tmp 38) (.tmp 40) rfl rfl rfl ?_
        intro vp11 p11 rp11 hp11 hgp11
        rw [hqq.out] at rp11
        obtain ⟨gp11, cp11, hvp11, hip11, hgBp11, hglp11, hgcp11⟩ := rp11.some_ hqn'.out
        subst hvp11
        go_wp2_with fail
        have bp11 : Below wr.heap.size wr p11 := bp10.trans hp11
        refine mid_intro bp11 ?_
        refine gC_end [13, 14] (lB := [_, _]) (by simp) (by kernel_rfl) (by kernel_rfl) rfl ?_
        have hRw := hR5.below bp11
        have sw := bp11.size
        go_wp2_with (go_at_call 55; refine (ih k' n' ks' A' c' q gp11 cp11 ps5 A5 c5 p11 hvk'.out (by omega) (by omega) (by omega) (by omega) (by omega) (hr'.below bp11) hip11 hgcp11 hglp11 (fun e => by have := (how5 _ e).2; omega) hRw).mono ?_; rintro e w9 ⟨A9, c9, rfl, hR9, hg9, ho9⟩)
        go_roundw
        case rel =>
         have gw : w.grownBy p11 (Value.slice V ps.length cv).ownBlock := only_below g5 bp11
         refine ⟨j + 1, A9, c9, _, hlt, by go_num, by rw [List.length_append], ?_, hR9, ?_, grown_own gw o5 hg9, o5.trans ho9 gw.size, ?_⟩
         ·rw [hplt'.out, ← List.append_assoc, ← hps5'.out]
         ·exact (hK5.keep bp11).grown hg9 (fun e => n5 e.symm)
         ·exact ho9.ne (by omega) n5
        case measure => simp [intOf]; omega
   ·have hjl : j = ks.length := by omega
    subst hjl
    go_wp2_with fail
    go_ret
    have e : ps5 = ps ++ plT rdT p (.mk k n ks) := by rw [hps5'.out, hpt'.out, List.take_length, List.append_assoc]
    subst e
    exact ⟨A5, c5, rfl, hR5, g5, o5⟩
end Go.Proofs.Ytddkehjdjfmhmaa
