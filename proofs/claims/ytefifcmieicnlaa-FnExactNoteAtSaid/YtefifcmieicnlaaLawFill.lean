/-
  The law FnExactFillTerm: the walk.
-/
import Derived.Test.YtefifcmieicnlaaFillLaw
import Derived.Test.YtefifcmieicnlaaFillT
import Derived.Test.YtefifcmieicnlaaLawKit
import Derived.Test.YtefifcmieicnlaaLaw
namespace Go.Proofs.Ytefifcmieicnlaa
open Go.RowKit
set_option linter.unusedSimpArgs false
set_option linter.unusedVariables false

theorem gotO_pair {w : World} {o : Option Tm} {e : Ending} {w' : World} (h : GotO w o e w') {k n : Int} {ks : List Tm} (ht : o.getD (.mk 0 0 []) = .mk k n ks) {b : Bool} (hb : o.isSome = b) :
    ∃ A c, e = .returned (.tuple #[.agg #[.int .i64 k, .int .i64 n, .slice A ks.length c], .bool b]) ∧ ks.length ≤ 9223372036854775807 ∧ Fresh w.heap.size w' A ks ∧ Below w.heap.size w w' := by
  cases o with
  | none => injection ht with h1 h2 h3; subst h1 h2 h3 hb; obtain ⟨he, hw⟩ := gotO_none h; exact ⟨none, 0, he, by simp, Fresh.nil, hw⟩
  | some t => obtain ⟨k', n', ks'⟩ := t; injection ht with h1 h2 h3; subst h1 h2 h3 hb; exact gotO_some h
theorem fillTI_size (t : Tm) (args : List Tm) {k n : Int} {ks : List Tm} (ht : (fillTI t args).getD (.mk 0 0 []) = .mk k n ks) : sizes ks ≤ 400 := by
  unfold fillTI at ht
  split at ht
  · unfold fillI at ht
    split at ht
    · split at ht
      · rename_i h
        have := validT_size h
        rw [Option.getD_some] at ht
        rw [ht, Tm.size] at this; omega
      · injection ht with _ _ h3; subst h3; simp [sizes]
    · injection ht with _ _ h3; subst h3; simp [sizes]
  · injection ht with _ _ h3; subst h3; simp [sizes]

set_option maxRecDepth 100000 in
set_option maxHeartbeats 8000000 in
theorem lawFillTerm_any (k n : Int) (ks : List Tm) (A : Option Addr) (c : Nat) (ts : List Tm) (B : Option Addr) (cb : Nat) (w : World) (hl : ks.length ≤ 9223372036854775807) (hr : Rd w A 0 ks) (hlB : ts.length ≤ 9223372036854775807) (hrB : Rd w B 0 ts) :
    Calls Try.prog 7 #[.agg #[.int .i64 k, .int .i64 n, .slice A ks.length c], .slice B ts.length cb] w fun e w' => e = .returned (.bool true) ∧ Below w.heap.size w w' := by
  by_cases hs : sizes ks ≤ 1048576
  · have hsz := szR_yes (left := 1048576) (m := sizes ks) (by omega)
    have hz := hide hs
    have hneg : decide ((1048576 : Int) - (sizes ks : Int) < 0) = false := decide_eq_false (by omega)
    by_cases hs2 : (sizes ts : Int) ≤ 1048576 - sizes ks
    · have hsz2 := szR_yes (left := 1048576 - sizes ks) (m := sizes ts) hs2
      have hz2 := hide hs2
      have hneg2 : decide ((1048576 : Int) - (sizes ks : Int) - (sizes ts : Int) < 0) = false := decide_eq_false (by omega)
      have hneg3 : decide ((1 : Int) + 2 * (sizes ks : Int) + 2 * (sizes ts : Int) < 0) = false := decide_eq_false (by omega)
      obtain ⟨k2, n2, ks2, hres⟩ : ∃ k2 n2 ks2, (fillTI (.mk k n ks) ts).getD (.mk 0 0 []) = .mk k2 n2 ks2 := tm_eta _
      obtain ⟨b2, hb2⟩ : ∃ b2, (fillTI (.mk k n ks) ts).isSome = b2 := ⟨_, rfl⟩
      have hz3 := hide (fillTI_size _ _ hres)
      have hneg4 : decide ((1 : Int) + 2 * (sizes ks2 : Int) < 0) = false := decide_eq_false (by omega)
      have hres' := hide hres
      have hbo := hide hb2
      clear hs hs2 hres hb2
      go_enter Try.func7, Try.ntmps7
      go_wp2_with (first
        | (go_at_call 18; refine (eqTerm_any k2 n2 ks2 A8 c8 k2 n2 ks2 A5 c5 _ hl8 hl8 (hO8.rd.alloc _) ((hR5.below (H8.mono (by simp))).alloc _)).mono ?_; rw [tmEq_self]; rintro e w9 ⟨rfl, hb9⟩; have hD := (Blk.new_ w8 29 #[.int .i64 k2, .int .i64 n2, .slice A8 ks2.length c8] rfl).keep hb9; replace hC := (hC.alloc _).keep hb9; replace hO6 := (hO6.alloc _).keep hb9; replace hO7 := (hO7.alloc _).keep hb9; replace hO8 := (hO8.alloc _).keep hb9; have g9 := (g8.alloc g8.size _).trans (hb9.mono (by have := g8.size; simp; omega)); have H9 : Below (w5.heap.size + 1) _ w9 := (H8.alloc (by have := H8.size; simp at this; omega) _).trans (hb9.mono (by have := H8.size; simp at this ⊢; omega)))
        | (go_at_call 28; refine (iFillTerm_any k n ks A6 c6 ts B7 c7 _ (by have := hz.out; omega) (by have := hz.out; have := hz2.out; omega) hO6.rd hO7.rd).mono ?_; rintro e w8 hgo; obtain ⟨A8, c8, rfl, hl8, hf8, hb8⟩ := gotO_pair hgo hres'.out hbo.out; clear hgo q0 q1 q2; replace hC := hC.keep hb8; replace hO6 := hO6.keep hb8; replace hO7 := hO7.keep hb8; obtain ⟨fp8, hO8⟩ := hf8.owf; have g8 := g7.trans (hb8.mono g7.size); have H8 : Below (w5.heap.size + 1) _ w8 := H7.trans (hb8.mono (by have := H7.size; simp at this; omega)); obtain ⟨x0, x1, x2⟩ := (hT.below H8 (by omega)).three; have lT := (hT.below H8 (by omega)).lt)
        | (go_at_call 27; refine (toTermS_any (sizes ts + 1) ts B cb _ (by omega) (by have := hz.out; have := hz2.out; omega) ((hrB.below g6).alloc _)).mono ?_; rintro e w7 ⟨B7, c7, rfl, hf7, hb7⟩; have hC := (Blk.new_ w6 29 #[.int .i64 k, .int .i64 n, .slice A6 ks.length c6] rfl).keep hb7; obtain ⟨q0, q1, q2⟩ := (hC).three; replace hO6 := (hO6.alloc _).keep hb7; have g7 := (g6.alloc g6.size _).trans (hb7.mono (by have := g6.size; simp; omega)); have H7 : Below (w5.heap.size + 1) _ w7 := (H6.alloc (by have := H6.size; simp at this; omega) _).trans (hb7.mono (by have := H6.size; simp at this ⊢; omega)); obtain ⟨fp7, hO7⟩ := hf7.owf)
        | (go_at_call 16; refine (toTerm_any k n ks A c _ (by have := hz.out; omega) ((hr.below g5).alloc _)).mono ?_; rintro e w6 ⟨A6, c6, rfl, hl6, hf6, hb6⟩; have hT : Blk (w5.alloc (.cells #[.int .i64 k2, .int .i64 n2, .slice A5 ks2.length c5] 29)) w5.heap.size #[.int .i64 k2, .int .i64 n2, .slice A5 ks2.length c5] := Blk.new_ w5 29 _ rfl; replace hB : Blk (w5.alloc (.cells #[.int .i64 k2, .int .i64 n2, .slice A5 ks2.length c5] 29)) w.heap.size #[.int .i64 k, .int .i64 n, .slice A ks.length c] := hB.alloc _; have hR5 : Rd (w5.alloc (.cells #[.int .i64 k2, .int .i64 n2, .slice A5 ks2.length c5] 29)) A5 0 ks2 := hf5.alloc _; have H6 : Below (w5.heap.size + 1) (w5.alloc (.cells #[.int .i64 k2, .int .i64 n2, .slice A5 ks2.length c5] 29)) w6 := hb6.mono (by simp); have g6 := (g5.alloc g5.size _).trans (hb6.mono (by have := g5.size; simp; omega)); obtain ⟨fp6, hO6⟩ := hf6.owf; clear p0 p1 p2 hf5)
        | (go_at_call 26; refine (sFillTerm_any k n ks A3 c3 ts B4 c4 _ (by have := hz.out; omega) (by have := hz.out; have := hz2.out; omega) hf3 hf4.rd).mono ?_; rintro e w5 hgo; rw [fill_same] at hgo; obtain ⟨A5, c5, rfl, hl5, hf5, hb5⟩ := gotO_pair hgo hres'.out hbo.out; clear hgo; replace hB := hB.keep hb5; obtain ⟨p0, p1, p2⟩ := (hB).three; have lB := hB.lt; have g5 := g4.trans (hb5.mono g4.size); replace hf5 := hf5.rd; clear hf3 hf4)
        | (go_at_call 27; refine (toTermS_any (sizes ts + 1) ts B cb _ (by omega) (by have := hz.out; have := hz2.out; omega) (hrB.below g3)).mono ?_; rintro e w4 ⟨B4, c4, rfl, hf4, hb4⟩; replace hB := hB.keep hb4; have g4 := g3.trans (hb4.mono g3.size); replace hf3 := hf3.rd.below hb4)
        | (go_at_call 16; refine (toTerm_any k n ks A c _ (by have := hz.out; omega) (hr.below g2)).mono ?_; rintro e w3 ⟨A3, c3, rfl, hl3, hf3, hb3⟩; replace hB := hB.keep hb3; have g3 := g2.trans (hb3.mono g2.size); clear p0 p1 p2)
        | (go_at_call 25; refine (szTermS_any (sizes ts + 1) ts B cb (1048576 - sizes ks) _ (by omega) hlB (hrB.below g1) (by have := hz.out; omega) (by omega)).mono ?_; rw [hsz2]; rintro e w2 ⟨rfl, hb2⟩; replace hB := hB.keep hb2; obtain ⟨p0, p1, p2⟩ := (hB).three; have g2 := g1.trans (hb2.mono g1.size))
        | (go_at_call 14; refine (szTerm_any k n ks A c 1048576 _ hl (hr.alloc _) (by omega) (by omega)).mono ?_; rw [hsz]; rintro e w1 ⟨rfl, hb1⟩; have hB := (Blk.new_ w 24 #[.int .i64 k, .int .i64 n, .slice A ks.length c] rfl).keep hb1; have g1 : Below w.heap.size w w1 := ((Below.refl _ _).alloc (Nat.le_refl _) _).trans (hb1.mono (by simp))))
      have r0 := hC.rule (i := 0) rfl
      have r1 := hC.rule (i := 1) rfl
      have r2 := hC.rule (i := 2) rfl
      have hB9 := hB.below H9 (by have := lB; omega)
      have q0 := hB9.rule (i := 0) rfl
      have q1 := hB9.rule (i := 1) rfl
      have q2 := hB9.rule (i := 2) rfl
      refine wp_region_first (fun w' => Below w9.heap.size w9 w') [0, 1] [2] [3, 4] [_, _] [_] [_, _] (by kernel_rfl) (by kernel_rfl) rfl rfl rfl (fun _ _ d _ _ h => by cases d <;> exact h) (Below.refl _ _).drew ?_
      repeat (first | ((refine take_skip (a' := ?_) ?_ ?_ ?_); (rotate_left); (· (simp [Region.wanted, yielded]; done)); (· (simp only [Act.put, List.setIfInBounds_toArray, List.set_cons_zero, List.set_cons_succ]; exact rfl))) | ((refine take_step (v := ?_) (a' := ?_) ?_ ?_ ?_ ?_); (rotate_left 2); (· (simp [Region.wanted, yielded]; done)); (· (intro w' hS'; go_simp; try (with_reducible rfl))); (· (simp only [Act.put, List.setIfInBounds_toArray, List.set_cons_zero, List.set_cons_succ]; exact rfl))))
      refine take_nil (then_cons ?_)
      go_wp2_with (go_at_call 16; refine (toTerm_any k n ks A c _ (by have := hz.out; omega) (hr.below g9).drew).mono ?_; rintro e w10 ⟨A10, c10, rfl, hl10, hf10, hb10⟩)
      replace hb10 : Below w9.heap.size w9 w10 := (Below.refl _ _).drew.trans hb10
      refine mid_intro hb10 (then_nil ?_)
      clear r0 r1 r2 q0 q1 q2
      replace hC := hC.keep hb10
      replace hD := hD.keep hb10
      replace hO6 := hO6.keep hb10
      replace hO7 := hO7.keep hb10
      replace hO8 := hO8.keep hb10
      have g10 := g9.trans (hb10.mono g9.size)
      have H10 : Below (w5.heap.size + 1) _ w10 := H9.trans (hb10.mono (by have := H9.size; simp at this; omega))
      have s05 : w.heap.size ≤ w5.heap.size + 1 := by have := g5.size; omega
      have s78 : w6.heap.size ≤ w7.heap.size := by have := hb7.size; simp at this; omega
      have s8 : w6.heap.size ≤ w8.heap.size := by have := hb8.size; omega
      have s8' : w7.heap.size ≤ w8.heap.size := hb8.size
      have s7 : w6.heap.size ≤ (w6.alloc (.cells #[.int .i64 k, .int .i64 n, .slice A6 ks.length c6] 29)).heap.size := by simp
      have lo7 : w5.heap.size + 1 ≤ w6.heap.size := by have := hb6.size; simp at this; omega
      have lo8 : w5.heap.size + 1 ≤ w7.heap.size := by omega
      go_wp2_with (first
        | (go_at_call 32; refine (held_again k2 n2 ks2 A8 c8 _ (by have := hz3.out; omega) hO8.rd).mono ?_; rintro e w23 ⟨rfl, hb23⟩; clear y0 y1 y2; have g23 := g22.trans (hb23.mono g22.size))
        | (go_at_call 18; refine (eqTerm_any k2 n2 ks2 A21 c21 k2 n2 ks2 A5 c5 _ hl8 hl8 (hf21.rd.alloc _) ((hR5.below (H21.mono (by simp))).alloc _)).mono ?_; rw [tmEq_self]; rintro e w22 ⟨rfl, hb22⟩; clear x0 x1 x2; replace hD := (hD.alloc _).keep hb22; replace hO8 := (hO8.alloc _).keep hb22; have g22 := (g21.alloc g21.size _).trans (hb22.mono (by have := g21.size; simp; omega)); obtain ⟨y0, y1, y2⟩ := (hD).three)
        | (go_at_call 28; refine (iFillTerm_any k n ks A19 c19 ts B20 c20 _ (by have := hz.out; omega) (by have := hz.out; have := hz2.out; omega) hf19 hf20.rd).mono ?_; rintro e w21 hgo; obtain ⟨A21, c21, rfl, hl21, hf21, hb21⟩ := gotO_pair hgo hres'.out hbo.out; clear hgo; replace hD := hD.keep hb21; replace hO8 := hO8.keep hb21; have g21 := g20.trans (hb21.mono g20.size); have H21 : Below (w5.heap.size + 1) _ w21 := H20.trans (hb21.mono (by have := H20.size; simp at this; omega)); obtain ⟨x0, x1, x2⟩ := (hT.below H21 (by omega)).three; have lT := (hT.below H21 (by omega)).lt; clear hf19 hf20)
        | (go_at_call 27; refine (toTermS_any (sizes ts + 1) ts B cb _ (by omega) (by have := hz.out; have := hz2.out; omega) (hrB.below g19)).mono ?_; rintro e w20 ⟨B20, c20, rfl, hf20, hb20⟩; replace hD := hD.keep hb20; replace hO8 := hO8.keep hb20; have g20 := g19.trans (hb20.mono g19.size); have H20 : Below (w5.heap.size + 1) _ w20 := H19.trans (hb20.mono (by have := H19.size; simp at this; omega)); replace hf19 := hf19.rd.below hb20)
        | (go_at_call 16; refine (toTerm_any k n ks A c _ (by have := hz.out; omega) (hr.below g18)).mono ?_; rintro e w19 ⟨A19, c19, rfl, hl19, hf19, hb19⟩; clear z0 z1 z2; replace hD := hD.keep hb19; replace hO8 := hO8.keep hb19; have g19 := g18.trans (hb19.mono g18.size); have H19 : Below (w5.heap.size + 1) _ w19 := H18.trans (hb19.mono (by have := H18.size; simp at this; omega)))
        | (go_at_call 32; refine (held_again k2 n2 ks2 A8 c8 _ (by have := hz3.out; omega) hO8.rd).mono ?_; rintro e w18 ⟨rfl, hb18⟩; replace hD := hD.keep hb18; replace hO8 := hO8.keep hb18; have g18 := g17.trans (hb18.mono g17.size); have H18 : Below (w5.heap.size + 1) _ w18 := H17.trans (hb18.mono (by have := H17.size; simp at this; omega)); clear y0 y1 y2; obtain ⟨z0, z1, z2⟩ := (hB.below H18 (by have := lB; omega)).three)
        | (go_at_call 30; refine (markTerm_any k2 n2 ks2 A8 c8 fp8 1 _ (by have := hz3.out; omega) (by omega) (by have := hz3.out; omega) hO8.ow hO8.nodup).mono ?_; rintro e w17 ⟨rfl, hq, hm⟩; have hb17 : Below (w5.heap.size + 1) w16 w17 := hm.below (by have := H16.size; simpa using this) (fun b hb => by have := hO8.lo b hb; omega); replace hD := hD.only hm (hO8.out (.inr (Nat.le_refl _))); replace hO8 := hO8.marked hq; have g17 := g16.trans (hb17.mono s05); have H17 : Below (w5.heap.size + 1) _ w17 := H16.trans hb17; clear hq hm y0 y1 y2; obtain ⟨y0, y1, y2⟩ := (hD).three)
        | (go_at_call 18; refine (eqTerm_any k2 n2 ks2 A8 c8 k2 n2 ks2 A5 c5 _ hl8 hl8 hO8.rd (hR5.below (H15.mono (by simp)))).mono ?_; rw [tmEq_self]; rintro e w16 ⟨rfl, hb16⟩; clear y0 y1 y2 x0 x1 x2; replace hD := hD.keep hb16; replace hO8 := hO8.keep hb16; have g16 := g15.trans (hb16.mono g15.size); have H16 : Below (w5.heap.size + 1) _ w16 := H15.trans (hb16.mono (by have := H15.size; simp at this; omega)); obtain ⟨y0, y1, y2⟩ := (hD).three)
        | (go_at_call 31; refine (markTermS_any (sizes ts + 1) ts B7 c7 fp7 (1 + 2 * sizes ks) _ (by omega) (by have := hz.out; have := hz2.out; omega) (by omega) (by have := hz.out; have := hz2.out; omega) hO7.ow hO7.nodup).mono ?_; rintro e w15 ⟨rfl, hq, hm⟩; have hb15 : Below (w5.heap.size + 1) w14 w15 := hm.below (by have := H14.size; simpa using this) (fun b hb => by have := hO7.lo b hb; simp at this; omega); replace hD := hD.only hm (hO7.out (.inr s8')); replace hO8 := hO8.only hm (hO8.apart' hO7 (Nat.le_refl _)); have g15 := g14.trans (hb15.mono s05); have H15 : Below (w5.heap.size + 1) _ w15 := H14.trans hb15; clear hq hm hO7; obtain ⟨y0, y1, y2⟩ := (hD).three; obtain ⟨x0, x1, x2⟩ := (hT.below H15 (by omega)).three)
        | (go_at_call 30; refine (markTerm_any k n ks A6 c6 fp6 1 _ (by have := hz.out; omega) (by omega) (by have := hz.out; omega) hO6.ow hO6.nodup).mono ?_; rintro e w14 ⟨rfl, hq, hm⟩; have hb14 : Below (w5.heap.size + 1) w13 w14 := hm.below (by have := H13.size; simpa using this) (fun b hb => by have := hO6.lo b hb; simpa using this); replace hD := hD.only hm (hO6.out (.inr s8)); replace hO7 := hO7.only hm (hO7.apart' hO6 s7); replace hO8 := hO8.only hm (hO8.apart' hO6 s78); have g14 := g13.trans (hb14.mono s05); have H14 : Below (w5.heap.size + 1) _ w14 := H13.trans hb14; clear hq hm q0 q1 q2 hC hO6)
        | (go_at_call 29; refine (eqTermS_any (sizes ts + 1) ts B7 c7 ts B12 c12 _ (by omega) hlB hlB hO7.rd hf12.rd).mono ?_; rw [tmsEq_self]; rintro e w13 ⟨rfl, hb13⟩; replace hC := hC.keep hb13; replace hD := hD.keep hb13; replace hO6 := hO6.keep hb13; replace hO7 := hO7.keep hb13; replace hO8 := hO8.keep hb13; have g13 := g12.trans (hb13.mono g12.size); have H13 : Below (w5.heap.size + 1) _ w13 := H12.trans (hb13.mono (by have := H12.size; simp at this; omega)); clear hf12; obtain ⟨q0, q1, q2⟩ := (hC).three)
        | (go_at_call 27; refine (toTermS_any (sizes ts + 1) ts B cb _ (by omega) (by have := hz.out; have := hz2.out; omega) (hrB.below g11)).mono ?_; rintro e w12 ⟨B12, c12, rfl, hf12, hb12⟩; replace hC := hC.keep hb12; replace hD := hD.keep hb12; replace hO6 := hO6.keep hb12; replace hO7 := hO7.keep hb12; replace hO8 := hO8.keep hb12; have g12 := g11.trans (hb12.mono g11.size); have H12 : Below (w5.heap.size + 1) _ w12 := H11.trans (hb12.mono (by have := H11.size; simp at this; omega)))
        | (go_at_call 18; refine (eqTerm_any k n ks A6 c6 k n ks A10 c10 _ hl6 hl6 hO6.rd hf10.rd).mono ?_; rw [tmEq_self]; rintro e w11 ⟨rfl, hb11⟩; replace hC := hC.keep hb11; replace hD := hD.keep hb11; replace hO6 := hO6.keep hb11; replace hO7 := hO7.keep hb11; replace hO8 := hO8.keep hb11; have g11 := g10.trans (hb11.mono g10.size); have H11 : Below (w5.heap.size + 1) _ w11 := H10.trans (hb11.mono (by have := H10.size; simp at this; omega)); clear hf10))
      go_ret
      exact ⟨rfl, g23⟩
    · have hsz2 := szR_no (left := 1048576 - sizes ks) (m := sizes ts) (by omega)
      clear hs hs2
      go_enter Try.func7, Try.ntmps7
      go_wp2_with (first
        | (go_at_call 14; refine (szTerm_any k n ks A c 1048576 _ hl (hr.alloc _) (by omega) (by omega)).mono ?_; rw [hsz]; rintro e w1 ⟨rfl, hb1⟩; have g1 : Below w.heap.size w w1 := ((Below.refl _ _).alloc (Nat.le_refl _) _).trans (hb1.mono (by simp)))
        | (go_at_call 25; refine (szTermS_any (sizes ts + 1) ts B cb (1048576 - sizes ks) _ (by omega) hlB (hrB.below g1) (by have := hz.out; omega) (by omega)).mono ?_; rw [hsz2]; rintro e w2 ⟨rfl, hb2⟩; have g2 := g1.trans (hb2.mono g1.size)))
      go_ret
      exact ⟨rfl, g2⟩
  · have hsz := szR_no (left := 1048576) (m := sizes ks) (by omega)
    clear hs
    go_enter Try.func7, Try.ntmps7
    go_wp2_with (go_at_call 14; refine (szTerm_any k n ks A c 1048576 _ hl (hr.alloc _) (by omega) (by omega)).mono ?_; rw [hsz]; rintro e w1 ⟨rfl, hb1⟩; replace hb1 := ((Below.refl _ _).alloc (Nat.le_refl _) _).trans (hb1.mono (by simp)))
    go_ret
    exact ⟨rfl, hb1⟩
end Go.Proofs.Ytefifcmieicnlaa

