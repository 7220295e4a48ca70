/-
  The law FnExactNoteAt: the walk.
-/
import Derived.Test.YtefifcmieicnlaaINote
import Derived.Test.YtefifcmieicnlaaLawFill
namespace Go.Proofs.Ytefifcmieicnlaa
open Go.RowKit
set_option linter.unusedSimpArgs false
set_option linter.unusedVariables false

theorem noteS_size (t : Tm) (notes : List Tm) (xs : List Int) {k n : Int} {ks : List Tm} (ht : (noteS t notes xs).getD (.mk 0 0 []) = .mk k n ks) : sizes ks ≤ 400 := by
  unfold noteS at ht
  split at ht
  · split at ht
    · rename_i h
      have := validT_size h
      rw [Option.getD_some] at ht
      rw [ht, Tm.size] at this; omega
    · injection ht with _ _ h3; subst h3; simp [sizes]
  · injection ht with _ _ h3; subst h3; simp [sizes]

set_option maxRecDepth 100000 in
set_option maxHeartbeats 8000000 in
theorem lawNoteAt_any (k n : Int) (ks : List Tm) (A : Option Addr) (c : Nat) (ts : List Tm) (B : Option Addr) (cb : Nat) (xs : List Int) (P : Option Addr) (cp : Nat) (w : World) (hl : ks.length ≤ 9223372036854775807) (hr : Rd w A 0 ks) (hlB : ts.length ≤ 9223372036854775807) (hrB : Rd w B 0 ts) (hlX : xs.length ≤ 9223372036854775807) (hi : RdI w P xs) :
    Calls Try.prog 8 #[.agg #[.int .i64 k, .int .i64 n, .slice A ks.length c], .slice B ts.length cb, .slice P xs.length cp] w fun e w' => e = .returned (.bool true) ∧ Below w.heap.size w w' := by
  by_cases hx0 : xs.length ≤ 1048576
  · have hxd : decide ((1048576 : Int) < (xs.length : Int)) = false := decide_eq_false (by omega)
    have hx1 := hide hx0
    clear hx0
    by_cases hs : sizes ks ≤ 1048576
    · have hsz := szR_yes (left := 1048576) (m := sizes ks) (by omega)
      have hz := hide hs
      have hneg : decide ((1048576 : Int) - (sizes ks : Int) < 0) = false := decide_eq_false (by omega)
      by_cases hs2 : (sizes ts : Int) ≤ 1048576 - sizes ks
      · have hsz2 := szR_yes (left := 1048576 - sizes ks) (m := sizes ts) hs2
        have hz2 := hide hs2
        have hneg2 : decide ((1048576 : Int) - (sizes ks : Int) - (sizes ts : Int) < 0) = false := decide_eq_false (by omega)
        have hneg3 : decide ((1 : Int) + 2 * (sizes ks : Int) + 2 * (sizes ts : Int) + (xs.length : Int) < 0) = false := decide_eq_false (by omega)
        obtain ⟨k2, n2, ks2, hres⟩ : ∃ k2 n2 ks2, (noteS (.mk k n ks) ts xs).getD (.mk 0 0 []) = .mk k2 n2 ks2 := tm_eta _
        obtain ⟨b2, hb2⟩ : ∃ b2, (noteS (.mk k n ks) ts xs).isSome = b2 := ⟨_, rfl⟩
        have hz3 := hide (noteS_size _ _ _ hres)
        have hneg4 : decide ((1 : Int) + 2 * (sizes ks2 : Int) < 0) = false := decide_eq_false (by omega)
        have hres' := hide hres
        have hbo := hide hb2
        clear hs hs2 hres hb2
        go_enter Try.func8, Try.ntmps8
        go_wp2_with (first
          | (go_at_call 18; refine (eqTerm_any k2 n2 ks2 A10 c10 k2 n2 ks2 A6 c6 _ hl10 hl10 (hO10.rd.alloc _) ((hR6.below (H10.mono (by simp))).alloc _)).mono ?_; rw [tmEq_self]; rintro e w11 ⟨rfl, hb11⟩; have hD := (Blk.new_ w10 29 #[.int .i64 k2, .int .i64 n2, .slice A10 ks2.length c10] rfl).keep hb11; replace hC := (hC.alloc _).keep hb11; replace hO7 := (hO7.alloc _).keep hb11; replace hO8 := (hO8.alloc _).keep hb11; replace hI9 := (hI9.alloc _).keep hb11; replace hO10 := (hO10.alloc _).keep hb11; have g11 := (g10.alloc g10.size _).trans (hb11.mono (by have := g10.size; simp; omega)); have H11 : Below (w6.heap.size + 1) (w6.alloc (.cells #[.int .i64 k2, .int .i64 n2, .slice A6 ks2.length c6] 29)) w11 := (H10.alloc (by have := H10.size; simp at this; omega) _).trans (hb11.mono (by have := H10.size; simp at this ⊢; omega)))
          | (go_at_call 35; refine (iNoteAt_any k n ks A7 c7 ts B8 c8 xs _ _ _ (by have := hz.out; omega) (by have := hz.out; have := hz2.out; omega) (by have := hx1.out; omega) hO7.rd hO8.rd hI9.rdi).mono ?_; rintro e w10 hgo; obtain ⟨A10, c10, rfl, hl10, hf10, hb10⟩ := gotO_pair hgo hres'.out hbo.out; clear hgo q0 q1 q2; replace hC := (hC).keep hb10; replace hO7 := (hO7).keep hb10; replace hO8 := (hO8).keep hb10; replace hI9 := (hI9).keep hb10; obtain ⟨fp10, hO10⟩ := hf10.owf; have g10 := g9.trans (hb10.mono g9.size); have H10 : Below (w6.heap.size + 1) (w6.alloc (.cells #[.int .i64 k2, .int .i64 n2, .slice A6 ks2.length c6] 29)) w10 := H9.trans (hb10.mono (by have := H9.size; simp at this; omega)); obtain ⟨x0, x1, x2⟩ := (hT.below H10 (by omega)).three; have lT := (hT.below H10 (by omega)).lt)
          | (go_at_call 34; refine (toIntS_any xs P cp _ (by have := hx1.out; omega) (hi.below g8)).mono ?_; rintro e w9 ⟨rfl, hI9, hb9⟩; have hI9l : w8.heap.size + 1 ≤ w9.heap.size := hI9.lt; replace hC := (hC).keep hb9; replace hO7 := (hO7).keep hb9; replace hO8 := (hO8).keep hb9; have g9 := g8.trans (hb9.mono g8.size); have H9 : Below (w6.heap.size + 1) (w6.alloc (.cells #[.int .i64 k2, .int .i64 n2, .slice A6 ks2.length c6] 29)) w9 := H8.trans (hb9.mono (by have := H8.size; simp at this; omega)); obtain ⟨q0, q1, q2⟩ := (hC).three)
          | (go_at_call 27; refine (toTermS_any (sizes ts + 1) ts B cb _ (by omega) (by have := hz.out; have := hz2.out; omega) ((hrB.below g7).alloc _)).mono ?_; rintro e w8 ⟨B8, c8, rfl, hf8, hb8⟩; have hC := (Blk.new_ w7 29 #[.int .i64 k, .int .i64 n, .slice A7 ks.length c7] rfl).keep hb8; replace hO7 := (hO7.alloc _).keep hb8; have g8 := (g7.alloc g7.size _).trans (hb8.mono (by have := g7.size; simp; omega)); have H8 : Below (w6.heap.size + 1) (w6.alloc (.cells #[.int .i64 k2, .int .i64 n2, .slice A6 ks2.length c6] 29)) w8 := (H7.alloc (by have := H7.size; simp at this; omega) _).trans (hb8.mono (by have := H7.size; simp at this ⊢; omega)); obtain ⟨fp8, hO8⟩ := hf8.owf)
          | (go_at_call 16; refine (toTerm_any k n ks A c _ (by have := hz.out; omega) ((hr.below g6).alloc _)).mono ?_; rintro e w7 ⟨A7, c7, rfl, hl7, hf7, hb7⟩; have hT : Blk (w6.alloc (.cells #[.int .i64 k2, .int .i64 n2, .slice A6 ks2.length c6] 29)) w6.heap.size #[.int .i64 k2, .int .i64 n2, .slice A6 ks2.length c6] := Blk.new_ w6 29 _ rfl; replace hB : Blk (w6.alloc (.cells #[.int .i64 k2, .int .i64 n2, .slice A6 ks2.length c6] 29)) w.heap.size #[.int .i64 k, .int .i64 n, .slice A ks.length c] := hB.alloc _; have hR6 : Rd (w6.alloc (.cells #[.int .i64 k2, .int .i64 n2, .slice A6 ks2.length c6] 29)) A6 0 ks2 := hf6.alloc _; have H7 : Below (w6.heap.size + 1) (w6.alloc (.cells #[.int .i64 k2, .int .i64 n2, .slice A6 ks2.length c6] 29)) w7 := hb7.mono (by simp); have g7 := (g6.alloc g6.size _).trans (hb7.mono (by have := g6.size; simp; omega)); obtain ⟨fp7, hO7⟩ := hf7.owf; clear p0 p1 p2 hf6)
          | (go_at_call 33; refine (sNoteAt_any k n ks A3 c3 ts B4 c4 xs _ _ _ (by have := hz.out; omega) (by have := hz.out; have := hz2.out; omega) (by have := hx1.out; omega) hf3 hf4 hI5.rdi).mono ?_; rintro e w6 hgo; obtain ⟨A6, c6, rfl, hl6, hf6, hb6⟩ := gotO_pair hgo hres'.out hbo.out; clear hgo; replace hB := hB.keep hb6; obtain ⟨p0, p1, p2⟩ := (hB).three; have lB := hB.lt; have g6 := g5.trans (hb6.mono g5.size); replace hf6 := hf6.rd; clear hf3 hf4 hI5)
          | (go_at_call 34; refine (toIntS_any xs P cp _ (by have := hx1.out; omega) (hi.below g4)).mono ?_; rintro e w5 ⟨rfl, hI5, hb5⟩; replace hB := hB.keep hb5; have g5 := g4.trans (hb5.mono g4.size); replace hf3 := hf3.below hb5; replace hf4 := hf4.rd.below hb5)
          | (go_at_call 27; refine (toTermS_any (sizes ts + 1) ts B cb _ (by omega) (by have := hz.out; have := hz2.out; omega) (hrB.below g3)).mono ?_; rintro e w4 ⟨B4, c4, rfl, hf4, hb4⟩; replace hB := hB.keep hb4; have g4 := g3.trans (hb4.mono g3.size); replace hf3 := hf3.rd.below hb4)
          | (go_at_call 16; refine (toTerm_any k n ks A c _ (by have := hz.out; omega) (hr.below g2)).mono ?_; rintro e w3 ⟨A3, c3, rfl, hl3, hf3, hb3⟩; replace hB := hB.keep hb3; have g3 := g2.trans (hb3.mono g2.size); clear p0 p1 p2)
          | (go_at_call 25; refine (szTermS_any (sizes ts + 1) ts B cb (1048576 - sizes ks) _ (by omega) hlB (hrB.below g1) (by have := hz.out; omega) (by omega)).mono ?_; rw [hsz2]; rintro e w2 ⟨rfl, hb2⟩; replace hB := hB.keep hb2; obtain ⟨p0, p1, p2⟩ := (hB).three; have g2 := g1.trans (hb2.mono g1.size))
          | (go_at_call 14; refine (szTerm_any k n ks A c 1048576 _ hl (hr.alloc _) (by omega) (by omega)).mono ?_; rw [hsz]; rintro e w1 ⟨rfl, hb1⟩; have hB := (Blk.new_ w 24 #[.int .i64 k, .int .i64 n, .slice A ks.length c] rfl).keep hb1; have g1 : Below w.heap.size w w1 := ((Below.refl _ _).alloc (Nat.le_refl _) _).trans (hb1.mono (by simp))))
        have r0 := hC.rule (i := 0) rfl
        have r1 := hC.rule (i := 1) rfl
        have r2 := hC.rule (i := 2) rfl
        have hB9 := hB.below H11 (by have := lB; omega)
        have q0 := hB9.rule (i := 0) rfl
        have q1 := hB9.rule (i := 1) rfl
        have q2 := hB9.rule (i := 2) rfl
        refine wp_region_first (fun w' => Below w11.heap.size w11 w') [0, 1] [2] [3, 4] [_, _] [_] [_, _] (by kernel_rfl) (by kernel_rfl) rfl rfl rfl (fun _ _ d _ _ h => by cases d <;> exact h) (Below.refl _ _).drew ?_
        repeat (first | ((refine take_skip (a' := ?_) ?_ ?_ ?_); (rotate_left); (· (simp [Region.wanted, yielded]; done)); (· (simp only [Act.put, List.setIfInBounds_toArray, List.set_cons_zero, List.set_cons_succ]; exact rfl))) | ((refine take_step (v := ?_) (a' := ?_) ?_ ?_ ?_ ?_); (rotate_left 2); (· (simp [Region.wanted, yielded]; done)); (· (intro w' hS'; go_simp; try (with_reducible rfl))); (· (simp only [Act.put, List.setIfInBounds_toArray, List.set_cons_zero, List.set_cons_succ]; exact rfl))))
        refine take_nil (then_cons ?_)
        go_wp2_with (go_at_call 16; refine (toTerm_any k n ks A c _ (by have := hz.out; omega) (hr.below g11).drew).mono ?_; rintro e w12 ⟨A12, c12, rfl, hl12, hf12, hb12⟩)
        replace hb12 : Below w11.heap.size w11 w12 := (Below.refl _ _).drew.trans hb12
        refine mid_intro hb12 (then_nil ?_)
        clear r0 r1 r2 q0 q1 q2
        replace hC := (hC).keep hb12
        replace hO7 := (hO7).keep hb12
        replace hO8 := (hO8).keep hb12
        replace hI9 := (hI9).keep hb12
        replace hO10 := (hO10).keep hb12
        replace hD := (hD).keep hb12
        have g12 := g11.trans (hb12.mono g11.size)
        have H12 : Below (w6.heap.size + 1) (w6.alloc (.cells #[.int .i64 k2, .int .i64 n2, .slice A6 ks2.length c6] 29)) w12 := H11.trans (hb12.mono (by have := H11.size; simp at this; omega))
        have s06 : w.heap.size ≤ w6.heap.size + 1 := by have := g6.size; omega
        have t7 : w6.heap.size + 1 ≤ w7.heap.size := by have := hb7.size; simp at this; omega
        have t8 : w7.heap.size + 1 ≤ w8.heap.size := by have := hb8.size; simp at this; omega
        have t9 : w8.heap.size + 1 ≤ w9.heap.size := hI9l
        have t10 : w9.heap.size ≤ w10.heap.size := hb10.size
        have s7 : w7.heap.size ≤ (w7.alloc (.cells #[.int .i64 k, .int .i64 n, .slice A7 ks.length c7] 29)).heap.size := by simp
        go_wp2_with (first
          | (go_at_call 32; refine (held_again k2 n2 ks2 A10 c10 _ (by have := hz3.out; omega) hO10.rd).mono ?_; rintro e w29 ⟨rfl, hb29⟩; clear y0 y1 y2; have g29 := g28.trans (hb29.mono g28.size))
          | (go_at_call 18; refine (eqTerm_any k2 n2 ks2 A27 c27 k2 n2 ks2 A6 c6 _ hl10 hl10 (hf27.rd.alloc _) ((hR6.below (H27.mono (by simp))).alloc _)).mono ?_; rw [tmEq_self]; rintro e w28 ⟨rfl, hb28⟩; clear x0 x1 x2; replace hD := (hD.alloc _).keep hb28; replace hO10 := (hO10.alloc _).keep hb28; have g28 := (g27.alloc g27.size _).trans (hb28.mono (by have := g27.size; simp; omega)); obtain ⟨y0, y1, y2⟩ := (hD).three)
          | (go_at_call 35; refine (iNoteAt_any k n ks A24 c24 ts B25 c25 xs _ _ _ (by have := hz.out; omega) (by have := hz.out; have := hz2.out; omega) (by have := hx1.out; omega) hf24 hf25 hI26.rdi).mono ?_; rintro e w27 hgo; obtain ⟨A27, c27, rfl, hl27, hf27, hb27⟩ := gotO_pair hgo hres'.out hbo.out; clear hgo; replace hD := (hD).keep hb27; replace hO10 := (hO10).keep hb27; have g27 := g26.trans (hb27.mono g26.size); have H27 : Below (w6.heap.size + 1) (w6.alloc (.cells #[.int .i64 k2, .int .i64 n2, .slice A6 ks2.length c6] 29)) w27 := H26.trans (hb27.mono (by have := H26.size; simp at this; omega)); obtain ⟨x0, x1, x2⟩ := (hT.below H27 (by omega)).three; have lT := (hT.below H27 (by omega)).lt; clear hf24 hf25 hI26)
          | (go_at_call 34; refine (toIntS_any xs P cp _ (by have := hx1.out; omega) (hi.below g25)).mono ?_; rintro e w26 ⟨rfl, hI26, hb26⟩; replace hD := (hD).keep hb26; replace hO10 := (hO10).keep hb26; have g26 := g25.trans (hb26.mono g25.size); have H26 : Below (w6.heap.size + 1) (w6.alloc (.cells #[.int .i64 k2, .int .i64 n2, .slice A6 ks2.length c6] 29)) w26 := H25.trans (hb26.mono (by have := H25.size; simp at this; omega)); replace hf24 := hf24.below hb26; replace hf25 := hf25.rd.below hb26)
          | (go_at_call 27; refine (toTermS_any (sizes ts + 1) ts B cb _ (by omega) (by have := hz.out; have := hz2.out; omega) (hrB.below g24)).mono ?_; rintro e w25 ⟨B25, c25, rfl, hf25, hb25⟩; replace hD := (hD).keep hb25; replace hO10 := (hO10).keep hb25; have g25 := g24.trans (hb25.mono g24.size); have H25 : Below (w6.heap.size + 1) (w6.alloc (.cells #[.int .i64 k2, .int .i64 n2, .slice A6 ks2.length c6] 29)) w25 := H24.trans (hb25.mono (by have := H24.size; simp at this; omega)); replace hf24 := hf24.rd.below hb25)
          | (go_at_call 16; refine (toTerm_any k n ks A c _ (by have := hz.out; omega) (hr.below g23)).mono ?_; rintro e w24 ⟨A24, c24, rfl, hl24, hf24, hb24⟩; clear z0 z1 z2; replace hD := (hD).keep hb24; replace hO10 := (hO10).keep hb24; have g24 := g23.trans (hb24.mono g23.size); have H24 : Below (w6.heap.size + 1) (w6.alloc (.cells #[.int .i64 k2, .int .i64 n2, .slice A6 ks2.length c6] 29)) w24 := H23.trans (hb24.mono (by have := H23.size; simp at this; omega)))
          | (go_at_call 32; refine (held_again k2 n2 ks2 A10 c10 _ (by have := hz3.out; omega) hO10.rd).mono ?_; rintro e w23 ⟨rfl, hb23⟩; replace hD := (hD).keep hb23; replace hO10 := (hO10).keep hb23; have g23 := g22.trans (hb23.mono g22.size); have H23 : Below (w6.heap.size + 1) (w6.alloc (.cells #[.int .i64 k2, .int .i64 n2, .slice A6 ks2.length c6] 29)) w23 := H22.trans (hb23.mono (by have := H22.size; simp at this; omega)); clear y0 y1 y2; obtain ⟨z0, z1, z2⟩ := (hB.below H23 (by have := lB; omega)).three)
          | (go_at_call 30; refine (markTerm_any k2 n2 ks2 A10 c10 fp10 1 _ (by have := hz3.out; omega) (by omega) (by have := hz3.out; omega) hO10.ow hO10.nodup).mono ?_; rintro e w22 ⟨rfl, hq, hm⟩; have hb22 : Below (w6.heap.size + 1) w21 w22 := hm.below (by have := H21.size; simpa using this) (fun b hb => by have := hO10.lo b hb; omega); replace hD := hD.only hm (hO10.out (.inr (Nat.le_refl _))); replace hO10 := hO10.marked hq; have g22 := g21.trans (hb22.mono s06); have H22 : Below (w6.heap.size + 1) _ w22 := H21.trans hb22; clear hq hm y0 y1 y2; obtain ⟨y0, y1, y2⟩ := (hD).three)
          | (go_at_call 18; refine (eqTerm_any k2 n2 ks2 A10 c10 k2 n2 ks2 A6 c6 _ hl10 hl10 hO10.rd (hR6.below (H20.mono (by simp)))).mono ?_; rw [tmEq_self]; rintro e w21 ⟨rfl, hb21⟩; clear y0 y1 y2 x0 x1 x2; replace hD := (hD).keep hb21; replace hO10 := (hO10).keep hb21; have g21 := g20.trans (hb21.mono g20.size); have H21 : Below (w6.heap.size + 1) (w6.alloc (.cells #[.int .i64 k2, .int .i64 n2, .slice A6 ks2.length c6] 29)) w21 := H20.trans (hb21.mono (by have := H20.size; simp at this; omega)); obtain ⟨y0, y1, y2⟩ := (hD).three)
          | (go_at_call 37; refine (markIntS_any xs w8.heap.size _ (1 + 2 * sizes ks + 2 * sizes ts) _ (by have := hx1.out; omega) (by omega) (by have := hz.out; have := hz2.out; omega) hI9).mono ?_; rintro e w20 ⟨rfl, hm⟩; have hb20 : Below (w6.heap.size + 1) w19 w20 := hm.below (by have := H19.size; simpa using this) (fun b hb => by rw [List.mem_singleton] at hb; subst hb; omega); replace hD := hD.only hm (by rw [List.mem_singleton]; omega); replace hO10 := hO10.only hm (fun b hb => by have := hO10.lo b hb; rw [List.mem_singleton]; omega); have g20 := g19.trans (hb20.mono s06); have H20 : Below (w6.heap.size + 1) _ w20 := H19.trans hb20; clear hm hI9; obtain ⟨y0, y1, y2⟩ := (hD).three; obtain ⟨x0, x1, x2⟩ := (hT.below H20 (by omega)).three)
          | (go_at_call 31; refine (markTermS_any (sizes ts + 1) ts B8 c8 fp8 (1 + 2 * sizes ks) _ (by omega) (by have := hz.out; have := hz2.out; omega) (by omega) (by have := hz.out; have := hz2.out; omega) hO8.ow hO8.nodup).mono ?_; rintro e w19 ⟨rfl, hq, hm⟩; have hb19 : Below (w6.heap.size + 1) w18 w19 := hm.below (by have := H18.size; simpa using this) (fun b hb => by have := hO8.lo b hb; simp at this; omega); replace hD := hD.only hm (hO8.out (.inr (by omega))); replace hI9 := hI9.only hm (hO8.out (.inr (Nat.le_refl _))); replace hO10 := hO10.only hm (hO10.apart' hO8 (by omega)); have g19 := g18.trans (hb19.mono s06); have H19 : Below (w6.heap.size + 1) _ w19 := H18.trans hb19; clear hq hm hO8)
          | (go_at_call 30; refine (markTerm_any k n ks A7 c7 fp7 1 _ (by have := hz.out; omega) (by omega) (by have := hz.out; omega) hO7.ow hO7.nodup).mono ?_; rintro e w18 ⟨rfl, hq, hm⟩; have hb18 : Below (w6.heap.size + 1) w17 w18 := hm.below (by have := H17.size; simpa using this) (fun b hb => by have := hO7.lo b hb; simpa using this); replace hD := hD.only hm (hO7.out (.inr (by omega))); replace hO8 := hO8.only hm (hO8.apart' hO7 s7); replace hI9 := hI9.only hm (hO7.out (.inr (by omega))); replace hO10 := hO10.only hm (hO10.apart' hO7 (by omega)); have g18 := g17.trans (hb18.mono s06); have H18 : Below (w6.heap.size + 1) _ w18 := H17.trans hb18; clear hq hm q0 q1 q2 hC hO7)
          | (go_at_call 36; refine (eqIntS_any xs xs _ _ _ _ _ hlX hlX hI9.rdi hI16.rdi).mono ?_; rw [decide_eq_true (rfl : xs = xs)]; rintro e w17 ⟨rfl, hb17⟩; replace hC := (hC).keep hb17; replace hO7 := (hO7).keep hb17; replace hO8 := (hO8).keep hb17; replace hI9 := (hI9).keep hb17; replace hO10 := (hO10).keep hb17; replace hD := (hD).keep hb17; have g17 := g16.trans (hb17.mono g16.size); have H17 : Below (w6.heap.size + 1) (w6.alloc (.cells #[.int .i64 k2, .int .i64 n2, .slice A6 ks2.length c6] 29)) w17 := H16.trans (hb17.mono (by have := H16.size; simp at this; omega)); clear hI16; obtain ⟨q0, q1, q2⟩ := (hC).three)
          | (go_at_call 34; refine (toIntS_any xs P cp _ (by have := hx1.out; omega) (hi.below g15)).mono ?_; rintro e w16 ⟨rfl, hI16, hb16⟩; replace hC := (hC).keep hb16; replace hO7 := (hO7).keep hb16; replace hO8 := (hO8).keep hb16; replace hI9 := (hI9).keep hb16; replace hO10 := (hO10).keep hb16; replace hD := (hD).keep hb16; have g16 := g15.trans (hb16.mono g15.size); have H16 : Below (w6.heap.size + 1) (w6.alloc (.cells #[.int .i64 k2, .int .i64 n2, .slice A6 ks2.length c6] 29)) w16 := H15.trans (hb16.mono (by have := H15.size; simp at this; omega)))
          | (go_at_call 29; refine (eqTermS_any (sizes ts + 1) ts B8 c8 ts B14 c14 _ (by omega) hlB hlB hO8.rd hf14.rd).mono ?_; rw [tmsEq_self]; rintro e w15 ⟨rfl, hb15⟩; replace hC := (hC).keep hb15; replace hO7 := (hO7).keep hb15; replace hO8 := (hO8).keep hb15; replace hI9 := (hI9).keep hb15; replace hO10 := (hO10).keep hb15; replace hD := (hD).keep hb15; have g15 := g14.trans (hb15.mono g14.size); have H15 : Below (w6.heap.size + 1) (w6.alloc (.cells #[.int .i64 k2, .int .i64 n2, .slice A6 ks2.length c6] 29)) w15 := H14.trans (hb15.mono (by have := H14.size; simp at this; omega)); clear hf14)
          | (go_at_call 27; refine (toTermS_any (sizes ts + 1) ts B cb _ (by omega) (by have := hz.out; have := hz2.out; omega) (hrB.below g13)).mono ?_; rintro e w14 ⟨B14, c14, rfl, hf14, hb14⟩; replace hC := (hC).keep hb14; replace hO7 := (hO7).keep hb14; replace hO8 := (hO8).keep hb14; replace hI9 := (hI9).keep hb14; replace hO10 := (hO10).keep hb14; replace hD := (hD).keep hb14; have g14 := g13.trans (hb14.mono g13.size); have H14 : Below (w6.heap.size + 1) (w6.alloc (.cells #[.int .i64 k2, .int .i64 n2, .slice A6 ks2.length c6] 29)) w14 := H13.trans (hb14.mono (by have := H13.size; simp at this; omega)))
          | (go_at_call 18; refine (eqTerm_any k n ks A7 c7 k n ks A12 c12 _ hl7 hl7 hO7.rd hf12.rd).mono ?_; rw [tmEq_self]; rintro e w13 ⟨rfl, hb13⟩; replace hC := (hC).keep hb13; replace hO7 := (hO7).keep hb13; replace hO8 := (hO8).keep hb13; replace hI9 := (hI9).keep hb13; replace hO10 := (hO10).keep hb13; replace hD := (hD).keep hb13; have g13 := g12.trans (hb13.mono g12.size); have H13 : Below (w6.heap.size + 1) (w6.alloc (.cells #[.int .i64 k2, .int .i64 n2, .slice A6 ks2.length c6] 29)) w13 := H12.trans (hb13.mono (by have := H12.size; simp at this; omega)); clear hf12))
        go_ret
        exact ⟨rfl, g29⟩
      · have hsz2 := szR_no (left := 1048576 - sizes ks) (m := sizes ts) (by omega)
        clear hs hs2
        go_enter Try.func8, Try.ntmps8
        go_wp2_with (first | (go_at_call 25; refine (szTermS_any (sizes ts + 1) ts B cb (1048576 - sizes ks) _ (by omega) hlB (hrB.below g1) (by have := hz.out; omega) (by omega)).mono ?_; rw [hsz2]; rintro e w2 ⟨rfl, hb2⟩; replace hB := hB.keep hb2; obtain ⟨p0, p1, p2⟩ := (hB).three; have g2 := g1.trans (hb2.mono g1.size)) | (go_at_call 14; refine (szTerm_any k n ks A c 1048576 _ hl (hr.alloc _) (by omega) (by omega)).mono ?_; rw [hsz]; rintro e w1 ⟨rfl, hb1⟩; have hB := (Blk.new_ w 24 #[.int .i64 k, .int .i64 n, .slice A ks.length c] rfl).keep hb1; have g1 : Below w.heap.size w w1 := ((Below.refl _ _).alloc (Nat.le_refl _) _).trans (hb1.mono (by simp))))
        go_ret
        exact ⟨rfl, g2⟩
    · have hsz := szR_no (left := 1048576) (m := sizes ks) (by omega)
      clear hs
      go_enter Try.func8, Try.ntmps8
      go_wp2_with (first | (go_at_call 14; refine (szTerm_any k n ks A c 1048576 _ hl (hr.alloc _) (by omega) (by omega)).mono ?_; rw [hsz]; rintro e w1 ⟨rfl, hb1⟩; have hB := (Blk.new_ w 24 #[.int .i64 k, .int .i64 n, .slice A ks.length c] rfl).keep hb1; have g1 : Below w.heap.size w w1 := ((Below.refl _ _).alloc (Nat.le_refl _) _).trans (hb1.mono (by simp))))
      go_ret
      exact ⟨rfl, g1⟩
  · have hxd : decide ((1048576 : Int) < (xs.length : Int)) = true := decide_eq_true (by omega)
    clear hx0
    go_enter Try.func8, Try.ntmps8
    go_wp2_with fail
    go_ret
    exact ⟨rfl, (Below.refl _ _).alloc (Nat.le_refl _) _⟩
end Go.Proofs.Ytefifcmieicnlaa

