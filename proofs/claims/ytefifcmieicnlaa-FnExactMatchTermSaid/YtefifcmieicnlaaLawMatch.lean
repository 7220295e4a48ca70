/-
  The law FnExactMatchTerm: the walk.
-/
import Derived.Test.YtefifcmieicnlaaMoreG
import Derived.Test.YtefifcmieicnlaaLawKit
import Derived.Test.YtefifcmieicnlaaLaw
import Derived.Deep.RegionHeld3
namespace Go.Proofs.Ytefifcmieicnlaa
open Go.RowKit
set_option linter.unusedSimpArgs false
set_option linter.unusedVariables false

theorem gotLO_pair {w : World} {o : Option (List Tm)} {e : Ending} {w' : World} (h : GotLO w o e w') {L : List Tm} (hL : o.getD [] = L) {b : Bool} (hb : o.isSome = b) :
    ∃ A c, e = .returned (.tuple #[.slice A L.length c, .bool b]) ∧ Fresh w.heap.size w' A L ∧ Below w.heap.size w w' := by
  subst hL hb; exact h
theorem matchTS_size {p : Tm} {z : Int} {u : Tm} {L : List Tm} (h : (matchTS p z u).getD [] = L) : sizes L ≤ 2400 := by
  unfold matchTS at h
  split at h
  · rename_i hh
    cases ht : tryS z.toNat 0 p u with
    | none => rw [ht] at h; subst h; simp [sizes]
    | some oo => rw [ht] at h; subst h; exact (tryS_size (by omega) ht).1
  · subst h; simp [sizes]
theorem helds_again (ks : List Tm) (A : Option Addr) (c : Nat) (w : World) (hM : sizes ks ≤ 1099511627776) (hr : Rd w A 0 (markL 1 ks)) :
    Calls Try.prog 42 #[.slice A ks.length c, .int .i64 1] w fun e w' => e = .returned (.int .i64 (1 + 2 * sizes ks)) ∧ Below w.heap.size w w' := by
  have h := heldTermS_any (sizes ks + 1) (markL 1 ks) A c 1 w (by rw [mark_sizes.2]; omega) (by rw [mark_sizes.2]; exact hM) (by omega) (by rw [mark_sizes.2]; omega) hr (held_mark.2 ks 1)
  rw [markL_length, mark_sizes.2] at h
  exact h.mono fun e w' ⟨a, b⟩ => ⟨a, b ▸ Below.refl _ _⟩

set_option maxRecDepth 100000 in
set_option maxHeartbeats 4000000 in
theorem lawMatchTerm_any (k n : Int) (ks : List Tm) (A : Option Addr) (c : Nat) (z : Int) (kv nv : Int) (vs : List Tm) (V : Option Addr) (cv : Nat) (w : World) (hl : ks.length ≤ 9223372036854775807) (hr : Rd w A 0 ks) (hz0 : (Lit.int .i64 z).wf = true) (hlV : vs.length ≤ 9223372036854775807) (hrV : Rd w V 0 vs) :
    Calls Try.prog 10 #[.agg #[.int .i64 k, .int .i64 n, .slice A ks.length c], .int .i64 z, .agg #[.int .i64 kv, .int .i64 nv, .slice V vs.length cv]] w fun e w' => e = .returned (.bool true) ∧ Below w.heap.size w w' := by
  by_cases hs : sizes ks ≤ 1048576
  · have hsz := szR_yes (left := 1048576) (m := sizes ks) (by omega)
    have hz := hide hs
    have hneg : decide ((1048576 : Int) - (sizes ks : Int) < 0) = false := decide_eq_false (by omega)
    by_cases hs2 : (sizes vs : Int) ≤ 1048576 - sizes ks
    · have hsz2 := szR_yes (left := 1048576 - sizes ks) (m := sizes vs) hs2
      have hz2 := hide hs2
      have hneg2 : decide ((1048576 : Int) - (sizes ks : Int) - (sizes vs : Int) < 0) = false := decide_eq_false (by omega)
      obtain ⟨L2, hL2⟩ : ∃ L2, (matchTS (.mk k n ks) z (.mk kv nv vs)).getD [] = L2 := ⟨_, rfl⟩
      obtain ⟨b2, hb2o⟩ : ∃ b2, (matchTS (.mk k n ks) z (.mk kv nv vs)).isSome = b2 := ⟨_, rfl⟩
      have hz3 := hide (matchTS_size hL2)
      have hneg3 : decide ((1 : Int) + 2 * (sizes ks : Int) + 2 * (sizes vs : Int) < 0) = false := decide_eq_false (by omega)
      have hneg4 : decide ((1 : Int) + 2 * (sizes L2 : Int) < 0) = false := decide_eq_false (by omega)
      have hlL : L2.length ≤ 9223372036854775807 := by have := hz3.out; have := length_le_sizes L2; omega
      have hL2' := hide hL2
      have hb2' := hide hb2o
      clear hL2 hb2o
      clear hs hs2
      go_enter Try.func10, Try.ntmps10
      go_wp2_with (first | (go_at_call 14; refine (szTerm_any kv nv vs V cv (1048576 - sizes ks) _ hlV (hrV.below g1) (by have := hz.out; omega) (by omega)).mono ?_; rw [hsz2]; rintro e w2 ⟨rfl, hb2⟩; replace hB0 := hB0.keep hb2; replace hB1 := hB1.keep hb2; clear u0 u1 u2; have g2 := g1.trans (hb2.mono g1.size)) | (go_at_call 14; refine (szTerm_any k n ks A c 1048576 _ hl ((hr.alloc _).alloc _) (by omega) (by omega)).mono ?_; rw [hsz]; rintro e w1 ⟨rfl, hb1⟩; have hB0 := ((Blk.new_ w 24 #[.int .i64 k, .int .i64 n, .slice A ks.length c] rfl).alloc (.cells #[.int .i64 kv, .int .i64 nv, .slice V vs.length cv] 24)).keep hb1; have hB1 : Blk w1 (w.heap.size + 1) #[.int .i64 kv, .int .i64 nv, .slice V vs.length cv] := (Blk.new_ (w.alloc (.cells #[.int .i64 k, .int .i64 n, .slice A ks.length c] 24)) 24 #[.int .i64 kv, .int .i64 nv, .slice V vs.length cv] (by simp)).keep hb1; have g1 : Below w.heap.size w w1 := (((Below.refl _ _).alloc (Nat.le_refl _) _).alloc (by simp) _).trans (hb1.mono (by simp; omega)); obtain ⟨u0, u1, u2⟩ := (hB1).three))
      obtain ⟨p0, p1, p2⟩ := (hB0).three
      obtain ⟨u0, u1, u2⟩ := (hB1).three
      go_region_held3 (fun w' => w'.cell? ⟨w.heap.size, 0, none⟩ = some (.int .i64 k) ∧ w'.cell? ⟨w.heap.size, 1, none⟩ = some (.int .i64 n) ∧ w'.cell? ⟨w.heap.size, 2, none⟩ = some (.slice A ks.length c) ∧ w'.cell? ⟨w.heap.size + 1, 0, none⟩ = some (.int .i64 kv) ∧ w'.cell? ⟨w.heap.size + 1, 1, none⟩ = some (.int .i64 nv) ∧ w'.cell? ⟨w.heap.size + 1, 2, none⟩ = some (.slice V vs.length cv)) (go_keep) (first
        | (go_at_call 40; refine (sMatchTerm_any k n ks A3 c3 z hz0 kv nv vs A4 c4 _ (by have := hz.out; omega) (by have := hz.out; have := hz2.out; omega) hf3 hf4.rd).mono ?_; rintro e w5 hgo; obtain ⟨A5, c5, rfl, hf5, hb5⟩ := gotLO_pair hgo hL2'.out hb2'.out; clear hgo; have g5 := g4.trans (hb5.mono g4.size); replace hB0 := hB0.keep hb5; replace hB1 := hB1.keep hb5; have hR5 := hf5.rd; have H5 : Below w5.heap.size w5 w5 := Below.refl _ _; clear hf3 hf4 p0 p1 p2 u0 u1 u2; obtain ⟨p0, p1, p2⟩ := (hB0).three; obtain ⟨u0, u1, u2⟩ := (hB1).three; have lB0 := hB0.lt; have lB1 := hB1.lt)
        | (go_at_call 16; refine (toTerm_any kv nv vs V cv _ (by have := hz.out; have := hz2.out; omega) (hrV.below g3)).mono ?_; rintro e w4 ⟨A4, c4, rfl, hl4, hf4, hb4⟩; have g4 := g3.trans (hb4.mono g3.size); replace hB0 := hB0.keep hb4; replace hB1 := hB1.keep hb4; replace hf3 := hf3.rd.below hb4; clear p0 p1 p2 u0 u1 u2; obtain ⟨p0, p1, p2⟩ := (hB0).three; obtain ⟨u0, u1, u2⟩ := (hB1).three)
        | (go_at_call 16; refine (toTerm_any k n ks A c _ (by have := hz.out; omega) (hr.below g2).drew).mono ?_; rintro e w3 ⟨A3, c3, rfl, hl3, hf3, hb3⟩; replace hb3 : Below w2.heap.size w2 w3 := (Below.refl _ _).drew.trans hb3; have g3 := g2.trans (hb3.mono g2.size); replace hB0 := hB0.keep hb3; replace hB1 := hB1.keep hb3; clear p0 p1 p2 u0 u1 u2; obtain ⟨p0, p1, p2⟩ := (hB0).three; obtain ⟨u0, u1, u2⟩ := (hB1).three))
      all_goals go_wp2_with (first
        | (go_at_call 29; refine (eqTermS_any (sizes L2 + 1) L2 A8 c8 L2 A5 c5 _ (by omega) hlL hlL hO8.rd (hR5.below H8)).mono ?_; rw [tmsEq_self]; rintro e w9 ⟨rfl, hb9⟩; replace hC := hC.keep hb9; replace hD := hD.keep hb9; replace hO6 := hO6.keep hb9; replace hO7 := hO7.keep hb9; replace hO8 := hO8.keep hb9; have g9 := g8.trans (hb9.mono g8.size); have H9 : Below w5.heap.size w5 w9 := H8.trans (hb9.mono H8.size))
        | (go_at_call 41; refine (iMatchTerm_any k n ks A6 c6 z hz0 kv nv vs A7 c7 _ (by have := hz.out; omega) (by have := hz.out; have := hz2.out; omega) (hO6.rd.alloc _) (hO7.rd.alloc _)).mono ?_; rintro e w8 hgo; obtain ⟨A8, c8, rfl, hf8, hb8⟩ := gotLO_pair hgo hL2'.out hb2'.out; clear hgo q0 q1 q2; have hD := (Blk.new_ w7 29 #[.int .i64 kv, .int .i64 nv, .slice A7 vs.length c7] rfl).keep hb8; replace hC := (hC.alloc _).keep hb8; replace hO6 := (hO6.alloc _).keep hb8; replace hO7 := (hO7.alloc _).keep hb8; obtain ⟨fp8, hO8⟩ := hf8.owf; have g8 := (g7.alloc g7.size _).trans (hb8.mono (by have := g7.size; simp; omega)); have H8 : Below w5.heap.size w5 w8 := (H7.alloc H7.size _).trans (hb8.mono (by have := H7.size; simp; omega)))
        | (go_at_call 16; refine (toTerm_any kv nv vs V cv _ (by have := hz.out; have := hz2.out; omega) ((hrV.below g6).alloc _)).mono ?_; rintro e w7 ⟨A7, c7, rfl, hl7, hf7, hb7⟩; have hC := (Blk.new_ w6 29 #[.int .i64 k, .int .i64 n, .slice A6 ks.length c6] rfl).keep hb7; replace hO6 := (hO6.alloc _).keep hb7; obtain ⟨fp7, hO7⟩ := hf7.owf; have g7 := (g6.alloc g6.size _).trans (hb7.mono (by have := g6.size; simp; omega)); have H7 : Below w5.heap.size w5 w7 := (H6.alloc H6.size _).trans (hb7.mono (by have := H6.size; simp; omega)); clear u0 u1 u2 lb1; obtain ⟨q0, q1, q2⟩ := (hC).three; have lC := hC.lt)
        | (go_at_call 16; refine (toTerm_any k n ks A c _ (by have := hz.out; omega) (hr.below g5)).mono ?_; rintro e w6 ⟨A6, c6, rfl, hl6, hf6, hb6⟩; have g6 := g5.trans (hb6.mono g5.size); have H6 : Below w5.heap.size w5 w6 := H5.trans (hb6.mono H5.size); obtain ⟨fp6, hO6⟩ := hf6.owf; clear p0 p1 p2 u0 u1 u2; obtain ⟨u0, u1, u2⟩ := (hB1.below H6 lB1).three; have lb1 := (hB1.below H6 lB1).lt))
      have hB09 := hB0.below H9 lB0
      have r0 := hC.rule (i := 0) rfl
      have r1 := hC.rule (i := 1) rfl
      have r2 := hC.rule (i := 2) rfl
      have s0 := hB09.rule (i := 0) rfl
      have s1 := hB09.rule (i := 1) rfl
      have s2 := hB09.rule (i := 2) rfl
      refine wp_region_first (fun w' => Below w9.heap.size w9 w') [0, 1] [2] [3, 4] [_, _] [_] [_, _] (by kernel_rfl) (by kernel_rfl) rfl rfl rfl (fun _ _ d _ _ h => by cases d <;> exact h) (Below.refl _ _).drew ?_
      repeat (first | ((refine take_skip (a' := ?_) ?_ ?_ ?_); (rotate_left); (· (simp [Region.wanted, yielded]; done)); (· (simp only [Act.put, List.setIfInBounds_toArray, List.set_cons_zero, List.set_cons_succ]; exact rfl))) | ((refine take_step (v := ?_) (a' := ?_) ?_ ?_ ?_ ?_); (rotate_left 2); (· (simp [Region.wanted, yielded]; done)); (· (intro w' hS'; go_simp; try (with_reducible rfl))); (· (simp only [Act.put, List.setIfInBounds_toArray, List.set_cons_zero, List.set_cons_succ]; exact rfl))))
      refine take_nil (then_cons ?_)
      go_wp2_with (go_at_call 16; refine (toTerm_any k n ks A c _ (by have := hz.out; have := hz2.out; omega) (hr.below g9).drew).mono ?_; rintro e w10 ⟨A10, c10, rfl, hl10, hf10, hb10⟩)
      replace hb10 : Below w9.heap.size w9 w10 := (Below.refl _ _).drew.trans hb10
      refine mid_intro hb10 (then_nil ?_)
      clear r0 r1 r2 s0 s1 s2
      have g10 := g9.trans (hb10.mono g9.size)
      replace hC := hC.keep hb10
      replace hD := hD.keep hb10
      replace hO6 := hO6.keep hb10
      replace hO7 := hO7.keep hb10
      replace hO8 := hO8.keep hb10
      have H10 : Below w5.heap.size w5 w10 := H9.trans (hb10.mono H9.size)
      go_wp2_with (go_at_call 18; refine (eqTerm_any k n ks A6 c6 k n ks A10 c10 _ hl6 hl6 hO6.rd hf10.rd).mono ?_; rw [tmEq_self]; rintro e w11 ⟨rfl, hb11⟩; replace hC := hC.keep hb11; replace hD := hD.keep hb11; replace hO6 := hO6.keep hb11; replace hO7 := hO7.keep hb11; replace hO8 := hO8.keep hb11; have g11 := g10.trans (hb11.mono g10.size); have H11 : Below w5.heap.size w5 w11 := H10.trans (hb11.mono H10.size))
      have hB111 := hB1.below H11 lB1
      have r0 := hD.rule (i := 0) rfl
      have r1 := hD.rule (i := 1) rfl
      have r2 := hD.rule (i := 2) rfl
      have s0 := hB111.rule (i := 0) rfl
      have s1 := hB111.rule (i := 1) rfl
      have s2 := hB111.rule (i := 2) rfl
      refine wp_region_first (fun w' => Below w11.heap.size w11 w') [0, 1] [2] [3, 4] [_, _] [_] [_, _] (by kernel_rfl) (by kernel_rfl) rfl rfl rfl (fun _ _ d _ _ h => by cases d <;> exact h) (Below.refl _ _).drew ?_
      repeat (first | ((refine take_skip (a' := ?_) ?_ ?_ ?_); (rotate_left); (· (simp [Region.wanted, yielded]; done)); (· (simp only [Act.put, List.setIfInBounds_toArray, List.set_cons_zero, List.set_cons_succ]; exact rfl))) | ((refine take_step (v := ?_) (a' := ?_) ?_ ?_ ?_ ?_); (rotate_left 2); (· (simp [Region.wanted, yielded]; done)); (· (intro w' hS'; go_simp; try (with_reducible rfl))); (· (simp only [Act.put, List.setIfInBounds_toArray, List.set_cons_zero, List.set_cons_succ]; exact rfl))))
      refine take_nil (then_cons ?_)
      go_wp2_with (go_at_call 16; refine (toTerm_any kv nv vs V cv _ (by have := hz.out; have := hz2.out; omega) (hrV.below g11).drew).mono ?_; rintro e w12 ⟨A12, c12, rfl, hl12, hf12, hb12⟩)
      replace hb12 : Below w11.heap.size w11 w12 := (Below.refl _ _).drew.trans hb12
      refine mid_intro hb12 (then_nil ?_)
      clear r0 r1 r2 s0 s1 s2
      have g12 := g11.trans (hb12.mono g11.size)
      replace hC := hC.keep hb12
      replace hD := hD.keep hb12
      replace hO6 := hO6.keep hb12
      replace hO7 := hO7.keep hb12
      replace hO8 := hO8.keep hb12
      have H12 : Below w5.heap.size w5 w12 := H11.trans (hb12.mono H11.size)
      have s6 : w5.heap.size ≤ w6.heap.size := hb6.size
      have s67 : w6.heap.size + 1 ≤ w7.heap.size := by have := hb7.size; simpa using this
      have s78 : w7.heap.size + 1 ≤ w8.heap.size := by have := hb8.size; simpa using this
      have s05 : w.heap.size ≤ w5.heap.size := g5.size
      go_wp2_with (first
        | (go_at_call 42; refine (helds_again L2 A8 c8 _ (by have := hz3.out; omega) hO8.rd).mono ?_; rintro e w18 ⟨rfl, hb18⟩; replace hO8 := hO8.keep hb18; have g18 := g17.trans (hb18.mono g17.size); have H18 : Below w5.heap.size w5 w18 := H17.trans (hb18.mono H17.size))
        | (go_at_call 31; refine (markTermS_any (sizes L2 + 1) L2 A8 c8 fp8 1 _ (by omega) (by have := hz3.out; omega) (by omega) (by have := hz3.out; omega) hO8.ow hO8.nodup).mono ?_; rintro e w17 ⟨rfl, hq, hm⟩; have hb17 : Below w5.heap.size w16 w17 := hm.below H16.size (fun b hb => by have := hO8.lo b hb; simp at this; omega); replace hO8 := hO8.marked hq; have g17 := g16.trans (hb17.mono s05); have H17 := H16.trans hb17; clear hq hm)
        | (go_at_call 29; refine (eqTermS_any (sizes L2 + 1) L2 A8 c8 L2 A5 c5 _ (by omega) hlL hlL hO8.rd (hR5.below H15)).mono ?_; rw [tmsEq_self]; rintro e w16 ⟨rfl, hb16⟩; replace hO8 := hO8.keep hb16; have g16 := g15.trans (hb16.mono g15.size); have H16 : Below w5.heap.size w5 w16 := H15.trans (hb16.mono H15.size))
        | (go_at_call 30; have hx14 := H14; refine (markTerm_any kv nv vs A7 c7 fp7 (1 + 2 * sizes ks) _ (by have := hz.out; have := hz2.out; omega) (by omega) (by have := hz.out; have := hz2.out; omega) hO7.ow hO7.nodup).mono ?_; rintro e w15 ⟨rfl, hq, hm⟩; have hb15 : Below w5.heap.size w14 w15 := hm.below H14.size (fun b hb => by have := hO7.lo b hb; simp at this; omega); replace hO8 := hO8.only hm (hO8.apart' hO7 (by simp)); have g15 := g14.trans (hb15.mono s05); have H15 := H14.trans hb15; clear hq hm hD hO7 v0 v1 v2)
        | (go_at_call 30; refine (markTerm_any k n ks A6 c6 fp6 1 _ (by have := hz.out; omega) (by omega) (by have := hz.out; omega) hO6.ow hO6.nodup).mono ?_; rintro e w14 ⟨rfl, hq, hm⟩; have hb14 : Below w5.heap.size w13 w14 := hm.below H13.size hO6.lo; replace hD := hD.only hm (hO6.out (.inr (by omega))); replace hO7 := hO7.only hm (hO7.apart' hO6 (by simp)); replace hO8 := hO8.only hm (hO8.apart' hO6 (by simp; omega)); have g14 := g13.trans (hb14.mono s05); have H14 := H13.trans hb14; clear hq hm hC hO6 q0 q1 q2 v0 v1 v2; obtain ⟨v0, v1, v2⟩ := (hD).three)
        | (go_at_call 18; refine (eqTerm_any kv nv vs A7 c7 kv nv vs A12 c12 _ hl7 hl7 hO7.rd hf12.rd).mono ?_; rw [tmEq_self]; rintro e w13 ⟨rfl, hb13⟩; replace hC := hC.keep hb13; replace hD := hD.keep hb13; replace hO6 := hO6.keep hb13; replace hO7 := hO7.keep hb13; replace hO8 := hO8.keep hb13; have g13 := g12.trans (hb13.mono g12.size); have H13 : Below w5.heap.size w5 w13 := H12.trans (hb13.mono H12.size); obtain ⟨q0, q1, q2⟩ := (hC).three; obtain ⟨v0, v1, v2⟩ := (hD).three))
      have hB018 := hB0.below H18 lB0
      have hB118 := hB1.below H18 lB1
      obtain ⟨p0, p1, p2⟩ := (hB018).three
      obtain ⟨u0, u1, u2⟩ := (hB118).three
      go_region_held3 (fun w' => w'.cell? ⟨w.heap.size, 0, none⟩ = some (.int .i64 k) ∧ w'.cell? ⟨w.heap.size, 1, none⟩ = some (.int .i64 n) ∧ w'.cell? ⟨w.heap.size, 2, none⟩ = some (.slice A ks.length c) ∧ w'.cell? ⟨w.heap.size + 1, 0, none⟩ = some (.int .i64 kv) ∧ w'.cell? ⟨w.heap.size + 1, 1, none⟩ = some (.int .i64 nv) ∧ w'.cell? ⟨w.heap.size + 1, 2, none⟩ = some (.slice V vs.length cv)) (go_keep) (first
        | (go_at_call 41; refine (iMatchTerm_any k n ks A19 c19 z hz0 kv nv vs A20 c20 _ (by have := hz.out; omega) (by have := hz.out; have := hz2.out; omega) hf19 hf20.rd).mono ?_; rintro e w21 hgo; obtain ⟨A21, c21, rfl, hf21, hb21⟩ := gotLO_pair hgo hL2'.out hb2'.out; clear hgo; have g21 := g20.trans (hb21.mono g20.size); have H21 : Below w5.heap.size w5 w21 := H20.trans (hb21.mono H20.size); replace hO8 := hO8.keep hb21; clear p0 p1 p2 u0 u1 u2; obtain ⟨p0, p1, p2⟩ := (hB0.below H21 lB0).three; obtain ⟨u0, u1, u2⟩ := (hB1.below H21 lB1).three)
        | (go_at_call 16; refine (toTerm_any kv nv vs V cv _ (by have := hz.out; have := hz2.out; omega) (hrV.below g19)).mono ?_; rintro e w20 ⟨A20, c20, rfl, hl20, hf20, hb20⟩; have g20 := g19.trans (hb20.mono g19.size); have H20 : Below w5.heap.size w5 w20 := H19.trans (hb20.mono H19.size); replace hO8 := hO8.keep hb20; replace hf19 := hf19.rd.below hb20; clear p0 p1 p2 u0 u1 u2; obtain ⟨p0, p1, p2⟩ := (hB0.below H20 lB0).three; obtain ⟨u0, u1, u2⟩ := (hB1.below H20 lB1).three)
        | (go_at_call 16; refine (toTerm_any k n ks A c _ (by have := hz.out; omega) (hr.below g18).drew).mono ?_; rintro e w19 ⟨A19, c19, rfl, hl19, hf19, hb19⟩; replace hb19 : Below w18.heap.size w18 w19 := (Below.refl _ _).drew.trans hb19; have g19 := g18.trans (hb19.mono g18.size); have H19 : Below w5.heap.size w5 w19 := H18.trans (hb19.mono H18.size); replace hO8 := hO8.keep hb19; clear p0 p1 p2 u0 u1 u2; obtain ⟨p0, p1, p2⟩ := (hB0.below H19 lB0).three; obtain ⟨u0, u1, u2⟩ := (hB1.below H19 lB1).three))
      all_goals go_wp2_with (first
        | (go_at_call 42; refine (helds_again L2 A8 c8 _ (by have := hz3.out; omega) hO8.rd).mono ?_; rintro e w23 ⟨rfl, hb23⟩; have g23 := g22.trans (hb23.mono g22.size))
        | (go_at_call 29; refine (eqTermS_any (sizes L2 + 1) L2 A21 c21 L2 A5 c5 _ (by omega) hlL hlL hf21.rd (hR5.below H21)).mono ?_; rw [tmsEq_self]; rintro e w22 ⟨rfl, hb22⟩; replace hO8 := hO8.keep hb22; have g22 := g21.trans (hb22.mono g21.size)))
      go_ret
      exact ⟨rfl, g23⟩
    · have hsz2 := szR_no (left := 1048576 - sizes ks) (m := sizes vs) (by omega)
      clear hs hs2
      go_enter Try.func10, Try.ntmps10
      go_wp2_with (first | (go_at_call 14; refine (szTerm_any kv nv vs V cv (1048576 - sizes ks) _ hlV (hrV.below g1) (by have := hz.out; omega) (by omega)).mono ?_; rw [hsz2]; rintro e w2 ⟨rfl, hb2⟩; replace hB0 := hB0.keep hb2; replace hB1 := hB1.keep hb2; clear u0 u1 u2; have g2 := g1.trans (hb2.mono g1.size)) | (go_at_call 14; refine (szTerm_any k n ks A c 1048576 _ hl ((hr.alloc _).alloc _) (by omega) (by omega)).mono ?_; rw [hsz]; rintro e w1 ⟨rfl, hb1⟩; have hB0 := ((Blk.new_ w 24 #[.int .i64 k, .int .i64 n, .slice A ks.length c] rfl).alloc (.cells #[.int .i64 kv, .int .i64 nv, .slice V vs.length cv] 24)).keep hb1; have hB1 : Blk w1 (w.heap.size + 1) #[.int .i64 kv, .int .i64 nv, .slice V vs.length cv] := (Blk.new_ (w.alloc (.cells #[.int .i64 k, .int .i64 n, .slice A ks.length c] 24)) 24 #[.int .i64 kv, .int .i64 nv, .slice V vs.length cv] (by simp)).keep hb1; have g1 : Below w.heap.size w w1 := (((Below.refl _ _).alloc (Nat.le_refl _) _).alloc (by simp) _).trans (hb1.mono (by simp; omega)); obtain ⟨u0, u1, u2⟩ := (hB1).three))
      go_ret
      exact ⟨rfl, g2⟩
  · have hsz := szR_no (left := 1048576) (m := sizes ks) (by omega)
    clear hs
    go_enter Try.func10, Try.ntmps10
    go_wp2_with (go_at_call 14; refine (szTerm_any k n ks A c 1048576 _ hl ((hr.alloc _).alloc _) (by omega) (by omega)).mono ?_; rw [hsz]; rintro e w1 ⟨rfl, hb1⟩; replace hb1 : Below w.heap.size w w1 := (((Below.refl _ _).alloc (Nat.le_refl _) _).alloc (by simp) _).trans (hb1.mono (by simp; omega)))
    go_ret
    exact ⟨rfl, hb1⟩
end Go.Proofs.Ytefifcmieicnlaa
