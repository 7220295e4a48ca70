/-
  The law FnExactMoreGeneral: the walk.
-/
import Derived.Test.YtefifcmieicnlaaMoreG
import Derived.Test.YtefifcmieicnlaaLawKit
import Derived.Test.YtefifcmieicnlaaLaw
namespace Go.Proofs.Ytefifcmieicnlaa
open Go.RowKit
set_option linter.unusedSimpArgs false
set_option linter.unusedVariables false

set_option maxRecDepth 100000 in
set_option maxHeartbeats 4000000 in
theorem lawMoreGeneral_any (k n : Int) (ks : List Tm) (A : Option Addr) (c : Nat) (z : Int) (kv nv : Int) (vs : List Tm) (V : Option Addr) (cv : Nat) (y : Int) (w : World) (hl : ks.length ≤ 9223372036854775807) (hr : Rd w A 0 ks) (hz0 : (Lit.int .i64 z).wf = true) (hlV : vs.length ≤ 9223372036854775807) (hrV : Rd w V 0 vs) (hy0 : (Lit.int .i64 y).wf = true) :
    Calls Try.prog 9 #[.agg #[.int .i64 k, .int .i64 n, .slice A ks.length c], .int .i64 z, .agg #[.int .i64 kv, .int .i64 nv, .slice V vs.length cv], .int .i64 y] w fun e w' => e = .returned (.bool true) ∧ Below w.heap.size w w' := by
  by_cases hs : sizes ks ≤ 1048576
  · have hsz := szR_yes (left := 1048576) (m := sizes ks) (by omega)
    have hz := hide hs
    have hneg : decide ((1048576 : Int) - (sizes ks : Int) < 0) = false := decide_eq_false (by omega)
    by_cases hs2 : (sizes vs : Int) ≤ 1048576 - sizes ks
    · have hsz2 := szR_yes (left := 1048576 - sizes ks) (m := sizes vs) hs2
      have hz2 := hide hs2
      have hneg2 : decide ((1048576 : Int) - (sizes ks : Int) - (sizes vs : Int) < 0) = false := decide_eq_false (by omega)
      obtain ⟨bq, hbq⟩ : ∃ bq, moreS (.mk k n ks) z (.mk kv nv vs) y = bq := ⟨_, rfl⟩
      have hbq' := hide hbq
      clear hbq
      clear hs hs2
      go_enter Try.func9, Try.ntmps9
      go_wp2_with (first | (go_at_call 14; refine (szTerm_any kv nv vs V cv (1048576 - sizes ks) _ hlV (hrV.below g1) (by have := hz.out; omega) (by omega)).mono ?_; rw [hsz2]; rintro e w2 ⟨rfl, hb2⟩; replace hB0 := hB0.keep hb2; replace hB1 := hB1.keep hb2; clear u0 u1 u2; have g2 := g1.trans (hb2.mono g1.size)) | (go_at_call 14; refine (szTerm_any k n ks A c 1048576 _ hl ((hr.alloc _).alloc _) (by omega) (by omega)).mono ?_; rw [hsz]; rintro e w1 ⟨rfl, hb1⟩; have hB0 := ((Blk.new_ w 24 #[.int .i64 k, .int .i64 n, .slice A ks.length c] rfl).alloc (.cells #[.int .i64 kv, .int .i64 nv, .slice V vs.length cv] 24)).keep hb1; have hB1 : Blk w1 (w.heap.size + 1) #[.int .i64 kv, .int .i64 nv, .slice V vs.length cv] := (Blk.new_ (w.alloc (.cells #[.int .i64 k, .int .i64 n, .slice A ks.length c] 24)) 24 #[.int .i64 kv, .int .i64 nv, .slice V vs.length cv] (by simp)).keep hb1; have g1 : Below w.heap.size w w1 := (((Below.refl _ _).alloc (Nat.le_refl _) _).alloc (by simp) _).trans (hb1.mono (by simp; omega)); obtain ⟨u0, u1, u2⟩ := (hB1).three))
      have r0 := hB0.rule (i := 0) rfl
      have r1 := hB0.rule (i := 1) rfl
      have r2 := hB0.rule (i := 2) rfl
      have s0 := hB1.rule (i := 0) rfl
      have s1 := hB1.rule (i := 1) rfl
      have s2 := hB1.rule (i := 2) rfl
      refine wp_region_firstY (fun w' => Below w2.heap.size w2 w') [0, 2, 3, 5] [1, 4] [6, 7] [_, _, _, _] [_, _] [_, _] (by kernel_rfl) (by kernel_rfl) rfl rfl rfl (fun _ _ d _ _ h => by cases d <;> exact h) (Below.refl _ _).drew ?_
      repeat (first | ((refine takeY_skip (a' := ?_) ?_ ?_ ?_); (rotate_left); (· (simp [Region.wanted, yielded]; done)); (· (simp only [List.getElem_toArray, List.getElem_cons_zero, List.getElem_cons_succ, Act.put, List.setIfInBounds_toArray, List.set_cons_zero, List.set_cons_succ]; exact rfl))) | ((refine takeY_step (v := ?_) (a' := ?_) ?_ ?_ ?_ ?_); (rotate_left 2); (· (simp [Region.wanted, yielded]; done)); (· (intro w' hS'; go_simp; try (with_reducible rfl))); (· (simp only [List.getElem_toArray, List.getElem_cons_zero, List.getElem_cons_succ, Act.put, List.setIfInBounds_toArray, List.set_cons_zero, List.set_cons_succ]; exact rfl))))
      refine takeY_nil (then_cons ?_)
      go_wp2_with (go_at_call 16; refine (toTerm_any k n ks A c _ (by have := hz.out; omega) (hr.below g2).drew).mono ?_; rintro e w3 ⟨A3, c3, rfl, hl3, hf3, hb3⟩)
      replace hb3 : Below w2.heap.size w2 w3 := (Below.refl _ _).drew.trans hb3
      refine mid_intro hb3 (then_cons ?_)
      have g3 := g2.trans (hb3.mono g2.size)
      go_wp2_with (go_at_call 16; refine (toTerm_any kv nv vs V cv _ (by have := hz.out; have := hz2.out; omega) (hrV.below g3)).mono ?_; rintro e w4 ⟨A4, c4, rfl, hl4, hf4, hb4⟩)
      refine mid_intro (hb3.trans (hb4.mono hb3.size)) (then_nil ?_)
      clear r0 r1 r2 s0 s1 s2
      have g4 := g3.trans (hb4.mono g3.size)
      replace hf3 := hf3.rd.below hb4
      replace hB0 := hB0.keep hb3
      replace hB1 := hB1.keep hb3
      replace hB0 := hB0.keep hb4
      replace hB1 := hB1.keep hb4
      go_wp2_with (first
        | (go_at_call 39; refine (iMoreGeneral_any k n ks A6 c6 z kv nv vs A7 c7 y _ hz0 hy0 (by have := hz.out; omega) (by have := hz.out; have := hz2.out; omega) (hf6.alloc _) (hf7.rd.alloc _)).mono ?_; rintro e w8 h8; rw [hbq'.out] at h8; obtain ⟨rfl, hb8⟩ := h8; have hD := (Blk.new_ w7 29 #[.int .i64 kv, .int .i64 nv, .slice A7 vs.length c7] rfl).keep hb8; replace hB0 := (hB0.alloc _).keep hb8; replace hB1 := (hB1.alloc _).keep hb8; replace hC := (hC.alloc _).keep hb8; replace hf6 := (hf6.alloc _).below hb8; replace hf7 := (hf7.rd.alloc _).below hb8; clear q0 q1 q2; have g8 := (g7.alloc g7.size _).trans (hb8.mono (by have := g7.size; simp; omega)))
        | (go_at_call 16; refine (toTerm_any kv nv vs V cv _ (by have := hz.out; have := hz2.out; omega) ((hrV.below g6).alloc _)).mono ?_; rintro e w7 ⟨A7, c7, rfl, hl7, hf7, hb7⟩; have hC := (Blk.new_ w6 29 #[.int .i64 k, .int .i64 n, .slice A6 ks.length c6] rfl).keep hb7; replace hB0 := (hB0.alloc _).keep hb7; replace hB1 := (hB1.alloc _).keep hb7; replace hf6 := (hf6.rd.alloc _).below hb7; clear u0 u1 u2; have g7 := (g6.alloc g6.size _).trans (hb7.mono (by have := g6.size; simp; omega)); obtain ⟨q0, q1, q2⟩ := (hC).three; have lC := hC.lt)
        | (go_at_call 16; refine (toTerm_any k n ks A c _ (by have := hz.out; omega) (hr.below g5)).mono ?_; rintro e w6 ⟨A6, c6, rfl, hl6, hf6, hb6⟩; replace hB0 := hB0.keep hb6; replace hB1 := hB1.keep hb6; clear p0 p1 p2; obtain ⟨u0, u1, u2⟩ := (hB1).three; have lB1 := hB1.lt; have g6 := g5.trans (hb6.mono g5.size))
        | (go_at_call 38; refine (sMoreGeneral_any k n ks A3 c3 z kv nv vs A4 c4 y _ hz0 hy0 (by have := hz.out; omega) (by have := hz.out; have := hz2.out; omega) hf3 hf4.rd).mono ?_; rintro e w5 h5; rw [hbq'.out] at h5; obtain ⟨rfl, hb5⟩ := h5; replace hB0 := hB0.keep hb5; replace hB1 := hB1.keep hb5; have g5 := g4.trans (hb5.mono g4.size); obtain ⟨p0, p1, p2⟩ := (hB0).three; clear hf3 hf4))
      have r0 := hC.rule (i := 0) rfl
      have r1 := hC.rule (i := 1) rfl
      have r2 := hC.rule (i := 2) rfl
      have s0 := hB0.rule (i := 0) rfl
      have s1 := hB0.rule (i := 1) rfl
      have s2 := hB0.rule (i := 2) rfl
      refine wp_region_first (fun w' => Below w8.heap.size w8 w') [0, 1] [2] [3, 4] [_, _] [_] [_, _] (by kernel_rfl) (by kernel_rfl) rfl rfl rfl (fun _ _ d _ _ h => by cases d <;> exact h) (Below.refl _ _).drew ?_
      repeat (first | ((refine take_skip (a' := ?_) ?_ ?_ ?_); (rotate_left); (· (simp [Region.wanted, yielded]; done)); (· (simp only [Act.put, List.setIfInBounds_toArray, List.set_cons_zero, List.set_cons_succ]; exact rfl))) | ((refine take_step (v := ?_) (a' := ?_) ?_ ?_ ?_ ?_); (rotate_left 2); (· (simp [Region.wanted, yielded]; done)); (· (intro w' hS'; go_simp; try (with_reducible rfl))); (· (simp only [Act.put, List.setIfInBounds_toArray, List.set_cons_zero, List.set_cons_succ]; exact rfl))))
      refine take_nil (then_cons ?_)
      go_wp2_with (go_at_call 16; refine (toTerm_any k n ks A c _ (by have := hz.out; have := hz2.out; omega) (hr.below g8).drew).mono ?_; rintro e w9 ⟨A9, c9, rfl, hl9, hf9, hb9⟩)
      replace hb9 : Below w8.heap.size w8 w9 := (Below.refl _ _).drew.trans hb9
      refine mid_intro hb9 (then_nil ?_)
      clear r0 r1 r2 s0 s1 s2
      have g9 := g8.trans (hb9.mono g8.size)
      replace hB0 := hB0.keep hb9
      replace hB1 := hB1.keep hb9
      replace hD := hD.keep hb9
      replace hf6 := hf6.below hb9
      replace hf7 := hf7.below hb9
      go_wp2_with (go_at_call 18; refine (eqTerm_any k n ks A6 c6 k n ks A9 c9 _ hl6 hl6 hf6 hf9.rd).mono ?_; rw [tmEq_self]; rintro e w10 ⟨rfl, hb10⟩)
      replace hB0 := hB0.keep hb10
      replace hB1 := hB1.keep hb10
      replace hD := hD.keep hb10
      replace hf7 := hf7.below hb10
      have g10 := g9.trans (hb10.mono g9.size)
      have r0 := hD.rule (i := 0) rfl
      have r1 := hD.rule (i := 1) rfl
      have r2 := hD.rule (i := 2) rfl
      have s0 := hB1.rule (i := 0) rfl
      have s1 := hB1.rule (i := 1) rfl
      have s2 := hB1.rule (i := 2) rfl
      refine wp_region_first (fun w' => Below w10.heap.size w10 w') [0, 1] [2] [3, 4] [_, _] [_] [_, _] (by kernel_rfl) (by kernel_rfl) rfl rfl rfl (fun _ _ d _ _ h => by cases d <;> exact h) (Below.refl _ _).drew ?_
      repeat (first | ((refine take_skip (a' := ?_) ?_ ?_ ?_); (rotate_left); (· (simp [Region.wanted, yielded]; done)); (· (simp only [Act.put, List.setIfInBounds_toArray, List.set_cons_zero, List.set_cons_succ]; exact rfl))) | ((refine take_step (v := ?_) (a' := ?_) ?_ ?_ ?_ ?_); (rotate_left 2); (· (simp [Region.wanted, yielded]; done)); (· (intro w' hS'; go_simp; try (with_reducible rfl))); (· (simp only [Act.put, List.setIfInBounds_toArray, List.set_cons_zero, List.set_cons_succ]; exact rfl))))
      refine take_nil (then_cons ?_)
      go_wp2_with (go_at_call 16; refine (toTerm_any kv nv vs V cv _ (by have := hz.out; have := hz2.out; omega) (hrV.below g10).drew).mono ?_; rintro e w11 ⟨A11, c11, rfl, hl11, hf11, hb11⟩)
      replace hb11 : Below w10.heap.size w10 w11 := (Below.refl _ _).drew.trans hb11
      refine mid_intro hb11 (then_nil ?_)
      clear r0 r1 r2 s0 s1 s2
      have g11 := g10.trans (hb11.mono g10.size)

      replace hf7 := hf7.below hb11
      go_wp2_with (go_at_call 18; refine (eqTerm_any kv nv vs A7 c7 kv nv vs A11 c11 _ hl7 hl7 hf7 hf11.rd).mono ?_; rw [tmEq_self]; rintro e w12 ⟨rfl, hb12⟩; have g12 := g11.trans (hb12.mono g11.size))
      go_ret
      exact ⟨rfl, g12⟩
    · have hsz2 := szR_no (left := 1048576 - sizes ks) (m := sizes vs) (by omega)
      clear hs hs2
      go_enter Try.func9, Try.ntmps9
      go_wp2_with (first | (go_at_call 14; refine (szTerm_any kv nv vs V cv (1048576 - sizes ks) _ hlV (hrV.below g1) (by have := hz.out; omega) (by omega)).mono ?_; rw [hsz2]; rintro e w2 ⟨rfl, hb2⟩; replace hB0 := hB0.keep hb2; replace hB1 := hB1.keep hb2; clear u0 u1 u2; have g2 := g1.trans (hb2.mono g1.size)) | (go_at_call 14; refine (szTerm_any k n ks A c 1048576 _ hl ((hr.alloc _).alloc _) (by omega) (by omega)).mono ?_; rw [hsz]; rintro e w1 ⟨rfl, hb1⟩; have hB0 := ((Blk.new_ w 24 #[.int .i64 k, .int .i64 n, .slice A ks.length c] rfl).alloc (.cells #[.int .i64 kv, .int .i64 nv, .slice V vs.length cv] 24)).keep hb1; have hB1 : Blk w1 (w.heap.size + 1) #[.int .i64 kv, .int .i64 nv, .slice V vs.length cv] := (Blk.new_ (w.alloc (.cells #[.int .i64 k, .int .i64 n, .slice A ks.length c] 24)) 24 #[.int .i64 kv, .int .i64 nv, .slice V vs.length cv] (by simp)).keep hb1; have g1 : Below w.heap.size w w1 := (((Below.refl _ _).alloc (Nat.le_refl _) _).alloc (by simp) _).trans (hb1.mono (by simp; omega)); obtain ⟨u0, u1, u2⟩ := (hB1).three))
      go_ret
      exact ⟨rfl, g2⟩
  · have hsz := szR_no (left := 1048576) (m := sizes ks) (by omega)
    clear hs
    go_enter Try.func9, Try.ntmps9
    go_wp2_with (go_at_call 14; refine (szTerm_any k n ks A c 1048576 _ hl ((hr.alloc _).alloc _) (by omega) (by omega)).mono ?_; rw [hsz]; rintro e w1 ⟨rfl, hb1⟩; replace hb1 : Below w.heap.size w w1 := (((Below.refl _ _).alloc (Nat.le_refl _) _).alloc (by simp) _).trans (hb1.mono (by simp; omega)))
    go_ret
    exact ⟨rfl, hb1⟩
end Go.Proofs.Ytefifcmieicnlaa
