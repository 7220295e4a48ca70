/-
  The law FnExactTypeForm.
-/
import Derived.Test.YtefifcmieicnlaaForm
import Derived.Test.YtefifcmieicnlaaArg
import Derived.Test.YtefifcmieicnlaaLaw
import Derived.Test.YtefifcmieicnlaaReg
namespace Go.Proofs.Ytefifcmieicnlaa
open Go.RowKit
set_option linter.unusedSimpArgs false
set_option linter.unusedVariables false

theorem Blk.three {w : World} {g : Nat} {x y z : Value} (h : Blk w g #[x, y, z]) : w.cell? ⟨g, 0, none⟩ = some x ∧ w.cell? ⟨g, 1, none⟩ = some y ∧ w.cell? ⟨g, 2, none⟩ = some z :=
  ⟨h.at_ (i := 0) rfl, h.at_ (i := 1) rfl, h.at_ (i := 2) rfl⟩

set_option maxRecDepth 100000 in
set_option maxHeartbeats 2000000 in
theorem law3_any (k n : Int) (ks : List Tm) (A : Option Addr) (c : Nat) (w : World) (hl : ks.length ≤ 9223372036854775807) (hr : Rd w A 0 ks) :
    Calls Try.prog 3 #[.agg #[.int .i64 k, .int .i64 n, .slice A ks.length c]] w fun e w' => e = .returned (.bool true) ∧ Below w.heap.size w w' := by
  by_cases hs : sizes ks ≤ 1048576
  · have hsz := szR_yes (left := 1048576) (m := sizes ks) (by omega)
    have hz := hide hs
    clear hs
    go_enter Try.func3, Try.ntmps3
    go_wp2_with (first
      | (go_at_call 14; refine (szTerm_any k n ks A c 1048576 _ hl (hr.alloc _) (by omega) (by omega)).mono ?_; rw [hsz]; rintro e w1 ⟨rfl, hb1⟩; have hB1 := (Blk.new_ w 24 #[.int .i64 k, .int .i64 n, .slice A ks.length c] rfl).keep hb1; have hr1 := (hr.alloc (.cells #[.int .i64 k, .int .i64 n, .slice A ks.length c] 24)).below hb1; replace hb1 := ((Below.refl _ _).alloc (Nat.le_refl _) _).trans (hb1.mono (by simp)); obtain ⟨p10, p11, p12⟩ := hB1.three; have hlt : decide ((1048576 : Int) - (sizes ks : Int) < 0) = false := decide_eq_false (by have := hz.out; omega))
      | (go_at_call 16; refine (toTerm_any k n ks A c _ (by have := hz.out; omega) hr1).mono ?_; rintro e w2 ⟨A2, c2, rfl, hl2, hf2, hb2⟩; have hB2 := hB1.keep hb2; have hr2 := hr1.below hb2)
      | (go_at_call 15; refine (sTypeForm_any k n ks A2 c2 _ (by have := hz.out; omega) hf2.rd).mono ?_; rintro e w3 ⟨rfl, hb3⟩; have hB3 := hB2.keep hb3; have hr3 := hr2.below hb3; obtain ⟨p30, p31, p32⟩ := hB3.three; have hb13 := hb1.trans ((hb2.trans (hb3.mono hb2.size)).mono hb1.size))
      | (go_at_call 16; refine (toTerm_any k n ks A c _ (by have := hz.out; omega) hr3).mono ?_; rintro e w4 ⟨A4, c4, rfl, hl4, hf4, hb4⟩; have hB4 := hB3.keep hb4; have hr4 := hr3.below hb4)
      | (go_at_call 17; refine (iTypeForm_any k n ks A4 c4 _ (by have := hz.out; omega) (hf4.rd.alloc _)).mono ?_; rintro e w5 ⟨rfl, hb5⟩; have hB5 := (hB4.alloc (.cells #[.int .i64 k, .int .i64 n, .slice A4 ks.length c4] 29)).keep hb5; have hC5 := (Blk.new_ w4 29 #[.int .i64 k, .int .i64 n, .slice A4 ks.length c4] rfl).keep hb5; have hr5 := (hr4.alloc (.cells #[.int .i64 k, .int .i64 n, .slice A4 ks.length c4] 29)).below hb5; have hg5 := (hf4.rd.alloc (.cells #[.int .i64 k, .int .i64 n, .slice A4 ks.length c4] 29)).below hb5))
    have hb15 : Below w.heap.size w w5 := hb13.trans (((hb4.alloc hb4.size _).trans (hb5.mono (by have := hb4.size; simp; omega))).mono hb13.size)
    have r0 := hC5.rule (i := 0) rfl
    have r1 := hC5.rule (i := 1) rfl
    have r2 := hC5.rule (i := 2) rfl
    have q0 := hB5.rule (i := 0) rfl
    have q1 := hB5.rule (i := 1) rfl
    have q2 := hB5.rule (i := 2) rfl
    refine wp_region_first (fun w' => Below w5.heap.size w5 w') [0, 1] [2] [3, 4] [_, _] [_] [_, _] (by kernel_rfl) (by kernel_rfl) rfl rfl rfl (fun _ _ d _ _ h => by cases d <;> exact h) (Below.refl _ _).drew ?_
    repeat (first | ((refine take_skip (a' := ?_) ?_ ?_ ?_); (rotate_left); (· (simp [Region.wanted, yielded]; done)); (· (simp only [Act.put, List.setIfInBounds_toArray, List.set_cons_zero, List.set_cons_succ]; exact rfl))) | ((refine take_step (v := ?_) (a' := ?_) ?_ ?_ ?_ ?_); (rotate_left 2); (· (simp [Region.wanted, yielded]; done)); (· (intro w' hS'; go_simp; try (with_reducible rfl))); (· (simp only [Act.put, List.setIfInBounds_toArray, List.set_cons_zero, List.set_cons_succ]; exact rfl))))
    refine take_nil (then_cons ?_)
    go_wp2_with (go_at_call 16; refine (toTerm_any k n ks A c _ (by have := hz.out; omega) hr5.drew).mono ?_; rintro e w6 ⟨A6, c6, rfl, hl6, hf6, hb6⟩)
    have hb56 : Below w5.heap.size w5 w6 := (Below.refl _ _).drew.trans hb6
    refine mid_intro hb56 (then_nil ?_)
    go_wp2_with (go_at_call 18; refine (eqTerm_any k n ks A4 c4 k n ks A6 c6 _ hl4 hl6 (hg5.below hb56) hf6.rd).mono ?_; rw [tmEq_self]; rintro e w7 ⟨rfl, hb7⟩)
    go_ret
    exact ⟨rfl, hb15.trans ((hb56.trans (hb7.mono hb56.size)).mono hb15.size)⟩
  · have hsz := szR_no (left := 1048576) (m := sizes ks) (by omega)
    clear hs
    go_enter Try.func3, Try.ntmps3
    go_wp2_with (go_at_call 14; refine (szTerm_any k n ks A c 1048576 _ hl (hr.alloc _) (by omega) (by omega)).mono ?_; rw [hsz]; rintro e w1 ⟨rfl, hb1⟩; replace hb1 := ((Below.refl _ _).alloc (Nat.le_refl _) _).trans (hb1.mono (by simp)))
    go_ret
    exact ⟨rfl, hb1⟩
end Go.Proofs.Ytefifcmieicnlaa
