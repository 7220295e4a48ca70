/-
  The statement FnMatchHoleSaid, proved.
-/
import Derived.Test.YtodkenpmhhbppaaK1
import Derived.Test.YtodkenpmhhbppaaK2
import Derived.Test.YtodkenpmhhbppaaK5
import Derived.Test.YtodkenpmhhbppaaK8
import Derived.Test.YtodkenpmhhbppaaK12
import Derived.Test.YtodkenpmhhbppaaK15

namespace Go.Proofs.Ytodkenpmhhbppaa
open Go.RowKit
set_option linter.unusedSimpArgs false
set_option linter.unusedVariables false

theorem gotLO_pair {w : World} {o : Option (List Tm)} {e : Ending} {w' : World} (h : GotLO w o e w') {L : List Tm} (hL : o.getD [] = L) {b : Bool} (hb : o.isSome = b) :
    ∃ A c, e = .returned (.tuple #[.slice A L.length c, .bool b]) ∧ Fresh w.heap.size w' A L ∧ Below w.heap.size w w' := by
  subst hL hb; exact h
set_option maxHeartbeats 8000000 in
set_option maxRecDepth 100000 in
theorem lawMatchClosed_any (bs : List Int) (A : Option Addr) (c : Nat) (w : World) (hl : bs.length ≤ 9223372036854775807) (hc : bs.length ≤ c) (hr : RdY w A bs) :
    Calls Try.prog 7 #[.slice A bs.length c] w fun e w' => e = .returned (.bool true) ∧ Below w.heap.size w w' := by
  by_cases hbig : 1048576 < bs.length
  · go_enter Try.func7, Try.ntmps7
    go_wp2_with fail
    go_ret
    exact ⟨rfl, Below.refl _ _⟩
  · go_enter Try.func7, Try.ntmps7
    go_wp2_with (go_at_call 32; refine (drawMatch_any bs A c _ hl hc hr).mono ?_; rintro e w1 ⟨k, n, ks, A1, c1, z, ku, nu, us, U1, cu, rfl, hlk, hsk, hlu, hsu, hz1, hz2, hrk, hru, hb1⟩)
    refine name_calls ?_
    intro w2 hw2
    have hX : Blk w2 w1.heap.size #[.int .i64 k, .int .i64 n, .slice A1 ks.length c1] := by rw [hw2]; exact (Blk.new_ _ _ _ rfl).alloc _
    have hU : Blk w2 (w1.heap.size + 1) #[.int .i64 ku, .int .i64 nu, .slice U1 us.length cu] := by rw [hw2]; exact (Blk.new_ _ _ _ (by simp))
    have hrk2 : Rd w2 A1 0 ks := by rw [hw2]; exact ((hrk.alloc _).alloc _)
    have hru2 : Rd w2 U1 0 us := by rw [hw2]; exact ((hru.alloc _).alloc _)
    have g2 : Below w.heap.size w w2 := by rw [hw2]; exact (hb1.alloc hb1.size _).alloc (by have := hb1.size; simp; omega) _
    clear hw2
    obtain ⟨x0, x1, x2⟩ := hX.three
    obtain ⟨u0, u1, u2⟩ := hU.three
    cases hv : validT (.mk k n ks) with
    | true =>
      cases hs : tmEq (.mk k n ks) (.mk ku nu us) with
      | true =>
        have hL := hide (show (matchTS (.mk k n ks) 0 (.mk ku nu us)).getD [] = [] by rw [closed_law]; split <;> rfl)
        have hB := hide (show (matchTS (.mk k n ks) 0 (.mk ku nu us)).isSome = true by rw [closed_law, hv, hs]; rfl)
        have hV := hide hv
        have hS := hide hs
        clear hv hs
        go_wp2_with (first
          | (go_at_call 19; have _t := tok5; refine (iSame_any k n ks A1 c1 ku nu us U1 cu _ hlk hlu (hrk2.keeps K5) (hru2.keeps K5)).mono ?_; rw [hS.out]; rintro e w6 ⟨rfl, hb6⟩; have g6 := g5.trans (hb6.mono g5.size))
          | (go_at_call 34; have _t := tok4; refine (iTermValid_any k n ks A1 c1 _ (by omega) (hrk2.keeps K4)).mono ?_; rw [hV.out]; rintro e w5 ⟨rfl, hb5⟩; replace hX := hX.keep hb5; replace hU := hU.keep hb5; clear x0 x1 x2 u0 u1 u2; obtain ⟨x0, x1, x2⟩ := hX.three; obtain ⟨u0, u1, u2⟩ := hU.three; have g5 := g4.trans (hb5.mono g4.size); have K5 : Keeps w2 w5 := K4.trans (Keeps.of_below hb5); have tok5 := trivial)
          | (go_at_call 33; have _t := tok3; refine (sMatchTerm_any k n ks A1 c1 0 (by decide) ku nu us U1 cu _ (by omega) (by omega) (hrk2.keeps K3) (hru2.keeps K3)).mono ?_; rintro e w4 hgo; obtain ⟨A4, c4, rfl, hf4, hb4⟩ := gotLO_pair hgo hL.out hB.out; clear hgo; replace hX := hX.keep hb4; replace hU := hU.keep hb4; clear x0 x1 x2 u0 u1 u2; obtain ⟨x0, x1, x2⟩ := hX.three; obtain ⟨u0, u1, u2⟩ := hU.three; have g4 := g3.trans (hb4.mono g3.size); have K4 : Keeps w2 w4 := K3.trans (Keeps.of_below hb4); have tok4 := trivial)
          | (go_at_call 29; refine (iMatchTerm_any k n ks A1 c1 0 (by decide) ku nu us U1 cu _ (by omega) (by omega) hrk2 hru2).mono ?_; rintro e w3 hgo; obtain ⟨A3, c3, rfl, hf3, hb3⟩ := gotLO_pair hgo hL.out hB.out; clear hgo; replace hX := hX.keep hb3; replace hU := hU.keep hb3; clear x0 x1 x2 u0 u1 u2; obtain ⟨x0, x1, x2⟩ := hX.three; obtain ⟨u0, u1, u2⟩ := hU.three; have g3 := g2.trans (hb3.mono g2.size); have K3 : Keeps w2 w3 := Keeps.of_below hb3; have tok3 := trivial))
        go_ret
        exact ⟨rfl, g6⟩
      | false =>
        have hL := hide (show (matchTS (.mk k n ks) 0 (.mk ku nu us)).getD [] = [] by rw [closed_law]; split <;> rfl)
        have hB := hide (show (matchTS (.mk k n ks) 0 (.mk ku nu us)).isSome = false by rw [closed_law, hv, hs]; rfl)
        have hV := hide hv
        have hS := hide hs
        clear hv hs
        go_wp2_with (first
          | (go_at_call 19; have _t := tok5; refine (iSame_any k n ks A1 c1 ku nu us U1 cu _ hlk hlu (hrk2.keeps K5) (hru2.keeps K5)).mono ?_; rw [hS.out]; rintro e w6 ⟨rfl, hb6⟩; have g6 := g5.trans (hb6.mono g5.size))
          | (go_at_call 34; have _t := tok4; refine (iTermValid_any k n ks A1 c1 _ (by omega) (hrk2.keeps K4)).mono ?_; rw [hV.out]; rintro e w5 ⟨rfl, hb5⟩; replace hX := hX.keep hb5; replace hU := hU.keep hb5; clear x0 x1 x2 u0 u1 u2; obtain ⟨x0, x1, x2⟩ := hX.three; obtain ⟨u0, u1, u2⟩ := hU.three; have g5 := g4.trans (hb5.mono g4.size); have K5 : Keeps w2 w5 := K4.trans (Keeps.of_below hb5); have tok5 := trivial)
          | (go_at_call 33; have _t := tok3; refine (sMatchTerm_any k n ks A1 c1 0 (by decide) ku nu us U1 cu _ (by omega) (by omega) (hrk2.keeps K3) (hru2.keeps K3)).mono ?_; rintro e w4 hgo; obtain ⟨A4, c4, rfl, hf4, hb4⟩ := gotLO_pair hgo hL.out hB.out; clear hgo; replace hX := hX.keep hb4; replace hU := hU.keep hb4; clear x0 x1 x2 u0 u1 u2; obtain ⟨x0, x1, x2⟩ := hX.three; obtain ⟨u0, u1, u2⟩ := hU.three; have g4 := g3.trans (hb4.mono g3.size); have K4 : Keeps w2 w4 := K3.trans (Keeps.of_below hb4); have tok4 := trivial)
          | (go_at_call 29; refine (iMatchTerm_any k n ks A1 c1 0 (by decide) ku nu us U1 cu _ (by omega) (by omega) hrk2 hru2).mono ?_; rintro e w3 hgo; obtain ⟨A3, c3, rfl, hf3, hb3⟩ := gotLO_pair hgo hL.out hB.out; clear hgo; replace hX := hX.keep hb3; replace hU := hU.keep hb3; clear x0 x1 x2 u0 u1 u2; obtain ⟨x0, x1, x2⟩ := hX.three; obtain ⟨u0, u1, u2⟩ := hU.three; have g3 := g2.trans (hb3.mono g2.size); have K3 : Keeps w2 w3 := Keeps.of_below hb3; have tok3 := trivial))
        go_ret
        exact ⟨rfl, g6⟩
    | false =>
      cases hs : tmEq (.mk k n ks) (.mk ku nu us) with
      | true =>
        have hL := hide (show (matchTS (.mk k n ks) 0 (.mk ku nu us)).getD [] = [] by rw [closed_law]; split <;> rfl)
        have hB := hide (show (matchTS (.mk k n ks) 0 (.mk ku nu us)).isSome = false by rw [closed_law, hv, hs]; rfl)
        have hV := hide hv
        have hS := hide hs
        clear hv hs
        go_wp2_with (first
          | (go_at_call 19; have _t := tok5; refine (iSame_any k n ks A1 c1 ku nu us U1 cu _ hlk hlu (hrk2.keeps K5) (hru2.keeps K5)).mono ?_; rw [hS.out]; rintro e w6 ⟨rfl, hb6⟩; have g6 := g5.trans (hb6.mono g5.size))
          | (go_at_call 34; have _t := tok4; refine (iTermValid_any k n ks A1 c1 _ (by omega) (hrk2.keeps K4)).mono ?_; rw [hV.out]; rintro e w5 ⟨rfl, hb5⟩; replace hX := hX.keep hb5; replace hU := hU.keep hb5; clear x0 x1 x2 u0 u1 u2; obtain ⟨x0, x1, x2⟩ := hX.three; obtain ⟨u0, u1, u2⟩ := hU.three; have g5 := g4.trans (hb5.mono g4.size); have K5 : Keeps w2 w5 := K4.trans (Keeps.of_below hb5); have tok5 := trivial)
          | (go_at_call 33; have _t := tok3; refine (sMatchTerm_any k n ks A1 c1 0 (by decide) ku nu us U1 cu _ (by omega) (by omega) (hrk2.keeps K3) (hru2.keeps K3)).mono ?_; rintro e w4 hgo; obtain ⟨A4, c4, rfl, hf4, hb4⟩ := gotLO_pair hgo hL.out hB.out; clear hgo; replace hX := hX.keep hb4; replace hU := hU.keep hb4; clear x0 x1 x2 u0 u1 u2; obtain ⟨x0, x1, x2⟩ := hX.three; obtain ⟨u0, u1, u2⟩ := hU.three; have g4 := g3.trans (hb4.mono g3.size); have K4 : Keeps w2 w4 := K3.trans (Keeps.of_below hb4); have tok4 := trivial)
          | (go_at_call 29; refine (iMatchTerm_any k n ks A1 c1 0 (by decide) ku nu us U1 cu _ (by omega) (by omega) hrk2 hru2).mono ?_; rintro e w3 hgo; obtain ⟨A3, c3, rfl, hf3, hb3⟩ := gotLO_pair hgo hL.out hB.out; clear hgo; replace hX := hX.keep hb3; replace hU := hU.keep hb3; clear x0 x1 x2 u0 u1 u2; obtain ⟨x0, x1, x2⟩ := hX.three; obtain ⟨u0, u1, u2⟩ := hU.three; have g3 := g2.trans (hb3.mono g2.size); have K3 : Keeps w2 w3 := Keeps.of_below hb3; have tok3 := trivial))
        go_ret
        exact ⟨rfl, g5⟩
      | false =>
        have hL := hide (show (matchTS (.mk k n ks) 0 (.mk ku nu us)).getD [] = [] by rw [closed_law]; split <;> rfl)
        have hB := hide (show (matchTS (.mk k n ks) 0 (.mk ku nu us)).isSome = false by rw [closed_law, hv, hs]; rfl)
        have hV := hide hv
        have hS := hide hs
        clear hv hs
        go_wp2_with (first
          | (go_at_call 19; have _t := tok5; refine (iSame_any k n ks A1 c1 ku nu us U1 cu _ hlk hlu (hrk2.keeps K5) (hru2.keeps K5)).mono ?_; rw [hS.out]; rintro e w6 ⟨rfl, hb6⟩; have g6 := g5.trans (hb6.mono g5.size))
          | (go_at_call 34; have _t := tok4; refine (iTermValid_any k n ks A1 c1 _ (by omega) (hrk2.keeps K4)).mono ?_; rw [hV.out]; rintro e w5 ⟨rfl, hb5⟩; replace hX := hX.keep hb5; replace hU := hU.keep hb5; clear x0 x1 x2 u0 u1 u2; obtain ⟨x0, x1, x2⟩ := hX.three; obtain ⟨u0, u1, u2⟩ := hU.three; have g5 := g4.trans (hb5.mono g4.size); have K5 : Keeps w2 w5 := K4.trans (Keeps.of_below hb5); have tok5 := trivial)
          | (go_at_call 33; have _t := tok3; refine (sMatchTerm_any k n ks A1 c1 0 (by decide) ku nu us U1 cu _ (by omega) (by omega) (hrk2.keeps K3) (hru2.keeps K3)).mono ?_; rintro e w4 hgo; obtain ⟨A4, c4, rfl, hf4, hb4⟩ := gotLO_pair hgo hL.out hB.out; clear hgo; replace hX := hX.keep hb4; replace hU := hU.keep hb4; clear x0 x1 x2 u0 u1 u2; obtain ⟨x0, x1, x2⟩ := hX.three; obtain ⟨u0, u1, u2⟩ := hU.three; have g4 := g3.trans (hb4.mono g3.size); have K4 : Keeps w2 w4 := K3.trans (Keeps.of_below hb4); have tok4 := trivial)
          | (go_at_call 29; refine (iMatchTerm_any k n ks A1 c1 0 (by decide) ku nu us U1 cu _ (by omega) (by omega) hrk2 hru2).mono ?_; rintro e w3 hgo; obtain ⟨A3, c3, rfl, hf3, hb3⟩ := gotLO_pair hgo hL.out hB.out; clear hgo; replace hX := hX.keep hb3; replace hU := hU.keep hb3; clear x0 x1 x2 u0 u1 u2; obtain ⟨x0, x1, x2⟩ := hX.three; obtain ⟨u0, u1, u2⟩ := hU.three; have g3 := g2.trans (hb3.mono g2.size); have K3 : Keeps w2 w3 := Keeps.of_below hb3; have tok3 := trivial))
        go_ret
        exact ⟨rfl, g5⟩
end Go.Proofs.Ytodkenpmhhbppaa

namespace Go.Proofs.Ytodkenpmhhbppaa
open Go.RowKit
set_option linter.unusedSimpArgs false
set_option linter.unusedVariables false

set_option maxHeartbeats 8000000 in
set_option maxRecDepth 100000 in
theorem lawMatchHole_any (bs : List Int) (A : Option Addr) (c : Nat) (w : World) (hl : bs.length ≤ 9223372036854775807) (hc : bs.length ≤ c) (hr : RdY w A bs) :
    Calls Try.prog 8 #[.slice A bs.length c] w fun e w' => e = .returned (.bool true) ∧ Below w.heap.size w w' := by
  by_cases hbig : 1048576 < bs.length
  · go_enter Try.func8, Try.ntmps8
    go_wp2_with fail
    go_ret
    exact ⟨rfl, Below.refl _ _⟩
  · go_enter Try.func8, Try.ntmps8
    go_wp2_with (go_at_call 32; refine (drawMatch_any bs A c _ hl hc hr).mono ?_; rintro e w1 ⟨k, n, ks, A1, c1, z, ku, nu, us, U1, cu, rfl, hlk, hsk, hlu, hsu, hz1, hz2, hrk, hru, hb1⟩)
    refine name_calls ?_
    intro w2 hw2
    have hU : Blk w2 (w1.heap.size + 1) #[.int .i64 ku, .int .i64 nu, .slice U1 us.length cu] := by rw [hw2]; exact (Blk.new_ _ _ _ (by simp)).alloc _
    have hX : Blk w2 (w1.heap.size + 1 + 1) #[.int .i64 1, .int .i64 0, .slice none 0 0] := by rw [hw2]; exact Blk.new_ _ _ _ (by simp)
    have hru2 : Rd w2 U1 0 us := by rw [hw2]; exact ((hru.alloc _).alloc _).alloc _
    have g2 : Below w.heap.size w w2 := by rw [hw2]; exact ((hb1.alloc hb1.size _).alloc (by have := hb1.size; simp; omega) _).alloc (by have := hb1.size; simp; omega) _
    clear hw2
    obtain ⟨x0, x1, x2⟩ := hX.three
    obtain ⟨u0, u1, u2⟩ := hU.three
    cases hv : validT (.mk ku nu us) with
    | true =>
      have hL := hide (show (matchTS (.mk 1 0 []) 1 (.mk ku nu us)).getD [] = [.mk ku nu us] by rw [hole_law, hv]; rfl)
      have hB := hide (show (matchTS (.mk 1 0 []) 1 (.mk ku nu us)).isSome = true by rw [hole_law, hv]; rfl)
      have hV := hide hv
      clear hv
      go_wp2_with (first
        | (go_at_call 33; have _t := tok3; refine (sMatchTerm_any 1 0 [] none 0 1 (by decide) ku nu us U1 cu _ (by simp [sizes]) (by omega) Rd.nil (hru2.keeps K3)).mono ?_; rintro e w4 hgo; obtain ⟨A4, c4, rfl, hf4, hb4⟩ := gotLO_pair hgo hL.out hB.out; clear hgo; replace hX := hX.keep hb4; replace hU := hU.keep hb4; clear x0 x1 x2 u0 u1 u2; obtain ⟨x0, x1, x2⟩ := hX.three; obtain ⟨u0, u1, u2⟩ := hU.three; have g4 := g3.trans (hb4.mono g3.size); have K4 : Keeps w2 w4 := K3.trans (Keeps.of_below hb4); have tok4 := trivial)
        | (go_at_call 29; refine (iMatchTerm_any 1 0 [] none 0 1 (by decide) ku nu us U1 cu _ (by simp [sizes]) (by omega) Rd.nil hru2).mono ?_; rintro e w3 hgo; obtain ⟨A3, c3, rfl, hf3, hb3⟩ := gotLO_pair hgo hL.out hB.out; clear hgo; replace hX := hX.keep hb3; replace hU := hU.keep hb3; clear x0 x1 x2 u0 u1 u2; obtain ⟨x0, x1, x2⟩ := hX.three; obtain ⟨u0, u1, u2⟩ := hU.three; have g3 := g2.trans (hb3.mono g2.size); have K3 : Keeps w2 w3 := Keeps.of_below hb3; have tok3 := trivial))
      have smV : ∀ w', Below w4.heap.size w4 w' → Calls Try.prog 34 #[.agg #[.int .i64 ku, .int .i64 nu, .slice U1 us.length cu]] w' fun e w'' => e = .returned (.bool true) ∧ Below w'.heap.size w' w'' := fun w' hw' => by
        have := iTermValid_any ku nu us U1 cu w' (by omega) ((hru2.keeps K4).below hw')
        rwa [hV.out] at this
      have smD : ∀ w', Below w4.heap.size w4 w' → Calls Try.prog 31 #[.slice A3 1 c3, .slice A4 1 c4] w' fun e w'' => e = .returned (.bool true) ∧ Below w'.heap.size w' w'' := fun w' hw' =>
        dk_same [.mk ku nu us] A3 c3 A4 c4 w' (by simp) ((hf3.rd.below hb4).below hw') (hf4.rd.below hw')
      have r0 := hU.rule (i := 0) rfl
      have r1 := hU.rule (i := 1) rfl
      have r2 := hU.rule (i := 2) rfl
      obtain ⟨b, off, k', n', ks', A', c', rfl, hk, hc1, hc2, hc3, hl', hr'⟩ := (hf3.rd.below hb4).at_ (j := 0) (by simp)
      injection hk with h1 h2 h3
      subst h1 h2 h3
      simp only [Nat.zero_mul, Nat.add_zero] at hc1 hc2 hc3
      have l0 := rule_of hc1
      have l1 := rule_of hc2
      have l2 := rule_of hc3
      have hte := hide (tmEq_self (.mk ku nu us))
      have smS : ∀ w', Below w4.heap.size w4 w' → Calls Try.prog 19 #[.agg #[.int .i64 ku, .int .i64 nu, .slice A' us.length c'], .agg #[.int .i64 ku, .int .i64 nu, .slice U1 us.length cu]] w' fun e w'' => e = .returned (.bool true) ∧ Below w'.heap.size w' w'' := fun w' hw' => by
        have := iSame_any ku nu us A' c' ku nu us U1 cu w' hl' hlu (hr'.below hw') ((hru2.keeps K4).below hw')
        rwa [hte.out] at this
      refine wp_region_class (fun w' => Below w4.heap.size w4 w') (by kernel_rfl) (by kernel_rfl) (Below.refl _ _).drew ?_
      repeat (first | ((refine quiet_skip (a' := ?_) ?_ ?_ ?_); (rotate_left); (· (simp [Region.wanted, yielded]; done)); (· (simp only [List.getElem_toArray, List.getElem_cons_zero, List.getElem_cons_succ, Act.put, List.setIfInBounds_toArray, List.set_cons_zero, List.set_cons_succ]; exact rfl))) | ((refine quiet_one (v := ?_) (a' := ?_) ?_ ?_ ?_ ?_); (rotate_left 2); (· (simp [Region.wanted, yielded]; done)); (· (intro w' hS'; go_simp; try (with_reducible rfl))); (· (simp only [List.getElem_toArray, List.getElem_cons_zero, List.getElem_cons_succ, Act.put, List.setIfInBounds_toArray, List.set_cons_zero, List.set_cons_succ]; exact rfl))) | ((refine quiet_below (v := ?_) (a' := ?_) 31 ?_ ?_ ?_ ?_ ?_ ?_); (rotate_left 3); (· (simp [Region.wanted, yielded]; done)); (· (intro w' hS'; go_simp; try (with_reducible rfl))); (· (intro w' hS'; with_reducible exact smD w' hS')); (· (simp only [List.getElem_toArray, List.getElem_cons_zero, List.getElem_cons_succ, Act.put, List.setIfInBounds_toArray, List.set_cons_zero, List.set_cons_succ]; exact rfl))) | ((refine quiet_below (v := ?_) (a' := ?_) 34 ?_ ?_ ?_ ?_ ?_ ?_); (rotate_left 3); (· (simp [Region.wanted, yielded]; done)); (· (intro w' hS'; go_simp; try (with_reducible rfl))); (· (intro w' hS'; with_reducible exact smV w' hS')); (· (simp only [List.getElem_toArray, List.getElem_cons_zero, List.getElem_cons_succ, Act.put, List.setIfInBounds_toArray, List.set_cons_zero, List.set_cons_succ]; exact rfl))) | ((refine quiet_below (v := ?_) (a' := ?_) 19 ?_ ?_ ?_ ?_ ?_ ?_); (rotate_left 3); (· (simp [Region.wanted, yielded]; done)); (· (intro w' hS'; go_simp; try (with_reducible rfl))); (· (intro w' hS'; with_reducible exact smS w' hS')); (· (simp only [List.getElem_toArray, List.getElem_cons_zero, List.getElem_cons_succ, Act.put, List.setIfInBounds_toArray, List.set_cons_zero, List.set_cons_succ]; exact rfl))))
      refine quiet_nil ?_
      intro wa hx1
      go_wp2_with fail
      go_ret
      exact ⟨rfl, g4.trans (hx1.mono g4.size)⟩
    | false =>
      have hL := hide (show (matchTS (.mk 1 0 []) 1 (.mk ku nu us)).getD [] = [] by rw [hole_law, hv]; rfl)
      have hB := hide (show (matchTS (.mk 1 0 []) 1 (.mk ku nu us)).isSome = false by rw [hole_law, hv]; rfl)
      have hV := hide hv
      clear hv
      go_wp2_with (first
        | (go_at_call 33; have _t := tok3; refine (sMatchTerm_any 1 0 [] none 0 1 (by decide) ku nu us U1 cu _ (by simp [sizes]) (by omega) Rd.nil (hru2.keeps K3)).mono ?_; rintro e w4 hgo; obtain ⟨A4, c4, rfl, hf4, hb4⟩ := gotLO_pair hgo hL.out hB.out; clear hgo; replace hX := hX.keep hb4; replace hU := hU.keep hb4; clear x0 x1 x2 u0 u1 u2; obtain ⟨x0, x1, x2⟩ := hX.three; obtain ⟨u0, u1, u2⟩ := hU.three; have g4 := g3.trans (hb4.mono g3.size); have K4 : Keeps w2 w4 := K3.trans (Keeps.of_below hb4); have tok4 := trivial)
        | (go_at_call 29; refine (iMatchTerm_any 1 0 [] none 0 1 (by decide) ku nu us U1 cu _ (by simp [sizes]) (by omega) Rd.nil hru2).mono ?_; rintro e w3 hgo; obtain ⟨A3, c3, rfl, hf3, hb3⟩ := gotLO_pair hgo hL.out hB.out; clear hgo; replace hX := hX.keep hb3; replace hU := hU.keep hb3; clear x0 x1 x2 u0 u1 u2; obtain ⟨x0, x1, x2⟩ := hX.three; obtain ⟨u0, u1, u2⟩ := hU.three; have g3 := g2.trans (hb3.mono g2.size); have K3 : Keeps w2 w3 := Keeps.of_below hb3; have tok3 := trivial))
      have smV : ∀ w', Below w4.heap.size w4 w' → Calls Try.prog 34 #[.agg #[.int .i64 ku, .int .i64 nu, .slice U1 us.length cu]] w' fun e w'' => e = .returned (.bool false) ∧ Below w'.heap.size w' w'' := fun w' hw' => by
        have := iTermValid_any ku nu us U1 cu w' (by omega) ((hru2.keeps K4).below hw')
        rwa [hV.out] at this
      have smD : ∀ w', Below w4.heap.size w4 w' → Calls Try.prog 31 #[.slice A3 0 c3, .slice A4 0 c4] w' fun e w'' => e = .returned (.bool true) ∧ Below w'.heap.size w' w'' := fun w' hw' =>
        dk_same [] A3 c3 A4 c4 w' (by simp) ((hf3.rd.below hb4).below hw') (hf4.rd.below hw')
      have r0 := hU.rule (i := 0) rfl
      have r1 := hU.rule (i := 1) rfl
      have r2 := hU.rule (i := 2) rfl
      have smS : True := trivial
      refine wp_region_class (fun w' => Below w4.heap.size w4 w') (by kernel_rfl) (by kernel_rfl) (Below.refl _ _).drew ?_
      repeat (first | ((refine quiet_skip (a' := ?_) ?_ ?_ ?_); (rotate_left); (· (simp [Region.wanted, yielded]; done)); (· (simp only [List.getElem_toArray, List.getElem_cons_zero, List.getElem_cons_succ, Act.put, List.setIfInBounds_toArray, List.set_cons_zero, List.set_cons_succ]; exact rfl))) | ((refine quiet_one (v := ?_) (a' := ?_) ?_ ?_ ?_ ?_); (rotate_left 2); (· (simp [Region.wanted, yielded]; done)); (· (intro w' hS'; go_simp; try (with_reducible rfl))); (· (simp only [List.getElem_toArray, List.getElem_cons_zero, List.getElem_cons_succ, Act.put, List.setIfInBounds_toArray, List.set_cons_zero, List.set_cons_succ]; exact rfl))) | ((refine quiet_below (v := ?_) (a' := ?_) 31 ?_ ?_ ?_ ?_ ?_ ?_); (rotate_left 3); (· (simp [Region.wanted, yielded]; done)); (· (intro w' hS'; go_simp; try (with_reducible rfl))); (· (intro w' hS'; with_reducible exact smD w' hS')); (· (simp only [List.getElem_toArray, List.getElem_cons_zero, List.getElem_cons_succ, Act.put, List.setIfInBounds_toArray, List.set_cons_zero, List.set_cons_succ]; exact rfl))) | ((refine quiet_below (v := ?_) (a' := ?_) 34 ?_ ?_ ?_ ?_ ?_ ?_); (rotate_left 3); (· (simp [Region.wanted, yielded]; done)); (· (intro w' hS'; go_simp; try (with_reducible rfl))); (· (intro w' hS'; with_reducible exact smV w' hS')); (· (simp only [List.getElem_toArray, List.getElem_cons_zero, List.getElem_cons_succ, Act.put, List.setIfInBounds_toArray, List.set_cons_zero, List.set_cons_succ]; exact rfl))) | fail)
      refine quiet_nil ?_
      intro wa hx1
      go_wp2_with fail
      go_ret
      exact ⟨rfl, g4.trans (hx1.mono g4.size)⟩
end Go.Proofs.Ytodkenpmhhbppaa

namespace Go.Proofs.Ytodkenpmhhbppaa.lMatchHole
open Go.ChangeShapes Go.WideShapes Go.ChangeAt Go.RowKit
set_option linter.unusedVariables false
set_option linter.unusedSimpArgs false

theorem own : ownKnob Try.prog.godebug = none := by kernel_rfl
theorem laidOut : laidOutB Try.prog = true := by kernel_rfl

set_option maxRecDepth 100000 in
theorem lifted (os : Os) (started : os.Started) (H : Type) (enc : TypeId × Value → H) :
    ReturnsInHanded {} Try.checked os 8 .any (Rows.fnMatchHoleSpec.pre6 enc Try.prog Try.f8 Rows.fnMatchHoleRow.domain false) (Rows.fnMatchHoleSpec.post enc Try.prog Try.f8 false true false false) := by
  refine returnsInHanded_of_change (C := Try.checked) own started (by kernel_rfl) Try.func8
    (ChangeSpec.witness6 (enc := enc) (C := Try.checked) false ⟨#[], #[.slice none 0 0], []⟩ 8 (by kernel_rfl) (by kernel_rfl) (by kernel_rfl) (by kernel_rfl)) ?_
  intro W base args ds gs before hval0 hW hcnd _
  have hval : ∀ (j : Nat) t v, Try.f8.params[j]? = some t → args[j]? = some v → Value.okWide Try.prog W .any base t v := hval0
  have hW' := hW
  obtain ⟨p, q, hA0, hV, rfl, hfz, hnd⟩ := hW
  have hA : DataW.TrodAll enc Try.prog W 0 (fun _ => true) true Try.f8.params.toList args.toList ds p := hA0
  rw [Try.params8] at hA hval
  obtain ⟨v0, vs0, d0, ds0, p0, q0, hargs0, rfl, rfl, h0, r0⟩ := trodAll_cons hA
  obtain ⟨rfl, rfl, rfl⟩ := trodAll_nil r0
  obtain rfl : args = #[v0] := by cases args; simp_all
  obtain ⟨rfl, rfl⟩ := trodVars_none hV
  obtain ⟨xs0, P0, cp0, rfl, hl0, hc0, hr0⟩ := open_code (hval 0 22 v0 rfl rfl) h0
  clear hA0 hval0
  simp only [List.append_nil] at hW' hfz
  have hlt : ∀ x ∈ p0, x.block < W.heap.size := fun x hx => hW'.lt x hx
  refine (lawMatchHole_any xs0 P0 cp0 W hl0 hc0 hr0).mono fun e W' ⟨he, hb⟩ => ?_
  subst he
  exact ⟨_, rfl, post_below (pa := p0) (pv := []) hW' (fun _ _ _ => (trodAll_cons_mk (shut_bool Try.underlying4 _) trodAll_mk0)) (fun sp hsp => by
      have := (trodAll_cons_mk (WideElems.Trod_stays (sp' := sp) laidOut (by kernel_rfl) (of_decide_eq_true (by kernel_rfl)) h0 (fun x hx => hb.same (hlt x (by simp [hx]))) (fun x hx => hsp x (by simp [hx]))) trodAll_mk0)
      show DataW.TrodAll enc Try.prog W' 0 sp true Try.f8.params.toList [_] [d0] (p0)
      rw [Try.params8]
      simpa using this) (fun _ _ => rfl) (by simp)
    hb (ok_one (by kernel_rfl) rfl (okWide_bool_mk Try.underlying4 _))⟩

theorem holds : Rows.FnMatchHoleSaid :=
  OpenClaim.holds_of_wide 8 Try.f8 rfl rfl rfl rfl rfl rfl rfl ⟨rfl, rfl, rfl, rfl, rfl⟩ rfl rfl rfl rfl rfl (by kernel_rfl) Try.func8 (by kernel_rfl)
    (of_decide_eq_true (by kernel_rfl)) (by unfold Func.isWrapper; first | (rw [if_pos (by decide +kernel)]; kernel_rfl) | (rw [if_neg (by decide +kernel)]; exact ⟨rfl, rfl⟩))
    (fun os started H enc _ => lifted os started H enc)
end Go.Proofs.Ytodkenpmhhbppaa.lMatchHole
