/-
  Texts that are common to the laws: LawCS. No condition.
-/
import Derived.Test.YtodkenpmhhbppaaK5
import Derived.Test.YtodkenpmhhbppaaK32
import Derived.Test.YtodkenpmhhbppaaK35

namespace Go.Proofs.Ytodkenpmhhbppaa
open Go.RowKit
set_option linter.unusedSimpArgs false
set_option linter.unusedVariables false

theorem cpS_noneE {w : World} {e : Ending} {w' : World} (h : CpS w none e w') : ∃ X c, e = .returned (.tuple #[.agg #[.int .i64 0, .int .i64 0, .slice none 0 0], .slice X 0 c, .slice X 0 c, .bool false]) ∧ Below w.heap.size w w' := by
  obtain ⟨⟨X, c, he⟩, hb⟩ := h; exact ⟨X, c, he, hb⟩
theorem cpS_someE {w : World} {k n : Int} {ks l r : List Tm} {e : Ending} {w' : World} (h : CpS w (some (.mk k n ks, (l, r))) e w') :
    ∃ A c L cl R cr, e = .returned (.tuple #[.agg #[.int .i64 k, .int .i64 n, .slice A ks.length c], .slice L l.length cl, .slice R l.length cr, .bool true]) ∧ ks.length ≤ 9223372036854775807 ∧ Rd w' A 0 ks ∧ Rd w' L 0 l ∧ Rd w' R 0 r ∧ Below w.heap.size w w' := by
  obtain ⟨A, c, L, cl, R, cr, he, hl, h0, h1, h2, hb⟩ := h
  exact ⟨A, c, L, cl, R, cr, he, hl, h0.rd, h1.rd, h2.rd, hb⟩
set_option maxHeartbeats 8000000 in
set_option maxRecDepth 100000 in
theorem lawCommonSame_any (bs : List Int) (A : Option Addr) (c : Nat) (w : World) (hl : bs.length ≤ 9223372036854775807) (hc : bs.length ≤ c) (hr : RdY w A bs) :
    Calls Try.prog 11 #[.slice A bs.length c] w fun e w' => e = .returned (.bool true) ∧ Below w.heap.size w w' := by
  by_cases hbig : 1048576 < bs.length
  · go_enter Try.func11, Try.ntmps11
    go_wp2_with fail
    go_ret
    exact ⟨rfl, Below.refl _ _⟩
  · go_enter Try.func11, Try.ntmps11
    go_upto_region 4 with (go_at_call 39; refine (drawCmp_any bs A c _ hl hc hr).mono ?_; rintro e w1 ⟨k, n, ks, A1, c1, ku, nu, us, U1, cu, rfl, hlk, hlu, hsk, hsu, hrk, hru, hb1⟩)
    refine name_world ?_
    intro w2 hw2
    have hX : Blk w2 w1.heap.size #[.int .i64 k, .int .i64 n, .slice A1 ks.length c1] := by rw [hw2]; exact (Blk.new_ _ 25 _ rfl).alloc _
    have rk : Rd w2 A1 0 ks := by rw [hw2]; exact (hrk.alloc _).alloc _
    have g2 : Below w.heap.size w w2 := by rw [hw2]; exact by_alloc (by_alloc hb1 _) _
    clear hw2
    have lX := hX.lt
    obtain ⟨p0, p1, p2⟩ := hX.three
    cases hv : validT (.mk k n ks) with
    | true =>
      have hcp := hide (show cpI (.mk k n ks) (.mk k n ks) = some (.mk k n ks, ([], [])) by rw [cp_self, hv, if_pos rfl])
      have hcs := hide (show cpS (.mk k n ks) (.mk k n ks) = some (.mk k n ks, ([], [])) by rw [cp_eq, cp_self, hv, if_pos rfl])
      have hV := hide hv
      clear hv
      go_wp2_with (first
        | (go_at_call 19; have _t := tok6; refine (iSame_any k n ks A3 c3 k n ks A1 c1 _ hlk hlk (r3.keeps (K4.trans (K5.trans K6))) (rk.keeps K26)).mono ?_; rw [tmEq_self]; rintro e w7 ⟨rfl, hb7⟩; have g7 := g6.trans (hb7.mono g6.size))
        | (go_at_call 34; have _t := tok5; refine (iTermValid_any k n ks A1 c1 _ (by omega) (rk.keeps K25)).mono ?_; rw [hV.out]; rintro e w6 ⟨rfl, hb6⟩; have g6 := g5.trans (hb6.mono g5.size); have K6 := Keeps.of_below hb6; have K26 := K25.trans K6; have hX6 := hX5.keep hb6; have hY6 := hY5.keep hb6; clear p0 p1 p2 q0 q1 q2; obtain ⟨p0, p1, p2⟩ := hX6.three; obtain ⟨q0, q1, q2⟩ := hY6.three; have tok6 := trivial)
        | (go_at_call 19; have _t := tok4; refine (iSame_any k n ks A3 c3 k n ks A4 c4 _ hlk hlk ((r3.keeps K4).alloc _) (r4.alloc _)).mono ?_; rw [tmEq_self]; rintro e w5 ⟨rfl, hb5⟩; have g5 := (by_alloc g4 (.cells #[.int .i64 k, .int .i64 n, .slice A4 ks.length c4] 25)).trans (hb5.mono (by have := g4.size; simp; omega)); have K5 := (Keeps.alloc w4 (.cells #[.int .i64 k, .int .i64 n, .slice A4 ks.length c4] 25)).trans (Keeps.of_below hb5); have K25 := K24.trans K5; have hX5 := (hX4.alloc (.cells #[.int .i64 k, .int .i64 n, .slice A4 ks.length c4] 25)).keep hb5; have hY5 := (hY4.alloc (.cells #[.int .i64 k, .int .i64 n, .slice A4 ks.length c4] 25)).keep hb5; clear p0 p1 p2 q0 q1 q2; obtain ⟨p0, p1, p2⟩ := hX5.three; obtain ⟨q0, q1, q2⟩ := hY5.three; have tok5 := trivial)
        | (go_at_call 41; have _t := tok3; refine (sCommonPattern_any k n ks A1 c1 k n ks A1 c1 _ (by omega) (by omega) ((rk.keeps K23).alloc _) ((rk.keeps K23).alloc _)).mono ?_; rw [hcs.out]; intro e w4 hgo; obtain ⟨A4, c4, L4, cl4, R4, cr4, rfl, -, r4, -, -, hb4⟩ := cpS_someE hgo; clear hgo; have g4 := (by_alloc g3 (.cells #[.int .i64 k, .int .i64 n, .slice A3 ks.length c3] 25)).trans (hb4.mono (by have := g3.size; simp; omega)); have K4 := (Keeps.alloc w3 (.cells #[.int .i64 k, .int .i64 n, .slice A3 ks.length c3] 25)).trans (Keeps.of_below hb4); have K24 := K23.trans K4; have hX4 := (hX3.alloc (.cells #[.int .i64 k, .int .i64 n, .slice A3 ks.length c3] 25)).keep hb4; have hY4 := (Blk.new_ w3 25 #[.int .i64 k, .int .i64 n, .slice A3 ks.length c3] rfl).keep hb4; clear p0 p1 p2; obtain ⟨p0, p1, p2⟩ := hX4.three; obtain ⟨q0, q1, q2⟩ := hY4.three; have lX4 := hX4.lt; have lY4 := hY4.lt; have tok4 := trivial)
        | (go_at_call 40; refine (iCommonPattern_any k n ks A1 c1 k n ks A1 c1 _ (by omega) (by omega) rk rk).mono ?_; rw [hcp.out]; intro e w3 hgo; obtain ⟨A3, c3, L3, cl3, R3, cr3, rfl, -, r3, -, -, hb3⟩ := cpS_someE hgo.cpS; clear hgo; have g3 := g2.trans (hb3.mono g2.size); have K23 := Keeps.of_below hb3; have hX3 := hX.keep hb3; clear p0 p1 p2; obtain ⟨p0, p1, p2⟩ := hX3.three; have lX3 := hX3.lt; have tok3 := trivial))
      go_ret
      exact ⟨rfl, g7⟩
    | false =>
      have hcp := hide (show cpI (.mk k n ks) (.mk k n ks) = none by rw [cp_self, hv, if_neg (by simp)])
      have hcs := hide (show cpS (.mk k n ks) (.mk k n ks) = none by rw [cp_eq, cp_self, hv, if_neg (by simp)])
      have hV := hide hv
      clear hv
      go_wp2_with (first
        | (go_at_call 34; have _t := tok5; refine (iTermValid_any k n ks A1 c1 _ (by omega) (rk.keeps K25)).mono ?_; rw [hV.out]; rintro e w6 ⟨rfl, hb6⟩; have g6 := g5.trans (hb6.mono g5.size))
        | (go_at_call 19; have _t := tok4; refine (iSame_any 0 0 [] none 0 0 0 [] none 0 _ (by simp) (by simp) Rd.nil Rd.nil).mono ?_; rw [tmEq_self]; rintro e w5 ⟨rfl, hb5⟩; have g5 := (by_alloc g4 (.cells #[.int .i64 0, .int .i64 0, .slice none 0 0] 25)).trans (hb5.mono (by have := g4.size; simp; omega)); have K5 := (Keeps.alloc w4 (.cells #[.int .i64 0, .int .i64 0, .slice none 0 0] 25)).trans (Keeps.of_below hb5); have K25 := K24.trans K5; have hX5 := (hX4.alloc (.cells #[.int .i64 0, .int .i64 0, .slice none 0 0] 25)).keep hb5; clear p0 p1 p2 q0 q1 q2; obtain ⟨p0, p1, p2⟩ := hX5.three; have tok5 := trivial)
        | (go_at_call 41; have _t := tok3; refine (sCommonPattern_any k n ks A1 c1 k n ks A1 c1 _ (by omega) (by omega) ((rk.keeps K23).alloc _) ((rk.keeps K23).alloc _)).mono ?_; rw [hcs.out]; intro e w4 hgo; obtain ⟨X4, c4, rfl, hb4⟩ := cpS_noneE hgo; clear hgo; have g4 := (by_alloc g3 (.cells #[.int .i64 0, .int .i64 0, .slice none 0 0] 25)).trans (hb4.mono (by have := g3.size; simp; omega)); have K4 := (Keeps.alloc w3 (.cells #[.int .i64 0, .int .i64 0, .slice none 0 0] 25)).trans (Keeps.of_below hb4); have K24 := K23.trans K4; have hX4 := (hX3.alloc (.cells #[.int .i64 0, .int .i64 0, .slice none 0 0] 25)).keep hb4; have hY4 := (Blk.new_ w3 25 #[.int .i64 0, .int .i64 0, .slice none 0 0] rfl).keep hb4; clear p0 p1 p2; obtain ⟨p0, p1, p2⟩ := hX4.three; obtain ⟨q0, q1, q2⟩ := hY4.three; have lX4 := hX4.lt; have lY4 := hY4.lt; have tok4 := trivial)
        | (go_at_call 40; refine (iCommonPattern_any k n ks A1 c1 k n ks A1 c1 _ (by omega) (by omega) rk rk).mono ?_; rw [hcp.out]; intro e w3 hgo; obtain ⟨rfl, hb3⟩ := hgo; have g3 := g2.trans (hb3.mono g2.size); have K23 := Keeps.of_below hb3; have hX3 := hX.keep hb3; clear p0 p1 p2; obtain ⟨p0, p1, p2⟩ := hX3.three; have lX3 := hX3.lt; have tok3 := trivial))
      go_ret
      exact ⟨rfl, g6⟩
end Go.Proofs.Ytodkenpmhhbppaa
