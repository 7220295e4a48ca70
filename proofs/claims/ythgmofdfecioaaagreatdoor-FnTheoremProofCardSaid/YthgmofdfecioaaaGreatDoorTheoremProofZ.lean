/-
  The statement FnTheoremProofCardSaid, proved: the row, and the card, tied to the program's text by the given tie.
-/
import Derived.Test.YthgmofdfecioaaaGreatDoorK16
import Derived.Test.YthgmofdfecioaaaGreatDoorK33
import Derived.Test.YthgmofdfecioaaaGreatDoorCards
import Derived.Test.YthgmofdfecioaaaGreatDoorTie
import Derived.Lay
import Derived.LaidOnce
import Derived.SevenTiedAt
import Derived.OpenShut
import Derived.ProofKit

namespace Go.Proofs.YthgmofdfecioaaaGreatDoor
open Go.RowKit
set_option linter.unusedSimpArgs false
set_option linter.unusedVariables false

set_option maxRecDepth 100000 in
set_option maxHeartbeats 16000000 in
theorem lawTheoremProof_any (bs : List Int) (A : Option Addr) (c : Nat) (w : World) (hl : bs.length ≤ 9223372036854775807) (hc : bs.length ≤ c) (hr : RdY w A bs) (hm : GM w) :
    Calls Tryz.prog 4 #[.slice A bs.length c] w fun e w' => e = .returned (.bool true) ∧ Below w.heap.size w w' := by
  by_cases hbig : 1048576 < bs.length
  · go_enter Tryz.func4, Tryz.ntmps4
    go_wp2_with fail
    go_ret
    exact ⟨rfl, Below.refl _ _⟩
  · go_enter Tryz.func4, Tryz.ntmps4
    go_wp2_with (go_at_call 11; refine (drawPrf_any bs A c _ hl hc hr).mono ?_; rintro e w0 ⟨thm, hthm, rfl, g0⟩)
    obtain ⟨sR, pR, sB, pB, oS, oP, h⟩ := thmAt_ex thm
    have hprf := prf_at h
    obtain ⟨k1, n1, ks1, hr1⟩ : ∃ k n ks, oP.getD (.mk 0 0 []) = .mk k n ks := by cases h : oP.getD (.mk 0 0 []); exact ⟨_, _, _, rfl⟩
    obtain ⟨k2, n2, ks2, hr2⟩ : ∃ k n ks, oS.getD (.mk 0 0 []) = .mk k n ks := by cases h : oS.getD (.mk 0 0 []); exact ⟨_, _, _, rfl⟩
    have hz1 : sizes ks1 ≤ 400 := thm_size (thm_good h).2.2.2 hr1
    have hz2 : sizes ks2 ≤ 400 := thm_size (thm_good h).2.2.1 hr2
    have hm' := hide hm
    have tok0 := trivial
    have hla := length_le_sizes ks1
    have hlb := length_le_sizes ks2
    have hSame := hide (fun (A1 : Option Addr) (c1 : Nat) (A3 : Option Addr) (c3 : Nat) (w : World) (h1 : Rd w A1 0 ks1) (h3 : Rd w A3 0 ks1) => (iSame_any k1 n1 ks1 A1 c1 k1 n1 ks1 A3 c3 w (by omega) (by omega) h1 h3).mono fun e w' hh => show e = .returned (.bool true) ∧ Below w.heap.size w w' from ⟨by have := hh.1; rwa [tmEq_self] at this, hh.2⟩)
    rcases hprf with ⟨hoS, hoP⟩ | ⟨s, p, l, hoS, hoP, hok⟩
    · have hP := hide (fun w (hm : GM w) => (iProof_any h w hm).mono fun e w' hgo => gotP_at hgo hr1 (b := false) (by rw [hoP]; rfl))
      have hQ := hide (fun w (hm : GM w) => (sProof_any h w hm).mono fun e w' hgo => gotP_at hgo hr1 (b := false) (by rw [hoP]; rfl))
      have hT := hide (fun w (hm : GM w) => (iType_any h w hm).mono fun e w' hgo => gotP_at hgo hr2 (b := false) (by rw [hoS]; rfl))
      clear h hr1 hr2 hm hr hz1 hz2 hoS hoP
      go_wp2_with (first
        | (go_at_call 9; have _t := tok4; refine name_callsT ?_; intro x4 hx4; have kx4 : Below w4.heap.size w4 x4 := (by rw [hx4]; exact Below.refl _ _); replace P1 := P1.keep kx4; replace P2 := P2.keep kx4; replace P3 := P3.keep kx4; replace r1 := r1.below kx4; replace r3 := r3.below kx4; replace r2 := r2.below kx4; clear hx4; have gx4 := g4.trans (kx4.mono g4.size); refine (hSame.out A1 c1 A3 c3 x4 r1 r3).mono ?_; rintro e w5 ⟨rfl, hb5⟩; replace P1 := P1.keep hb5; replace P2 := P2.keep hb5; replace P3 := P3.keep hb5; replace r1 := r1.below hb5; replace r3 := r3.below hb5; replace r2 := r2.below hb5; have g5 := gx4.trans (hb5.mono gx4.size); clear aP10 aP11 aP12 lP1 aP20 aP21 aP22 lP2 aP30 aP31 aP32 lP3; obtain ⟨aP10, aP11, aP12⟩ := P1.three; have lP1 := P1.lt; obtain ⟨aP20, aP21, aP22⟩ := P2.three; have lP2 := P2.lt; obtain ⟨aP30, aP31, aP32⟩ := P3.three; have lP3 := P3.lt; have tok5 := trivial)
        | (go_at_call 9; have _t := tok3; refine name_callsT ?_; intro x3 hx3; have P3 : Blk x3 w3.heap.size #[.int .i64 k2, .int .i64 n2, .slice A2 ks2.length c2] := (by rw [hx3]; exact Blk.new_ _ 27 _ (by first | rfl | simp)); have kx3 : Below w3.heap.size w3 x3 := (by rw [hx3]; exact (Below.refl _ _).alloc (Nat.le_refl _) _); replace P1 := P1.keep kx3; replace P2 := P2.keep kx3; replace r1 := r1.below kx3; replace r3 := r3.below kx3; replace r2 := r2.below kx3; clear hx3; have gx3 := g3.trans (kx3.mono g3.size); refine (hSame.out A1 c1 A3 c3 x3 r1 r3).mono ?_; rintro e w4 ⟨rfl, hb4⟩; replace P1 := P1.keep hb4; replace P2 := P2.keep hb4; replace P3 := P3.keep hb4; replace r1 := r1.below hb4; replace r3 := r3.below hb4; replace r2 := r2.below hb4; have g4 := gx3.trans (hb4.mono gx3.size); clear aP10 aP11 aP12 lP1 aP20 aP21 aP22 lP2; obtain ⟨aP10, aP11, aP12⟩ := P1.three; have lP1 := P1.lt; obtain ⟨aP20, aP21, aP22⟩ := P2.three; have lP2 := P2.lt; obtain ⟨aP30, aP31, aP32⟩ := P3.three; have lP3 := P3.lt; have tok4 := trivial)
        | (go_at_call 14; have _t := tok2; refine name_callsT ?_; intro x2 hx2; have P2 : Blk x2 w2.heap.size #[.int .i64 k1, .int .i64 n1, .slice A3 ks1.length c3] := (by rw [hx2]; exact Blk.new_ _ 27 _ (by first | rfl | simp)); have kx2 : Below w2.heap.size w2 x2 := (by rw [hx2]; exact (Below.refl _ _).alloc (Nat.le_refl _) _); replace P1 := P1.keep kx2; replace r1 := r1.below kx2; replace r3 := r3.below kx2; clear hx2; have gx2 := g2.trans (kx2.mono g2.size); refine (hT.out _ (hm'.out.keep gx2)).mono ?_; rintro e w3 ⟨A2, c2, rfl, hl2, f2, hb3⟩; replace P1 := P1.keep hb3; replace P2 := P2.keep hb3; replace r1 := r1.below hb3; replace r3 := r3.below hb3; have r2 := f2.rd; have g3 := gx2.trans (hb3.mono gx2.size); clear aP10 aP11 aP12 lP1; obtain ⟨aP10, aP11, aP12⟩ := P1.three; have lP1 := P1.lt; obtain ⟨aP20, aP21, aP22⟩ := P2.three; have lP2 := P2.lt; have tok3 := trivial)
        | (go_at_call 13; have _t := tok1; refine name_callsT ?_; intro x1 hx1; have P1 : Blk x1 w1.heap.size #[.int .i64 k1, .int .i64 n1, .slice A1 ks1.length c1] := (by rw [hx1]; exact Blk.new_ _ 27 _ (by first | rfl | simp)); have kx1 : Below w1.heap.size w1 x1 := (by rw [hx1]; exact (Below.refl _ _).alloc (Nat.le_refl _) _); replace r1 := r1.below kx1; clear hx1; have gx1 := g1.trans (kx1.mono g1.size); refine (hQ.out _ (hm'.out.keep gx1)).mono ?_; rintro e w2 ⟨A3, c3, rfl, hl3, f3, hb2⟩; replace P1 := P1.keep hb2; replace r1 := r1.below hb2; have r3 := f3.rd; have g2 := gx1.trans (hb2.mono gx1.size); obtain ⟨aP10, aP11, aP12⟩ := P1.three; have lP1 := P1.lt; have tok2 := trivial)
        | (go_at_call 12; have _t := tok0; refine name_callsT ?_; intro x0 hx0; have kx0 : Below w0.heap.size w0 x0 := (by rw [hx0]; exact Below.refl _ _); clear hx0; have gx0 := g0.trans (kx0.mono g0.size); refine (hP.out _ (hm'.out.keep gx0)).mono ?_; rintro e w1 ⟨A1, c1, rfl, hl1, f1, hb1⟩; have r1 := f1.rd; have g1 := gx0.trans (hb1.mono gx0.size); have tok1 := trivial))
      go_ret
      exact ⟨rfl, g5⟩
    · have hP := hide (fun w (hm : GM w) => (iProof_any h w hm).mono fun e w' hgo => gotP_at hgo hr1 (b := true) (by rw [hoP]; rfl))
      have hQ := hide (fun w (hm : GM w) => (sProof_any h w hm).mono fun e w' hgo => gotP_at hgo hr1 (b := true) (by rw [hoP]; rfl))
      have hT := hide (fun w (hm : GM w) => (iType_any h w hm).mono fun e w' hgo => gotP_at hgo hr2 (b := true) (by rw [hoS]; rfl))
      rw [hoP] at hr1
      rw [hoS] at hr2 h
      simp only [Option.getD_some] at hr1 hr2
      subst hr1 hr2
      have hSO := hide (fun (C : Option Addr) (c0 : Nat) (A : Option Addr) (c : Nat) (w : World) (hr : Rd w A 0 ks2) => isortOf_any 40 C c0 k2 n2 ks2 A c l w hok.lv hok.vs hr)
      have hCT := hide (fun (A : Option Addr) (c : Nat) (w : World) (hm : GM w) (hr : Rd w A 0 ks1) => icheckThm_any 40 k2 n2 ks2 h k1 n1 ks1 A c l w hm hok.lv hok.ck hok.vp hok.vs hr)
      have hM1 := hide (fun (A : Option Addr) (c : Nat) (w : World) (hr : Rd w A 0 ks1) => iMaxFree_any k1 n1 ks1 A c w hok.vp hok.cp hr)
      have hM2 := hide (fun (A : Option Addr) (c : Nat) (w : World) (hr : Rd w A 0 ks2) => iMaxFree_any k2 n2 ks2 A c w hok.vs hok.cs hr)
      clear h hok hm hr hz1 hz2 hoS hoP
      go_wp2_with (first
        | (go_at_call 17; have _t := tok7; refine name_callsT ?_; intro x7 hx7; have kx7 : Below w7.heap.size w7 x7 := (by rw [hx7]; exact Below.refl _ _); replace P1 := P1.keep kx7; replace P2 := P2.keep kx7; replace P3 := P3.keep kx7; replace r1 := r1.below kx7; replace r3 := r3.below kx7; replace r2 := r2.below kx7; clear hx7; have gx7 := g7.trans (kx7.mono g7.size); refine (hM2.out A2 c2 x7 r2).mono ?_; rintro e w8 ⟨rfl, hb8⟩; replace P1 := P1.keep hb8; replace P2 := P2.keep hb8; replace P3 := P3.keep hb8; replace r1 := r1.below hb8; replace r3 := r3.below hb8; replace r2 := r2.below hb8; have g8 := gx7.trans (hb8.mono gx7.size); clear aP10 aP11 aP12 lP1 aP20 aP21 aP22 lP2 aP30 aP31 aP32 lP3; obtain ⟨aP10, aP11, aP12⟩ := P1.three; have lP1 := P1.lt; obtain ⟨aP20, aP21, aP22⟩ := P2.three; have lP2 := P2.lt; obtain ⟨aP30, aP31, aP32⟩ := P3.three; have lP3 := P3.lt; have tok8 := trivial)
        | (go_at_call 17; have _t := tok6; refine name_callsT ?_; intro x6 hx6; have kx6 : Below w6.heap.size w6 x6 := (by rw [hx6]; exact Below.refl _ _); replace P1 := P1.keep kx6; replace P2 := P2.keep kx6; replace P3 := P3.keep kx6; replace r1 := r1.below kx6; replace r3 := r3.below kx6; replace r2 := r2.below kx6; clear hx6; have gx6 := g6.trans (kx6.mono g6.size); refine (hM1.out A1 c1 x6 r1).mono ?_; rintro e w7 ⟨rfl, hb7⟩; replace P1 := P1.keep hb7; replace P2 := P2.keep hb7; replace P3 := P3.keep hb7; replace r1 := r1.below hb7; replace r3 := r3.below hb7; replace r2 := r2.below hb7; have g7 := gx6.trans (hb7.mono gx6.size); clear aP10 aP11 aP12 lP1 aP20 aP21 aP22 lP2 aP30 aP31 aP32 lP3; obtain ⟨aP10, aP11, aP12⟩ := P1.three; have lP1 := P1.lt; obtain ⟨aP20, aP21, aP22⟩ := P2.three; have lP2 := P2.lt; obtain ⟨aP30, aP31, aP32⟩ := P3.three; have lP3 := P3.lt; have tok7 := trivial)
        | (go_at_call 16; have _t := tok5; refine name_callsT ?_; intro x5 hx5; have kx5 : Below w5.heap.size w5 x5 := (by rw [hx5]; exact Below.refl _ _); replace P1 := P1.keep kx5; replace P2 := P2.keep kx5; replace P3 := P3.keep kx5; replace r1 := r1.below kx5; replace r3 := r3.below kx5; replace r2 := r2.below kx5; clear hx5; have gx5 := g5.trans (kx5.mono g5.size); refine (hCT.out A1 c1 x5 (hm'.out.keep gx5) r1).mono ?_; rintro e w6 ⟨rfl, hb6⟩; replace P1 := P1.keep hb6; replace P2 := P2.keep hb6; replace P3 := P3.keep hb6; replace r1 := r1.below hb6; replace r3 := r3.below hb6; replace r2 := r2.below hb6; have g6 := gx5.trans (hb6.mono gx5.size); clear aP10 aP11 aP12 lP1 aP20 aP21 aP22 lP2 aP30 aP31 aP32 lP3; obtain ⟨aP10, aP11, aP12⟩ := P1.three; have lP1 := P1.lt; obtain ⟨aP20, aP21, aP22⟩ := P2.three; have lP2 := P2.lt; obtain ⟨aP30, aP31, aP32⟩ := P3.three; have lP3 := P3.lt; have tok6 := trivial)
        | (go_at_call 15; have _t := tok4; refine name_callsT ?_; intro x4 hx4; have kx4 : Below w4.heap.size w4 x4 := (by rw [hx4]; exact (Below.refl _ _).alloc (Nat.le_refl _) _); replace P1 := P1.keep kx4; replace P2 := P2.keep kx4; replace P3 := P3.keep kx4; replace r1 := r1.below kx4; replace r3 := r3.below kx4; replace r2 := r2.below kx4; clear hx4; have gx4 := g4.trans (kx4.mono g4.size); refine (hSO.out _ _ A2 c2 x4 r2).mono ?_; rintro e w5 ⟨rfl, hb5⟩; replace P1 := P1.keep hb5; replace P2 := P2.keep hb5; replace P3 := P3.keep hb5; replace r1 := r1.below hb5; replace r3 := r3.below hb5; replace r2 := r2.below hb5; have g5 := gx4.trans (hb5.mono gx4.size); clear aP10 aP11 aP12 lP1 aP20 aP21 aP22 lP2 aP30 aP31 aP32 lP3; obtain ⟨aP10, aP11, aP12⟩ := P1.three; have lP1 := P1.lt; obtain ⟨aP20, aP21, aP22⟩ := P2.three; have lP2 := P2.lt; obtain ⟨aP30, aP31, aP32⟩ := P3.three; have lP3 := P3.lt; have tok5 := trivial)
        | (go_at_call 9; have _t := tok3; refine name_callsT ?_; intro x3 hx3; have P3 : Blk x3 w3.heap.size #[.int .i64 k2, .int .i64 n2, .slice A2 ks2.length c2] := (by rw [hx3]; exact Blk.new_ _ 27 _ (by first | rfl | simp)); have kx3 : Below w3.heap.size w3 x3 := (by rw [hx3]; exact (Below.refl _ _).alloc (Nat.le_refl _) _); replace P1 := P1.keep kx3; replace P2 := P2.keep kx3; replace r1 := r1.below kx3; replace r3 := r3.below kx3; replace r2 := r2.below kx3; clear hx3; have gx3 := g3.trans (kx3.mono g3.size); refine (hSame.out A1 c1 A3 c3 x3 r1 r3).mono ?_; rintro e w4 ⟨rfl, hb4⟩; replace P1 := P1.keep hb4; replace P2 := P2.keep hb4; replace P3 := P3.keep hb4; replace r1 := r1.below hb4; replace r3 := r3.below hb4; replace r2 := r2.below hb4; have g4 := gx3.trans (hb4.mono gx3.size); clear aP10 aP11 aP12 lP1 aP20 aP21 aP22 lP2; obtain ⟨aP10, aP11, aP12⟩ := P1.three; have lP1 := P1.lt; obtain ⟨aP20, aP21, aP22⟩ := P2.three; have lP2 := P2.lt; obtain ⟨aP30, aP31, aP32⟩ := P3.three; have lP3 := P3.lt; have tok4 := trivial)
        | (go_at_call 14; have _t := tok2; refine name_callsT ?_; intro x2 hx2; have P2 : Blk x2 w2.heap.size #[.int .i64 k1, .int .i64 n1, .slice A3 ks1.length c3] := (by rw [hx2]; exact Blk.new_ _ 27 _ (by first | rfl | simp)); have kx2 : Below w2.heap.size w2 x2 := (by rw [hx2]; exact (Below.refl _ _).alloc (Nat.le_refl _) _); replace P1 := P1.keep kx2; replace r1 := r1.below kx2; replace r3 := r3.below kx2; clear hx2; have gx2 := g2.trans (kx2.mono g2.size); refine (hT.out _ (hm'.out.keep gx2)).mono ?_; rintro e w3 ⟨A2, c2, rfl, hl2, f2, hb3⟩; replace P1 := P1.keep hb3; replace P2 := P2.keep hb3; replace r1 := r1.below hb3; replace r3 := r3.below hb3; have r2 := f2.rd; have g3 := gx2.trans (hb3.mono gx2.size); clear aP10 aP11 aP12 lP1; obtain ⟨aP10, aP11, aP12⟩ := P1.three; have lP1 := P1.lt; obtain ⟨aP20, aP21, aP22⟩ := P2.three; have lP2 := P2.lt; have tok3 := trivial)
        | (go_at_call 13; have _t := tok1; refine name_callsT ?_; intro x1 hx1; have P1 : Blk x1 w1.heap.size #[.int .i64 k1, .int .i64 n1, .slice A1 ks1.length c1] := (by rw [hx1]; exact Blk.new_ _ 27 _ (by first | rfl | simp)); have kx1 : Below w1.heap.size w1 x1 := (by rw [hx1]; exact (Below.refl _ _).alloc (Nat.le_refl _) _); replace r1 := r1.below kx1; clear hx1; have gx1 := g1.trans (kx1.mono g1.size); refine (hQ.out _ (hm'.out.keep gx1)).mono ?_; rintro e w2 ⟨A3, c3, rfl, hl3, f3, hb2⟩; replace P1 := P1.keep hb2; replace r1 := r1.below hb2; have r3 := f3.rd; have g2 := gx1.trans (hb2.mono gx1.size); obtain ⟨aP10, aP11, aP12⟩ := P1.three; have lP1 := P1.lt; have tok2 := trivial)
        | (go_at_call 12; have _t := tok0; refine name_callsT ?_; intro x0 hx0; have kx0 : Below w0.heap.size w0 x0 := (by rw [hx0]; exact Below.refl _ _); clear hx0; have gx0 := g0.trans (kx0.mono g0.size); refine (hP.out _ (hm'.out.keep gx0)).mono ?_; rintro e w1 ⟨A1, c1, rfl, hl1, f1, hb1⟩; have r1 := f1.rd; have g1 := gx0.trans (hb1.mono gx0.size); have tok1 := trivial))
      go_ret
      exact ⟨rfl, g8⟩
end Go.Proofs.YthgmofdfecioaaaGreatDoor

namespace Go.Proofs.YthgmofdfecioaaaGreatDoor.lFnTheoremProof
open Go.ChangeShapes Go.WideShapes Go.ChangeAt Go.RowKit
set_option linter.unusedVariables false
set_option linter.unusedSimpArgs false

theorem own : ownKnob Tryz.prog.godebug = none := by kernel_rfl
theorem laidOut : laidOutB Tryz.prog = true := by kernel_rfl
def laid : List (String × DataW Unit) := Rows.fnTheoremProofRow.laid

set_option maxRecDepth 100000 in
theorem lifted (os : Os) (started : os.Started) (H : Type) (enc : TypeId × Value → H) :
    ReturnsInHanded {} Tryz.checked os 4 .any (fun w args => (Rows.fnTheoremProofSpec.pre enc Tryz.prog Tryz.f4 [] false w args ∧ laidMetH Tryz.prog laid w) ∧ sizedMet enc Tryz.prog Tryz.f4 (OpenSpec.ofChange Rows.fnTheoremProofSpec) false w args)
      (Rows.fnTheoremProofSpec.post enc Tryz.prog Tryz.f4 false true false false) := by
  refine change_and_shaped (C := Tryz.checked) (X := fun w _ => laidMetH Tryz.prog laid w) (fun _ _ _ hh h => h.of_heap hh) own started (by kernel_rfl) Tryz.func4
    (ChangeSpec.witness_shaped (enc := enc) (C := Tryz.checked) (os := os) (X := fun w _ => laidMetH Tryz.prog laid w) false (World.laidAll Tryz.prog os laid) #[.slice none 0 0] 8 (World.laidAll_os _ _ _)
      (World.shaped_of_ZipB (by kernel_rfl) (by kernel_rfl)) (by kernel_rfl) (by kernel_rfl) (by kernel_rfl)
      (by rw [MakeChecks.laidMetH_plain _ _ _ (by kernel_rfl)]; exact laidMet_laidAll _ (by kernel_rfl) (by kernel_rfl))) ?_
  intro W base args ds gs before hval0 hW hsh hL
  have hval : ∀ (j : Nat) t v, Tryz.f4.params[j]? = some t → args[j]? = some v → Value.okWide Tryz.prog W .any base t v := hval0
  have hW' := hW
  obtain ⟨p, q, hA0, hV, rfl, hfz, hnd⟩ := hW
  have hA : DataW.TrodAll enc Tryz.prog W 0 (fun _ => true) true Tryz.f4.params.toList args.toList ds p := hA0
  rw [Tryz.params4] at hA hval
  obtain ⟨v0, vs0, d0, ds0, p0, q0, hargs0, rfl, rfl, h0, r0⟩ := trodAll_cons hA
  obtain ⟨rfl, rfl, rfl⟩ := trodAll_nil r0
  obtain rfl : args = #[v0] := by cases args; simp_all
  obtain ⟨rfl, rfl⟩ := trodVars_none hV
  obtain ⟨xs0, P0, cp0, rfl, hl0, hc0, hr0⟩ := open_code (hval 0 22 v0 rfl rfl) h0
  clear hA0 hval0
  simp only [List.append_nil] at hW' hfz
  have hlt : ∀ x ∈ p0, x.block < W.heap.size := fun x hx => hW'.lt x hx
  refine (lawTheoremProof_any xs0 P0 cp0 W hl0 hc0 hr0 (gm_of hsh)).mono fun e W' ⟨he, hb⟩ => ?_
  subst he
  exact ⟨_, rfl, post_below (pa := p0) (pv := []) hW' (fun _ _ _ => (trodAll_cons_mk (shut_bool Tryz.underlying4 _) trodAll_mk0)) (fun sp hsp => by
      have := (trodAll_cons_mk (WideElems.Trod_stays (sp' := sp) laidOut (by kernel_rfl) (of_decide_eq_true (by kernel_rfl)) h0 (fun x hx => hb.same (hlt x (by simp [hx]))) (fun x hx => hsp x (by simp [hx]))) trodAll_mk0)
      show DataW.TrodAll enc Tryz.prog W' 0 sp true Tryz.f4.params.toList [_] [d0] (p0)
      rw [Tryz.params4]
      simpa using this) (fun _ _ => rfl) (by simp)
    hb (ok_one (by kernel_rfl) rfl (okWide_bool_mk Tryz.underlying4 _))⟩

theorem row_holds : Rows.FnTheoremProofSaid :=
  OpenClaim.holds_of_wide 4 Tryz.f4 rfl rfl rfl rfl rfl rfl rfl ⟨rfl, rfl, rfl, rfl, rfl⟩ rfl rfl rfl rfl rfl (by kernel_rfl) Tryz.func4 (by kernel_rfl)
    (of_decide_eq_true (by kernel_rfl)) (by unfold Func.isWrapper; first | (rw [if_pos (by decide +kernel)]; kernel_rfl) | (rw [if_neg (by decide +kernel)]; exact ⟨rfl, rfl⟩))
    (fun os started H enc _ => lifted os started H enc)
theorem holds : Rows.FnTheoremProofCardSaid :=
  Claim7.holds_tied_plain_at .later [] [.data, .data, .data, .data, .sentinel, .sentinel, .pinned] true (true, "3420b5d6b20d3d53e342fd87316308be30203e2b05cfcf6edd36a219040b2704") true row_holds (fun _ h => by cases h) (by kernel_rfl) (fun _ h => by cases h) fnTheoremProof_row_tie rfl ⟨rfl, rfl⟩ (by kernel_rfl) rfl
    (fun f fn hf hfn => by
      obtain rfl : f = 4 := Option.some.inj ((show Tryz.prog.funcNamed Rows.fnTheoremProofRow.func = some 4 by kernel_rfl).symm.trans hf) |>.symm
      obtain rfl : fn = Tryz.f4 := (Option.some.inj (Tryz.func4.symm.trans hfn)).symm
      exact ⟨by kernel_rfl, fun j t ht => by
        rw [Tryz.params4] at ht
        have hm : t ∈ [22] := by simpa using Array.mem_of_getElem? ht
        have hall : ([22].all fun u => !Tryz.prog.wantsStandIn u) = true := by kernel_rfl
        exact (show Tryz.prog.wantsStandIn t = false by simpa using List.all_eq_true.1 hall t hm)⟩)
    (by kernel_rfl)
end Go.Proofs.YthgmofdfecioaaaGreatDoor.lFnTheoremProof
