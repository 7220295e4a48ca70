/-
  Texts of this claim, merged: contracts of the functions that the law reaches. No condition.
-/
import Derived.Test.YtjpgdfndlmipcaaGreatDoorK1
import Derived.Test.YtjpgdfndlmipcaaGreatDoorK2
import Derived.Test.YtjpgdfndlmipcaaGreatDoorK3
import Derived.Test.YtjpgdfndlmipcaaGreatDoorK4
import Derived.Lib.SplitLaws
import Derived.WalkSpells
import Derived.WalkLawsBesides
import Derived.WalkKit
import Derived.ProofKit
import Derived.OpenShut
import Derived.JoinedCond
import Derived.Deep.Slices
import Derived.Deep.Fields
import Derived.ChangeSame
import Derived.Below
import Derived.Carry
import Derived.Lib.SmallJoins
import Derived.Handed
import Derived.HandedShaped
import Derived.Shelf.Vars

namespace Go.Proofs.YtjpgdfndlmipcaaGreatDoor
open Go.RowKit
set_option linter.unusedSimpArgs false
set_option linter.unusedVariables false
set_option maxRecDepth 100000

theorem byt_nil : byt [] = ⟨#[]⟩ := rfl
set_option maxHeartbeats 2000000 in
theorem iRead_nil (w : World) : Calls Tryz.prog 54 #[.string (byt []), .int .i64 1] w fun e w' => e = .returned (.tuple #[.agg #[.int .i64 0, .int .i64 0, .slice none 0 0], .string (byt []), .bool false]) ∧ Below w.heap.size w w' := by
  rw [byt_nil]
  go_enter Tryz.func54, Tryz.ntmps54
  go_wp2_with (go_at_call 74; refine (kindAt_nil _).mono ?_; rintro e w1 ⟨rfl, hb1⟩; have hZ := (Blk.new_ w 24 #[.int .i64 0, .int .i64 0, .slice none 0 0] rfl).keep hb1; obtain ⟨d0, d1, d2⟩ := hZ.three; have e0 := hZ.frozen 0; have e1 := hZ.frozen 1; have e2 := hZ.frozen 2; have g1 : Below w.heap.size w w1 := ((Below.refl _ _).alloc (Nat.le_refl _) _).trans (hb1.mono (by simp)))
  refine bodyPost_ret (v := .tuple #[.agg #[.int .i64 0, .int .i64 0, .slice none 0 0], .string ⟨#[]⟩, .bool false]) (by simp [results, Tryz.results54, go_sem, d0, d1, d2]) rfl ⟨rfl, ((g1.setCell (by simp) _).setCell (by simp) _).setCell (by simp) _⟩
set_option maxHeartbeats 2000000 in
theorem iParse_nil (w : World) : Calls Tryz.prog 37 #[.string (byt [])] w (GotP w none) := by
  have h0 := fun w => iRead_nil w
  rw [byt_nil] at h0 ⊢
  go_enter Tryz.func37, Tryz.ntmps37
  go_wp2_with (go_at_call 54; refine (h0 _).mono ?_; rintro e w1 ⟨rfl, hb1⟩; have hZ := (Blk.new_ w 24 #[.int .i64 0, .int .i64 0, .slice none 0 0] rfl).keep hb1; obtain ⟨d0, d1, d2⟩ := hZ.three; have e0 := hZ.frozen 0; have e1 := hZ.frozen 1; have e2 := hZ.frozen 2; have lz := hZ.lt; have g1 : Below w.heap.size w w1 := ((Below.refl _ _).alloc (Nat.le_refl _) _).trans (hb1.mono (by simp)))
  refine bodyPost_ret (v := .tuple #[.agg #[.int .i64 0, .int .i64 0, .slice none 0 0], .bool false]) (by simp [results, Tryz.results37, go_sem, d0, d1, d2, lz]) rfl ⟨0, 0, [], none, 0, rfl, rfl, by simp, Fresh.nil, (((g1.setCell (by simp) _).setCell (by simp) _).setCell (by simp) _).alloc (by simp; have := g1.size; omega) _⟩
set_option maxHeartbeats 2000000 in
theorem sParse1_nil (w : World) : Calls Tryz.prog 33 #[.string ⟨#[]⟩, .int .i64 0, .int .i64 30] w fun e w' => e = .returned (.tuple #[.agg #[.int .i64 0, .int .i64 0, .slice none 0 0], .int .i64 (-1)]) ∧ Below w.heap.size w w' := by
  go_enter Tryz.func33, Tryz.ntmps33
  go_wp2
  refine bodyPost_ret (v := .tuple #[.agg #[.int .i64 0, .int .i64 0, .slice none 0 0], .int .i64 (-1)]) (by simp [results, Tryz.results33, go_sem]) rfl ⟨rfl, ?_⟩
  exact (Below.refl _ _).alloc (Nat.le_refl _) _
set_option maxHeartbeats 2000000 in
theorem sParse_nil (w : World) : Calls Tryz.prog 16 #[.string (byt [])] w (GotP w none) := by
  rw [byt_nil]
  go_enter Tryz.func16, Tryz.ntmps16
  go_wp2_with (go_at_call 33; refine (sParse1_nil _).mono ?_; rintro e w1 ⟨rfl, hb1⟩; have hZ := (Blk.new_ w 24 #[.int .i64 0, .int .i64 0, .slice none 0 0] rfl).keep hb1; obtain ⟨d0, d1, d2⟩ := hZ.three; have e0 := hZ.frozen 0; have e1 := hZ.frozen 1; have e2 := hZ.frozen 2; have lz := hZ.lt; have g1 : Below w.heap.size w w1 := ((Below.refl _ _).alloc (Nat.le_refl _) _).trans (hb1.mono (by simp)))
  refine bodyPost_ret (v := .tuple #[.agg #[.int .i64 0, .int .i64 0, .slice none 0 0], .bool false]) (by simp [results, Tryz.results16, go_sem, d0, d1, d2, lz]) rfl ⟨0, 0, [], none, 0, rfl, rfl, by simp, Fresh.nil, (((g1.setCell (by simp) _).setCell (by simp) _).setCell (by simp) _).alloc (by simp; have := g1.size; omega) _⟩
theorem sParse_any {t : Tm} {b : List UInt8} (h : Good t b) (w : World) : Calls Tryz.prog 16 #[.string (byt b)] w (GotP w (some t)) := by
  obtain ⟨k, n, ks⟩ := t
  refine (parseTerm_any h w).mono fun e w' hg => ?_
  obtain ⟨A, c, rfl, hl, hf, hb⟩ := hg
  exact ⟨k, n, ks, A, c, rfl, rfl, hl, hf, hb⟩
theorem repl_any {a old new r : List UInt8} (h : Lib.replaceAll a old new = r) (ho : 1 ≤ old.length) (hl : a.length ≤ 1000) (hn : new.length ≤ 1000) (w : World) (hm : GM w) :
    Calls Tryz.prog 35 #[.string (byt a), .string (byt old), .string (byt new)] w fun e w' => e = .returned (.string (byt r)) ∧ Below w.heap.size w w' := by
  obtain ⟨m, hm⟩ := hm
  have sz : ∀ l : List UInt8, (byt l).size = l.length := fun l => by simp [byt, ByteArray.size]
  have hc := Lib.countB_le (byt old) (by rw [sz]; exact ho) _ (byt a) (Nat.le_refl _)
  rw [sz] at hc
  refine (Tryz.strings_ReplaceAll (byt a) (byt old) (byt new) m w (by rw [sz]; omega) hm (by rw [sz]; exact ho) ?_).mono ?_
  · rw [sz, sz]
    have : Lib.countB (byt a) (byt old) * new.length ≤ 1000 * 1000 := Nat.mul_le_mul (by omega) hn
    omega
  · rintro e w' ⟨rfl, hb⟩
    refine ⟨?_, hb⟩
    rw [byt_list, byt_list, byt_list, h]
    rfl
theorem funText1_any (w : World) : Calls Tryz.prog 36 #[.int .i64 1] w fun e w' => e = .returned (.string (byt plusB)) ∧ w = w' := by
  go_enter Tryz.func36, Tryz.ntmps36
  go_wp2
  go_ret
  exact ⟨rfl, rfl⟩
theorem funText3_any (w : World) : Calls Tryz.prog 36 #[.int .i64 3] w fun e w' => e = .returned (.string (byt predB)) ∧ w = w' := by
  go_enter Tryz.func36, Tryz.ntmps36
  go_wp2
  go_ret
  exact ⟨rfl, rfl⟩

/-- what a theorem's number stands for -/
def ThmAt (thm : Int) (sR pR sB pB : List UInt8) (oS oP : Option Tm) : Prop :=
  (thm = 1 ∧ sR = thS1R ∧ pR = thP1R ∧ sB = thS1B ∧ pB = thP1B ∧ oS = some thS1 ∧ oP = some thP1) ∨
  (thm = 2 ∧ sR = thS2R ∧ pR = thP2R ∧ sB = thS2B ∧ pB = thP2B ∧ oS = some thS2 ∧ oP = some thP2) ∨
  (thm = 3 ∧ sR = thS3R ∧ pR = thP3R ∧ sB = thS3B ∧ pB = thP3B ∧ oS = some thS3 ∧ oP = some thP3) ∨
  (thm = 4 ∧ sR = thS4R ∧ pR = thP4R ∧ sB = thS4B ∧ pB = thP4B ∧ oS = some thS4 ∧ oP = some thP4) ∨
  (thm = 5 ∧ sR = thS5R ∧ pR = thP5R ∧ sB = thS5B ∧ pB = thP5B ∧ oS = some thS5 ∧ oP = some thP5) ∨
  ((thm ≠ 1 ∧ thm ≠ 2 ∧ thm ≠ 3 ∧ thm ≠ 4 ∧ thm ≠ 5) ∧ sR = [] ∧ pR = [] ∧ sB = [] ∧ pB = [] ∧ oS = none ∧ oP = none)
theorem thmAt_ex (thm : Int) : ∃ sR pR sB pB oS oP, ThmAt thm sR pR sB pB oS oP := by
  by_cases h1 : thm = 1
  · exact ⟨_, _, _, _, _, _, .inl ⟨h1, rfl, rfl, rfl, rfl, rfl, rfl⟩⟩
  by_cases h2 : thm = 2
  · exact ⟨_, _, _, _, _, _, .inr (.inl ⟨h2, rfl, rfl, rfl, rfl, rfl, rfl⟩)⟩
  by_cases h3 : thm = 3
  · exact ⟨_, _, _, _, _, _, .inr (.inr (.inl ⟨h3, rfl, rfl, rfl, rfl, rfl, rfl⟩))⟩
  by_cases h4 : thm = 4
  · exact ⟨_, _, _, _, _, _, .inr (.inr (.inr (.inl ⟨h4, rfl, rfl, rfl, rfl, rfl, rfl⟩)))⟩
  by_cases h5 : thm = 5
  · exact ⟨_, _, _, _, _, _, .inr (.inr (.inr (.inr (.inl ⟨h5, rfl, rfl, rfl, rfl, rfl, rfl⟩))))⟩
  exact ⟨_, _, _, _, _, _, .inr (.inr (.inr (.inr (.inr ⟨⟨h1, h2, h3, h4, h5⟩, rfl, rfl, rfl, rfl, rfl, rfl⟩))))⟩
set_option maxHeartbeats 2000000 in
theorem theorem_any {thm : Int} {sR pR sB pB : List UInt8} {oS oP : Option Tm} (h : ThmAt thm sR pR sB pB oS oP) (w : World) :
    Calls Tryz.prog 17 #[.int .i64 thm] w fun e w' => e = .returned (.tuple #[.string (byt sR), .string (byt pR)]) ∧ w = w' := by
  rcases h with ⟨rfl, rfl, rfl, rfl, rfl, rfl, rfl⟩ | ⟨rfl, rfl, rfl, rfl, rfl, rfl, rfl⟩ | ⟨rfl, rfl, rfl, rfl, rfl, rfl, rfl⟩ | ⟨rfl, rfl, rfl, rfl, rfl, rfl, rfl⟩ | ⟨rfl, rfl, rfl, rfl, rfl, rfl, rfl⟩ | ⟨⟨h1, h2, h3, h4, h5⟩, rfl, rfl, rfl, rfl, rfl, rfl⟩
  · go_enter Tryz.func17, Tryz.ntmps17
    go_wp2
    go_ret2
    exact ⟨rfl, rfl⟩
  · go_enter Tryz.func17, Tryz.ntmps17
    go_wp2
    go_ret2
    exact ⟨rfl, rfl⟩
  · go_enter Tryz.func17, Tryz.ntmps17
    go_wp2
    go_ret2
    exact ⟨rfl, rfl⟩
  · go_enter Tryz.func17, Tryz.ntmps17
    go_wp2
    go_ret2
    exact ⟨rfl, rfl⟩
  · go_enter Tryz.func17, Tryz.ntmps17
    go_wp2
    go_ret2
    exact ⟨rfl, rfl⟩
  · have q1 : (thm == 1) = false := beq_eq_false_iff_ne.2 h1
    have q2 : (thm == 2) = false := beq_eq_false_iff_ne.2 h2
    have q3 : (thm == 3) = false := beq_eq_false_iff_ne.2 h3
    have q4 : (thm == 4) = false := beq_eq_false_iff_ne.2 h4
    have q5 : (thm == 5) = false := beq_eq_false_iff_ne.2 h5

    clear h1 h2 h3 h4 h5
    go_enter Tryz.func17, Tryz.ntmps17
    go_wp2
    go_ret2
    exact ⟨rfl, rfl⟩
set_option maxHeartbeats 4000000 in
theorem iRead_of {b0 b5 : List UInt8} (hc : Chain b0 b5) (o : Option Tm) (hp : ∀ w, GM w → Calls Tryz.prog 37 #[.string (byt b5)] w (GotP w o)) (w : World) (hm : GM w) :
    Calls Tryz.prog 18 #[.string (byt b0)] w (GotP w o) := by
  obtain ⟨b1, b2, b3, b4, ⟨l0, l1, l2, l3, l4⟩, e1, e2, e3, e4, e5⟩ := hc
  have r1 := hide (fun w hm => repl_any e1 (by decide) l0 (by decide) w hm)
  have r2 := hide (fun w hm => repl_any e2 (by decide) l1 (by decide) w hm)
  have r3 := hide (fun w hm => repl_any e3 (by decide) l2 (by decide) w hm)
  have r4 := hide (fun w hm => repl_any e4 (by decide) l3 (by decide) w hm)
  have r5 := hide (fun w hm => repl_any e5 (by decide) l4 (by decide) w hm)
  have hp' := hide hp
  have hm' := hide hm
  obtain ⟨ts, hts⟩ : ∃ ts : Nat → List UInt8, ts 0 = b0 ∧ ts 1 = b1 ∧ ts 2 = b2 ∧ ts 3 = b3 := ⟨fun i => match i with | 0 => b0 | 1 => b1 | 2 => b2 | _ => b3, rfl, rfl, rfl, rfl⟩
  have hts' := hide hts
  clear hp hm e1 e2 e3 e4 e5 hts
  have a1 : ∀ w, (Op.stringOp .add ⟨#[83, 40]⟩ ⟨#[35, 48]⟩).run Tryz.prog w = .ok (.string (byt [83, 40, 35, 48])) w := fun w => add_strE (a := [83, 40]) (b := [35, 48]) rfl (by decide) w
  have a2 : ∀ w, (Op.stringOp .add (byt [83, 40, 35, 48]) ⟨#[41]⟩).run Tryz.prog w = .ok (.string (byt [83, 40, 35, 48, 41])) w := fun w => add_strE (a := [83, 40, 35, 48]) (b := [41]) rfl (by decide) w
  have a3 : ∀ w, (Op.stringOp .add ⟨#[40, 40, 80, 32, 48, 41, 32]⟩ ⟨#[35, 48]⟩).run Tryz.prog w = .ok (.string (byt [40, 40, 80, 32, 48, 41, 32, 35, 48])) w := fun w => add_strE (a := [40, 40, 80, 32, 48, 41, 32]) (b := [35, 48]) rfl (by decide) w
  have a4 : ∀ w, (Op.stringOp .add (byt [40, 40, 80, 32, 48, 41, 32, 35, 48]) ⟨#[41]⟩).run Tryz.prog w = .ok (.string (byt [40, 40, 80, 32, 48, 41, 32, 35, 48, 41])) w := fun w => add_strE (a := [40, 40, 80, 32, 48, 41, 32, 35, 48]) (b := [41]) rfl (by decide) w
  have a5 : ∀ w, (Op.stringOp .add ⟨#[83, 40]⟩ ⟨#[35, 49]⟩).run Tryz.prog w = .ok (.string (byt [83, 40, 35, 49])) w := fun w => add_strE (a := [83, 40]) (b := [35, 49]) rfl (by decide) w
  have a6 : ∀ w, (Op.stringOp .add (byt [83, 40, 35, 49]) ⟨#[41]⟩).run Tryz.prog w = .ok (.string (byt [83, 40, 35, 49, 41])) w := fun w => add_strE (a := [83, 40, 35, 49]) (b := [41]) rfl (by decide) w
  have a7 : ∀ w, (Op.stringOp .add ⟨#[40, 40, 80, 32, 48, 41, 32]⟩ ⟨#[35, 49]⟩).run Tryz.prog w = .ok (.string (byt [40, 40, 80, 32, 48, 41, 32, 35, 49])) w := fun w => add_strE (a := [40, 40, 80, 32, 48, 41, 32]) (b := [35, 49]) rfl (by decide) w
  have a8 : ∀ w, (Op.stringOp .add (byt [40, 40, 80, 32, 48, 41, 32, 35, 49]) ⟨#[41]⟩).run Tryz.prog w = .ok (.string (byt [40, 40, 80, 32, 48, 41, 32, 35, 49, 41])) w := fun w => add_strE (a := [40, 40, 80, 32, 48, 41, 32, 35, 49]) (b := [41]) rfl (by decide) w
  have a9 : ∀ w, (Op.stringOp .add ⟨#[83, 40]⟩ ⟨#[35, 50]⟩).run Tryz.prog w = .ok (.string (byt [83, 40, 35, 50])) w := fun w => add_strE (a := [83, 40]) (b := [35, 50]) rfl (by decide) w
  have a10 : ∀ w, (Op.stringOp .add (byt [83, 40, 35, 50]) ⟨#[41]⟩).run Tryz.prog w = .ok (.string (byt [83, 40, 35, 50, 41])) w := fun w => add_strE (a := [83, 40, 35, 50]) (b := [41]) rfl (by decide) w
  have a11 : ∀ w, (Op.stringOp .add ⟨#[40, 40, 80, 32, 48, 41, 32]⟩ ⟨#[35, 50]⟩).run Tryz.prog w = .ok (.string (byt [40, 40, 80, 32, 48, 41, 32, 35, 50])) w := fun w => add_strE (a := [40, 40, 80, 32, 48, 41, 32]) (b := [35, 50]) rfl (by decide) w
  have a12 : ∀ w, (Op.stringOp .add (byt [40, 40, 80, 32, 48, 41, 32, 35, 50]) ⟨#[41]⟩).run Tryz.prog w = .ok (.string (byt [40, 40, 80, 32, 48, 41, 32, 35, 50, 41])) w := fun w => add_strE (a := [40, 40, 80, 32, 48, 41, 32, 35, 50]) (b := [41]) rfl (by decide) w
  go_enter Tryz.func18, Tryz.ntmps18
  go_wp2_with fail
  go_loopw [0, 8] (fun o i wr => ∃ j : Nat, j ≤ 3 ∧ o = .string (byt (ts j)) ∧ i = .int .i64 j ∧ Blk wr (w.heap.size + 1) #[.string ⟨#[35, 48]⟩, .string ⟨#[35, 49]⟩, .string ⟨#[35, 50]⟩] ∧ Blk wr w.heap.size #[.int .i64 0, .int .i64 0, .slice none 0 0] ∧ Below w.heap.size w wr) (fun _ i _ => 3 - (intOf i).toNat)
  case atStart => exact ⟨0, by omega, by rw [hts'.out.1], rfl, Blk.new_ _ 9 _ (by simp), (Blk.new_ w 24 _ rfl).alloc _, ((Below.refl _ _).alloc (Nat.le_refl _) _).alloc (by simp) _⟩
  case round =>
    obtain ⟨j, hj, rfl, rfl, hB, hZ, hb⟩ := hrel
    have gm := hm'.out.keep hb
    obtain ⟨c0, c1, c2⟩ := hB.three
    by_cases j0 : j = 0
    · subst j0
      rw [hts'.out.1]
      go_wp2_with (go_at_call 35; refine (r1.out _ gm).mono ?_; rintro e w1 ⟨rfl, hb1⟩)
      go_roundw
      case rel => exact ⟨1, by omega, by rw [hts'.out.2.1], rfl, hB.keep hb1, hZ.keep hb1, hb.trans (hb1.mono hb.size)⟩
      case measure => simp [intOf]
    by_cases j1 : j = 1
    · subst j1
      rw [hts'.out.2.1]
      go_wp2_with (go_at_call 35; refine (r2.out _ gm).mono ?_; rintro e w1 ⟨rfl, hb1⟩)
      go_roundw
      case rel => exact ⟨2, by omega, by rw [hts'.out.2.2.1], rfl, hB.keep hb1, hZ.keep hb1, hb.trans (hb1.mono hb.size)⟩
      case measure => simp [intOf]
    by_cases j2 : j = 2
    · subst j2
      rw [hts'.out.2.2.1]
      go_wp2_with (go_at_call 35; refine (r3.out _ gm).mono ?_; rintro e w1 ⟨rfl, hb1⟩)
      go_roundw
      case rel => exact ⟨3, by omega, by rw [hts'.out.2.2.2], rfl, hB.keep hb1, hZ.keep hb1, hb.trans (hb1.mono hb.size)⟩
      case measure => simp [intOf]
    obtain rfl : j = 3 := by omega
    rw [hts'.out.2.2.2]
    clear c0 c1 c2
    go_wp2_with (first
      | (go_at_call 37; refine (hp'.out _ gm2).mono ?_; rintro e w3 ⟨k, n, ks, A, c, hk, rfl, hl, hf, hb3⟩; have hk' := hide hk; clear hk; have hZ3 := hZ2.keep hb3; obtain ⟨d0, d1, d2⟩ := hZ3.three; have e0 := hZ3.frozen 0; have e1 := hZ3.frozen 1; have e2 := hZ3.frozen 2; have g3 := g2.trans (hb3.mono g2.size))
      | (go_at_call 35; have _t := tok; refine (r5.out _ gm1).mono ?_; rintro e w2 ⟨rfl, hb2⟩; clear tok; have gm2 := gm1.keep hb2; have hZ2 := hZ1.keep hb2; have g2 := g1.trans (hb2.mono g1.size))
      | (go_at_call 35; refine (r4.out _ gm).mono ?_; rintro e w1 ⟨rfl, hb1⟩; have tok : True := trivial; have gm1 := gm.keep hb1; have hZ1 := hZ.keep hb1; have g1 := hb.trans (hb1.mono hb.size))
      | (go_at_call 36; have _t := tok; refine (funText3_any _).mono ?_; rintro e w9 ⟨rfl, rfl⟩)
      | (go_at_call 36; refine (funText1_any _).mono ?_; rintro e w9 ⟨rfl, rfl⟩))
    refine bodyPost_ret (v := .tuple #[.agg #[.int .i64 k, .int .i64 n, .slice A ks.length c], .bool o.isSome]) (by simp [results, Tryz.results18, go_sem, d0, d1, d2]) rfl ⟨k, n, ks, A, c, hk'.out, rfl, hl, ?_, ((g3.setCell (by simp) _).setCell (by simp) _).setCell (by simp) _⟩
    exact (((hf.setCell (by simp; have := hZ2.lt; omega) _).setCell (by simp; have := hZ2.lt; omega) _).setCell (by simp; have := hZ2.lt; omega) _).mono g2.size
theorem plus_any (w : World) : Calls Tryz.prog 31 #[] w fun e w' => e = .returned (.string (byt plusB)) ∧ w = w' := by
  go_enter Tryz.func31, Tryz.ntmps31
  go_wp2
  go_ret
  exact ⟨rfl, rfl⟩
set_option maxHeartbeats 2000000 in
theorem sum0_any (w : World) : Calls Tryz.prog 32 #[.string ⟨#[35, 48]⟩] w fun e w' => e = .returned (.string (byt [40, 40, 91, 78, 93, 91, 78, 93, 60, 91, 78, 93, 78, 44, 35, 49, 44, 91, 78, 93, 91, 78, 93, 43, 35, 48, 44, 35, 48, 62, 32, 48, 41, 32, 35, 48, 41])) ∧ w = w' := by
  have a13 : ∀ w, (Op.stringOp .add ⟨#[40, 40]⟩ (byt plusB)).run Tryz.prog w = .ok (.string (byt [40, 40, 91, 78, 93, 91, 78, 93, 60, 91, 78, 93, 78, 44, 35, 49, 44, 91, 78, 93, 91, 78, 93, 43, 35, 48, 44, 35, 48, 62])) w := fun w => add_strE (a := [40, 40]) (b := [91, 78, 93, 91, 78, 93, 60, 91, 78, 93, 78, 44, 35, 49, 44, 91, 78, 93, 91, 78, 93, 43, 35, 48, 44, 35, 48, 62]) rfl (by decide) w
  have a14 : ∀ w, (Op.stringOp .add (byt [40, 40, 91, 78, 93, 91, 78, 93, 60, 91, 78, 93, 78, 44, 35, 49, 44, 91, 78, 93, 91, 78, 93, 43, 35, 48, 44, 35, 48, 62]) ⟨#[32, 48, 41, 32]⟩).run Tryz.prog w = .ok (.string (byt [40, 40, 91, 78, 93, 91, 78, 93, 60, 91, 78, 93, 78, 44, 35, 49, 44, 91, 78, 93, 91, 78, 93, 43, 35, 48, 44, 35, 48, 62, 32, 48, 41, 32])) w := fun w => add_strE (a := [40, 40, 91, 78, 93, 91, 78, 93, 60, 91, 78, 93, 78, 44, 35, 49, 44, 91, 78, 93, 91, 78, 93, 43, 35, 48, 44, 35, 48, 62]) (b := [32, 48, 41, 32]) rfl (by decide) w
  have a15 : ∀ w, (Op.stringOp .add (byt [40, 40, 91, 78, 93, 91, 78, 93, 60, 91, 78, 93, 78, 44, 35, 49, 44, 91, 78, 93, 91, 78, 93, 43, 35, 48, 44, 35, 48, 62, 32, 48, 41, 32]) ⟨#[35, 48]⟩).run Tryz.prog w = .ok (.string (byt [40, 40, 91, 78, 93, 91, 78, 93, 60, 91, 78, 93, 78, 44, 35, 49, 44, 91, 78, 93, 91, 78, 93, 43, 35, 48, 44, 35, 48, 62, 32, 48, 41, 32, 35, 48])) w := fun w => add_strE (a := [40, 40, 91, 78, 93, 91, 78, 93, 60, 91, 78, 93, 78, 44, 35, 49, 44, 91, 78, 93, 91, 78, 93, 43, 35, 48, 44, 35, 48, 62, 32, 48, 41, 32]) (b := [35, 48]) rfl (by decide) w
  have a16 : ∀ w, (Op.stringOp .add (byt [40, 40, 91, 78, 93, 91, 78, 93, 60, 91, 78, 93, 78, 44, 35, 49, 44, 91, 78, 93, 91, 78, 93, 43, 35, 48, 44, 35, 48, 62, 32, 48, 41, 32, 35, 48]) ⟨#[41]⟩).run Tryz.prog w = .ok (.string (byt [40, 40, 91, 78, 93, 91, 78, 93, 60, 91, 78, 93, 78, 44, 35, 49, 44, 91, 78, 93, 91, 78, 93, 43, 35, 48, 44, 35, 48, 62, 32, 48, 41, 32, 35, 48, 41])) w := fun w => add_strE (a := [40, 40, 91, 78, 93, 91, 78, 93, 60, 91, 78, 93, 78, 44, 35, 49, 44, 91, 78, 93, 91, 78, 93, 43, 35, 48, 44, 35, 48, 62, 32, 48, 41, 32, 35, 48]) (b := [41]) rfl (by decide) w
  go_enter Tryz.func32, Tryz.ntmps32
  go_wp2_with (go_at_call 31; refine (plus_any _).mono ?_; rintro e w9 ⟨rfl, rfl⟩)
  go_ret
  exact ⟨rfl, rfl⟩
set_option maxHeartbeats 2000000 in
theorem sum1_any (w : World) : Calls Tryz.prog 32 #[.string ⟨#[35, 49]⟩] w fun e w' => e = .returned (.string (byt [40, 40, 91, 78, 93, 91, 78, 93, 60, 91, 78, 93, 78, 44, 35, 49, 44, 91, 78, 93, 91, 78, 93, 43, 35, 48, 44, 35, 48, 62, 32, 48, 41, 32, 35, 49, 41])) ∧ w = w' := by
  have a17 : ∀ w, (Op.stringOp .add ⟨#[40, 40]⟩ (byt plusB)).run Tryz.prog w = .ok (.string (byt [40, 40, 91, 78, 93, 91, 78, 93, 60, 91, 78, 93, 78, 44, 35, 49, 44, 91, 78, 93, 91, 78, 93, 43, 35, 48, 44, 35, 48, 62])) w := fun w => add_strE (a := [40, 40]) (b := [91, 78, 93, 91, 78, 93, 60, 91, 78, 93, 78, 44, 35, 49, 44, 91, 78, 93, 91, 78, 93, 43, 35, 48, 44, 35, 48, 62]) rfl (by decide) w
  have a18 : ∀ w, (Op.stringOp .add (byt [40, 40, 91, 78, 93, 91, 78, 93, 60, 91, 78, 93, 78, 44, 35, 49, 44, 91, 78, 93, 91, 78, 93, 43, 35, 48, 44, 35, 48, 62]) ⟨#[32, 48, 41, 32]⟩).run Tryz.prog w = .ok (.string (byt [40, 40, 91, 78, 93, 91, 78, 93, 60, 91, 78, 93, 78, 44, 35, 49, 44, 91, 78, 93, 91, 78, 93, 43, 35, 48, 44, 35, 48, 62, 32, 48, 41, 32])) w := fun w => add_strE (a := [40, 40, 91, 78, 93, 91, 78, 93, 60, 91, 78, 93, 78, 44, 35, 49, 44, 91, 78, 93, 91, 78, 93, 43, 35, 48, 44, 35, 48, 62]) (b := [32, 48, 41, 32]) rfl (by decide) w
  have a19 : ∀ w, (Op.stringOp .add (byt [40, 40, 91, 78, 93, 91, 78, 93, 60, 91, 78, 93, 78, 44, 35, 49, 44, 91, 78, 93, 91, 78, 93, 43, 35, 48, 44, 35, 48, 62, 32, 48, 41, 32]) ⟨#[35, 49]⟩).run Tryz.prog w = .ok (.string (byt [40, 40, 91, 78, 93, 91, 78, 93, 60, 91, 78, 93, 78, 44, 35, 49, 44, 91, 78, 93, 91, 78, 93, 43, 35, 48, 44, 35, 48, 62, 32, 48, 41, 32, 35, 49])) w := fun w => add_strE (a := [40, 40, 91, 78, 93, 91, 78, 93, 60, 91, 78, 93, 78, 44, 35, 49, 44, 91, 78, 93, 91, 78, 93, 43, 35, 48, 44, 35, 48, 62, 32, 48, 41, 32]) (b := [35, 49]) rfl (by decide) w
  have a20 : ∀ w, (Op.stringOp .add (byt [40, 40, 91, 78, 93, 91, 78, 93, 60, 91, 78, 93, 78, 44, 35, 49, 44, 91, 78, 93, 91, 78, 93, 43, 35, 48, 44, 35, 48, 62, 32, 48, 41, 32, 35, 49]) ⟨#[41]⟩).run Tryz.prog w = .ok (.string (byt [40, 40, 91, 78, 93, 91, 78, 93, 60, 91, 78, 93, 78, 44, 35, 49, 44, 91, 78, 93, 91, 78, 93, 43, 35, 48, 44, 35, 48, 62, 32, 48, 41, 32, 35, 49, 41])) w := fun w => add_strE (a := [40, 40, 91, 78, 93, 91, 78, 93, 60, 91, 78, 93, 78, 44, 35, 49, 44, 91, 78, 93, 91, 78, 93, 43, 35, 48, 44, 35, 48, 62, 32, 48, 41, 32, 35, 49]) (b := [41]) rfl (by decide) w
  go_enter Tryz.func32, Tryz.ntmps32
  go_wp2_with (go_at_call 31; refine (plus_any _).mono ?_; rintro e w9 ⟨rfl, rfl⟩)
  go_ret
  exact ⟨rfl, rfl⟩
set_option maxHeartbeats 2000000 in
theorem sum2_any (w : World) : Calls Tryz.prog 32 #[.string ⟨#[35, 50]⟩] w fun e w' => e = .returned (.string (byt [40, 40, 91, 78, 93, 91, 78, 93, 60, 91, 78, 93, 78, 44, 35, 49, 44, 91, 78, 93, 91, 78, 93, 43, 35, 48, 44, 35, 48, 62, 32, 48, 41, 32, 35, 50, 41])) ∧ w = w' := by
  have a21 : ∀ w, (Op.stringOp .add ⟨#[40, 40]⟩ (byt plusB)).run Tryz.prog w = .ok (.string (byt [40, 40, 91, 78, 93, 91, 78, 93, 60, 91, 78, 93, 78, 44, 35, 49, 44, 91, 78, 93, 91, 78, 93, 43, 35, 48, 44, 35, 48, 62])) w := fun w => add_strE (a := [40, 40]) (b := [91, 78, 93, 91, 78, 93, 60, 91, 78, 93, 78, 44, 35, 49, 44, 91, 78, 93, 91, 78, 93, 43, 35, 48, 44, 35, 48, 62]) rfl (by decide) w
  have a22 : ∀ w, (Op.stringOp .add (byt [40, 40, 91, 78, 93, 91, 78, 93, 60, 91, 78, 93, 78, 44, 35, 49, 44, 91, 78, 93, 91, 78, 93, 43, 35, 48, 44, 35, 48, 62]) ⟨#[32, 48, 41, 32]⟩).run Tryz.prog w = .ok (.string (byt [40, 40, 91, 78, 93, 91, 78, 93, 60, 91, 78, 93, 78, 44, 35, 49, 44, 91, 78, 93, 91, 78, 93, 43, 35, 48, 44, 35, 48, 62, 32, 48, 41, 32])) w := fun w => add_strE (a := [40, 40, 91, 78, 93, 91, 78, 93, 60, 91, 78, 93, 78, 44, 35, 49, 44, 91, 78, 93, 91, 78, 93, 43, 35, 48, 44, 35, 48, 62]) (b := [32, 48, 41, 32]) rfl (by decide) w
  have a23 : ∀ w, (Op.stringOp .add (byt [40, 40, 91, 78, 93, 91, 78, 93, 60, 91, 78, 93, 78, 44, 35, 49, 44, 91, 78, 93, 91, 78, 93, 43, 35, 48, 44, 35, 48, 62, 32, 48, 41, 32]) ⟨#[35, 50]⟩).run Tryz.prog w = .ok (.string (byt [40, 40, 91, 78, 93, 91, 78, 93, 60, 91, 78, 93, 78, 44, 35, 49, 44, 91, 78, 93, 91, 78, 93, 43, 35, 48, 44, 35, 48, 62, 32, 48, 41, 32, 35, 50])) w := fun w => add_strE (a := [40, 40, 91, 78, 93, 91, 78, 93, 60, 91, 78, 93, 78, 44, 35, 49, 44, 91, 78, 93, 91, 78, 93, 43, 35, 48, 44, 35, 48, 62, 32, 48, 41, 32]) (b := [35, 50]) rfl (by decide) w
  have a24 : ∀ w, (Op.stringOp .add (byt [40, 40, 91, 78, 93, 91, 78, 93, 60, 91, 78, 93, 78, 44, 35, 49, 44, 91, 78, 93, 91, 78, 93, 43, 35, 48, 44, 35, 48, 62, 32, 48, 41, 32, 35, 50]) ⟨#[41]⟩).run Tryz.prog w = .ok (.string (byt [40, 40, 91, 78, 93, 91, 78, 93, 60, 91, 78, 93, 78, 44, 35, 49, 44, 91, 78, 93, 91, 78, 93, 43, 35, 48, 44, 35, 48, 62, 32, 48, 41, 32, 35, 50, 41])) w := fun w => add_strE (a := [40, 40, 91, 78, 93, 91, 78, 93, 60, 91, 78, 93, 78, 44, 35, 49, 44, 91, 78, 93, 91, 78, 93, 43, 35, 48, 44, 35, 48, 62, 32, 48, 41, 32, 35, 50]) (b := [41]) rfl (by decide) w
  go_enter Tryz.func32, Tryz.ntmps32
  go_wp2_with (go_at_call 31; refine (plus_any _).mono ?_; rintro e w9 ⟨rfl, rfl⟩)
  go_ret
  exact ⟨rfl, rfl⟩
set_option maxHeartbeats 4000000 in
theorem l17Texts_any {thm : Int} {sR pR sB pB : List UInt8} {oS oP : Option Tm} (h : ThmAt thm sR pR sB pB oS oP) (w : World) :
    Calls Tryz.prog 15 #[.int .i64 thm] w fun e w' => e = .returned (.tuple #[.string (byt sB), .string (byt pB)]) ∧ w = w' := by
  rcases h with ⟨rfl, rfl, rfl, rfl, rfl, rfl, rfl⟩ | ⟨rfl, rfl, rfl, rfl, rfl, rfl, rfl⟩ | ⟨rfl, rfl, rfl, rfl, rfl, rfl, rfl⟩ | ⟨rfl, rfl, rfl, rfl, rfl, rfl, rfl⟩ | ⟨rfl, rfl, rfl, rfl, rfl, rfl, rfl⟩ | ⟨⟨h1, h2, h3, h4, h5⟩, rfl, rfl, rfl, rfl, rfl, rfl⟩
  · have a25 : ∀ w, (Op.stringOp .add ⟨#[40, 78, 62, 123, 78, 44, 40, 40]⟩ (byt plusB)).run Tryz.prog w = .ok (.string (byt [40, 78, 62, 123, 78, 44, 40, 40, 91, 78, 93, 91, 78, 93, 60, 91, 78, 93, 78, 44, 35, 49, 44, 91, 78, 93, 91, 78, 93, 43, 35, 48, 44, 35, 48, 62])) w := fun w => add_strE (a := [40, 78, 62, 123, 78, 44, 40, 40]) (b := [91, 78, 93, 91, 78, 93, 60, 91, 78, 93, 78, 44, 35, 49, 44, 91, 78, 93, 91, 78, 93, 43, 35, 48, 44, 35, 48, 62]) rfl (by decide) w
    have a26 : ∀ w, (Op.stringOp .add (byt [40, 78, 62, 123, 78, 44, 40, 40, 91, 78, 93, 91, 78, 93, 60, 91, 78, 93, 78, 44, 35, 49, 44, 91, 78, 93, 91, 78, 93, 43, 35, 48, 44, 35, 48, 62]) ⟨#[32, 35, 48, 41, 32, 48, 41, 44, 35, 48, 125, 41]⟩).run Tryz.prog w = .ok (.string (byt [40, 78, 62, 123, 78, 44, 40, 40, 91, 78, 93, 91, 78, 93, 60, 91, 78, 93, 78, 44, 35, 49, 44, 91, 78, 93, 91, 78, 93, 43, 35, 48, 44, 35, 48, 62, 32, 35, 48, 41, 32, 48, 41, 44, 35, 48, 125, 41])) w := fun w => add_strE (a := [40, 78, 62, 123, 78, 44, 40, 40, 91, 78, 93, 91, 78, 93, 60, 91, 78, 93, 78, 44, 35, 49, 44, 91, 78, 93, 91, 78, 93, 43, 35, 48, 44, 35, 48, 62]) (b := [32, 35, 48, 41, 32, 48, 41, 44, 35, 48, 125, 41]) rfl (by decide) w
    go_enter Tryz.func15, Tryz.ntmps15
    go_wp2_with (go_at_call 31; refine (plus_any _).mono ?_; rintro e w9 ⟨rfl, rfl⟩)
    go_ret2
    exact ⟨rfl, rfl⟩
  · have a27 : ∀ w, (Op.stringOp .add ⟨#[123, 78, 44]⟩ (byt [40, 40, 91, 78, 93, 91, 78, 93, 60, 91, 78, 93, 78, 44, 35, 49, 44, 91, 78, 93, 91, 78, 93, 43, 35, 48, 44, 35, 48, 62, 32, 48, 41, 32, 35, 48, 41])).run Tryz.prog w = .ok (.string (byt [123, 78, 44, 40, 40, 91, 78, 93, 91, 78, 93, 60, 91, 78, 93, 78, 44, 35, 49, 44, 91, 78, 93, 91, 78, 93, 43, 35, 48, 44, 35, 48, 62, 32, 48, 41, 32, 35, 48, 41])) w := fun w => add_strE (a := [123, 78, 44]) (b := [40, 40, 91, 78, 93, 91, 78, 93, 60, 91, 78, 93, 78, 44, 35, 49, 44, 91, 78, 93, 91, 78, 93, 43, 35, 48, 44, 35, 48, 62, 32, 48, 41, 32, 35, 48, 41]) rfl (by decide) w
    have a28 : ∀ w, (Op.stringOp .add (byt [123, 78, 44, 40, 40, 91, 78, 93, 91, 78, 93, 60, 91, 78, 93, 78, 44, 35, 49, 44, 91, 78, 93, 91, 78, 93, 43, 35, 48, 44, 35, 48, 62, 32, 48, 41, 32, 35, 48, 41]) ⟨#[44, 35, 48, 125]⟩).run Tryz.prog w = .ok (.string (byt [123, 78, 44, 40, 40, 91, 78, 93, 91, 78, 93, 60, 91, 78, 93, 78, 44, 35, 49, 44, 91, 78, 93, 91, 78, 93, 43, 35, 48, 44, 35, 48, 62, 32, 48, 41, 32, 35, 48, 41, 44, 35, 48, 125])) w := fun w => add_strE (a := [123, 78, 44, 40, 40, 91, 78, 93, 91, 78, 93, 60, 91, 78, 93, 78, 44, 35, 49, 44, 91, 78, 93, 91, 78, 93, 43, 35, 48, 44, 35, 48, 62, 32, 48, 41, 32, 35, 48, 41]) (b := [44, 35, 48, 125]) rfl (by decide) w
    have a29 : ∀ w, (Op.stringOp .add ⟨#[91, 78, 93, 91]⟩ (byt [123, 78, 44, 40, 40, 91, 78, 93, 91, 78, 93, 60, 91, 78, 93, 78, 44, 35, 49, 44, 91, 78, 93, 91, 78, 93, 43, 35, 48, 44, 35, 48, 62, 32, 48, 41, 32, 35, 48, 41, 44, 35, 48, 125])).run Tryz.prog w = .ok (.string (byt [91, 78, 93, 91, 123, 78, 44, 40, 40, 91, 78, 93, 91, 78, 93, 60, 91, 78, 93, 78, 44, 35, 49, 44, 91, 78, 93, 91, 78, 93, 43, 35, 48, 44, 35, 48, 62, 32, 48, 41, 32, 35, 48, 41, 44, 35, 48, 125])) w := fun w => add_strE (a := [91, 78, 93, 91]) (b := [123, 78, 44, 40, 40, 91, 78, 93, 91, 78, 93, 60, 91, 78, 93, 78, 44, 35, 49, 44, 91, 78, 93, 91, 78, 93, 43, 35, 48, 44, 35, 48, 62, 32, 48, 41, 32, 35, 48, 41, 44, 35, 48, 125]) rfl (by decide) w
    have a30 : ∀ w, (Op.stringOp .add (byt [91, 78, 93, 91, 123, 78, 44, 40, 40, 91, 78, 93, 91, 78, 93, 60, 91, 78, 93, 78, 44, 35, 49, 44, 91, 78, 93, 91, 78, 93, 43, 35, 48, 44, 35, 48, 62, 32, 48, 41, 32, 35, 48, 41, 44, 35, 48, 125]) ⟨#[93, 64, 60, 91, 78, 93, 123, 78, 44, 43]⟩).run Tryz.prog w = .ok (.string (byt [91, 78, 93, 91, 123, 78, 44, 40, 40, 91, 78, 93, 91, 78, 93, 60, 91, 78, 93, 78, 44, 35, 49, 44, 91, 78, 93, 91, 78, 93, 43, 35, 48, 44, 35, 48, 62, 32, 48, 41, 32, 35, 48, 41, 44, 35, 48, 125, 93, 64, 60, 91, 78, 93, 123, 78, 44, 43])) w := fun w => add_strE (a := [91, 78, 93, 91, 123, 78, 44, 40, 40, 91, 78, 93, 91, 78, 93, 60, 91, 78, 93, 78, 44, 35, 49, 44, 91, 78, 93, 91, 78, 93, 43, 35, 48, 44, 35, 48, 62, 32, 48, 41, 32, 35, 48, 41, 44, 35, 48, 125]) (b := [93, 64, 60, 91, 78, 93, 123, 78, 44, 43]) rfl (by decide) w
    have a31 : ∀ w, (Op.stringOp .add (byt [91, 78, 93, 91, 123, 78, 44, 40, 40, 91, 78, 93, 91, 78, 93, 60, 91, 78, 93, 78, 44, 35, 49, 44, 91, 78, 93, 91, 78, 93, 43, 35, 48, 44, 35, 48, 62, 32, 48, 41, 32, 35, 48, 41, 44, 35, 48, 125, 93, 64, 60, 91, 78, 93, 123, 78, 44, 43]) (byt [40, 40, 91, 78, 93, 91, 78, 93, 60, 91, 78, 93, 78, 44, 35, 49, 44, 91, 78, 93, 91, 78, 93, 43, 35, 48, 44, 35, 48, 62, 32, 48, 41, 32, 35, 50, 41])).run Tryz.prog w = .ok (.string (byt [91, 78, 93, 91, 123, 78, 44, 40, 40, 91, 78, 93, 91, 78, 93, 60, 91, 78, 93, 78, 44, 35, 49, 44, 91, 78, 93, 91, 78, 93, 43, 35, 48, 44, 35, 48, 62, 32, 48, 41, 32, 35, 48, 41, 44, 35, 48, 125, 93, 64, 60, 91, 78, 93, 123, 78, 44, 43, 40, 40, 91, 78, 93, 91, 78, 93, 60, 91, 78, 93, 78, 44, 35, 49, 44, 91, 78, 93, 91, 78, 93, 43, 35, 48, 44, 35, 48, 62, 32, 48, 41, 32, 35, 50, 41])) w := fun w => add_strE (a := [91, 78, 93, 91, 123, 78, 44, 40, 40, 91, 78, 93, 91, 78, 93, 60, 91, 78, 93, 78, 44, 35, 49, 44, 91, 78, 93, 91, 78, 93, 43, 35, 48, 44, 35, 48, 62, 32, 48, 41, 32, 35, 48, 41, 44, 35, 48, 125, 93, 64, 60, 91, 78, 93, 123, 78, 44, 43]) (b := [40, 40, 91, 78, 93, 91, 78, 93, 60, 91, 78, 93, 78, 44, 35, 49, 44, 91, 78, 93, 91, 78, 93, 43, 35, 48, 44, 35, 48, 62, 32, 48, 41, 32, 35, 50, 41]) rfl (by decide) w
    have a32 : ∀ w, (Op.stringOp .add (byt [91, 78, 93, 91, 123, 78, 44, 40, 40, 91, 78, 93, 91, 78, 93, 60, 91, 78, 93, 78, 44, 35, 49, 44, 91, 78, 93, 91, 78, 93, 43, 35, 48, 44, 35, 48, 62, 32, 48, 41, 32, 35, 48, 41, 44, 35, 48, 125, 93, 64, 60, 91, 78, 93, 123, 78, 44, 43, 40, 40, 91, 78, 93, 91, 78, 93, 60, 91, 78, 93, 78, 44, 35, 49, 44, 91, 78, 93, 91, 78, 93, 43, 35, 48, 44, 35, 48, 62, 32, 48, 41, 32, 35, 50, 41]) ⟨#[44, 43, 35, 48, 125, 44, 35, 48, 44, 33, 43]⟩).run Tryz.prog w = .ok (.string (byt [91, 78, 93, 91, 123, 78, 44, 40, 40, 91, 78, 93, 91, 78, 93, 60, 91, 78, 93, 78, 44, 35, 49, 44, 91, 78, 93, 91, 78, 93, 43, 35, 48, 44, 35, 48, 62, 32, 48, 41, 32, 35, 48, 41, 44, 35, 48, 125, 93, 64, 60, 91, 78, 93, 123, 78, 44, 43, 40, 40, 91, 78, 93, 91, 78, 93, 60, 91, 78, 93, 78, 44, 35, 49, 44, 91, 78, 93, 91, 78, 93, 43, 35, 48, 44, 35, 48, 62, 32, 48, 41, 32, 35, 50, 41, 44, 43, 35, 48, 125, 44, 35, 48, 44, 33, 43])) w := fun w => add_strE (a := [91, 78, 93, 91, 123, 78, 44, 40, 40, 91, 78, 93, 91, 78, 93, 60, 91, 78, 93, 78, 44, 35, 49, 44, 91, 78, 93, 91, 78, 93, 43, 35, 48, 44, 35, 48, 62, 32, 48, 41, 32, 35, 48, 41, 44, 35, 48, 125, 93, 64, 60, 91, 78, 93, 123, 78, 44, 43, 40, 40, 91, 78, 93, 91, 78, 93, 60, 91, 78, 93, 78, 44, 35, 49, 44, 91, 78, 93, 91, 78, 93, 43, 35, 48, 44, 35, 48, 62, 32, 48, 41, 32, 35, 50, 41]) (b := [44, 43, 35, 48, 125, 44, 35, 48, 44, 33, 43]) rfl (by decide) w
    have a33 : ∀ w, (Op.stringOp .add (byt [91, 78, 93, 91, 123, 78, 44, 40, 40, 91, 78, 93, 91, 78, 93, 60, 91, 78, 93, 78, 44, 35, 49, 44, 91, 78, 93, 91, 78, 93, 43, 35, 48, 44, 35, 48, 62, 32, 48, 41, 32, 35, 48, 41, 44, 35, 48, 125, 93, 64, 60, 91, 78, 93, 123, 78, 44, 43, 40, 40, 91, 78, 93, 91, 78, 93, 60, 91, 78, 93, 78, 44, 35, 49, 44, 91, 78, 93, 91, 78, 93, 43, 35, 48, 44, 35, 48, 62, 32, 48, 41, 32, 35, 50, 41, 44, 43, 35, 48, 125, 44, 35, 48, 44, 33, 43]) (byt [40, 40, 91, 78, 93, 91, 78, 93, 60, 91, 78, 93, 78, 44, 35, 49, 44, 91, 78, 93, 91, 78, 93, 43, 35, 48, 44, 35, 48, 62, 32, 48, 41, 32, 35, 49, 41])).run Tryz.prog w = .ok (.string (byt [91, 78, 93, 91, 123, 78, 44, 40, 40, 91, 78, 93, 91, 78, 93, 60, 91, 78, 93, 78, 44, 35, 49, 44, 91, 78, 93, 91, 78, 93, 43, 35, 48, 44, 35, 48, 62, 32, 48, 41, 32, 35, 48, 41, 44, 35, 48, 125, 93, 64, 60, 91, 78, 93, 123, 78, 44, 43, 40, 40, 91, 78, 93, 91, 78, 93, 60, 91, 78, 93, 78, 44, 35, 49, 44, 91, 78, 93, 91, 78, 93, 43, 35, 48, 44, 35, 48, 62, 32, 48, 41, 32, 35, 50, 41, 44, 43, 35, 48, 125, 44, 35, 48, 44, 33, 43, 40, 40, 91, 78, 93, 91, 78, 93, 60, 91, 78, 93, 78, 44, 35, 49, 44, 91, 78, 93, 91, 78, 93, 43, 35, 48, 44, 35, 48, 62, 32, 48, 41, 32, 35, 49, 41])) w := fun w => add_strE (a := [91, 78, 93, 91, 123, 78, 44, 40, 40, 91, 78, 93, 91, 78, 93, 60, 91, 78, 93, 78, 44, 35, 49, 44, 91, 78, 93, 91, 78, 93, 43, 35, 48, 44, 35, 48, 62, 32, 48, 41, 32, 35, 48, 41, 44, 35, 48, 125, 93, 64, 60, 91, 78, 93, 123, 78, 44, 43, 40, 40, 91, 78, 93, 91, 78, 93, 60, 91, 78, 93, 78, 44, 35, 49, 44, 91, 78, 93, 91, 78, 93, 43, 35, 48, 44, 35, 48, 62, 32, 48, 41, 32, 35, 50, 41, 44, 43, 35, 48, 125, 44, 35, 48, 44, 33, 43]) (b := [40, 40, 91, 78, 93, 91, 78, 93, 60, 91, 78, 93, 78, 44, 35, 49, 44, 91, 78, 93, 91, 78, 93, 43, 35, 48, 44, 35, 48, 62, 32, 48, 41, 32, 35, 49, 41]) rfl (by decide) w
    have a34 : ∀ w, (Op.stringOp .add (byt [91, 78, 93, 91, 123, 78, 44, 40, 40, 91, 78, 93, 91, 78, 93, 60, 91, 78, 93, 78, 44, 35, 49, 44, 91, 78, 93, 91, 78, 93, 43, 35, 48, 44, 35, 48, 62, 32, 48, 41, 32, 35, 48, 41, 44, 35, 48, 125, 93, 64, 60, 91, 78, 93, 123, 78, 44, 43, 40, 40, 91, 78, 93, 91, 78, 93, 60, 91, 78, 93, 78, 44, 35, 49, 44, 91, 78, 93, 91, 78, 93, 43, 35, 48, 44, 35, 48, 62, 32, 48, 41, 32, 35, 50, 41, 44, 43, 35, 48, 125, 44, 35, 48, 44, 33, 43, 40, 40, 91, 78, 93, 91, 78, 93, 60, 91, 78, 93, 78, 44, 35, 49, 44, 91, 78, 93, 91, 78, 93, 43, 35, 48, 44, 35, 48, 62, 32, 48, 41, 32, 35, 49, 41]) ⟨#[62]⟩).run Tryz.prog w = .ok (.string (byt [91, 78, 93, 91, 123, 78, 44, 40, 40, 91, 78, 93, 91, 78, 93, 60, 91, 78, 93, 78, 44, 35, 49, 44, 91, 78, 93, 91, 78, 93, 43, 35, 48, 44, 35, 48, 62, 32, 48, 41, 32, 35, 48, 41, 44, 35, 48, 125, 93, 64, 60, 91, 78, 93, 123, 78, 44, 43, 40, 40, 91, 78, 93, 91, 78, 93, 60, 91, 78, 93, 78, 44, 35, 49, 44, 91, 78, 93, 91, 78, 93, 43, 35, 48, 44, 35, 48, 62, 32, 48, 41, 32, 35, 50, 41, 44, 43, 35, 48, 125, 44, 35, 48, 44, 33, 43, 40, 40, 91, 78, 93, 91, 78, 93, 60, 91, 78, 93, 78, 44, 35, 49, 44, 91, 78, 93, 91, 78, 93, 43, 35, 48, 44, 35, 48, 62, 32, 48, 41, 32, 35, 49, 41, 62])) w := fun w => add_strE (a := [91, 78, 93, 91, 123, 78, 44, 40, 40, 91, 78, 93, 91, 78, 93, 60, 91, 78, 93, 78, 44, 35, 49, 44, 91, 78, 93, 91, 78, 93, 43, 35, 48, 44, 35, 48, 62, 32, 48, 41, 32, 35, 48, 41, 44, 35, 48, 125, 93, 64, 60, 91, 78, 93, 123, 78, 44, 43, 40, 40, 91, 78, 93, 91, 78, 93, 60, 91, 78, 93, 78, 44, 35, 49, 44, 91, 78, 93, 91, 78, 93, 43, 35, 48, 44, 35, 48, 62, 32, 48, 41, 32, 35, 50, 41, 44, 43, 35, 48, 125, 44, 35, 48, 44, 33, 43, 40, 40, 91, 78, 93, 91, 78, 93, 60, 91, 78, 93, 78, 44, 35, 49, 44, 91, 78, 93, 91, 78, 93, 43, 35, 48, 44, 35, 48, 62, 32, 48, 41, 32, 35, 49, 41]) (b := [62]) rfl (by decide) w
    have a35 : ∀ w, (Op.stringOp .add ⟨#[40, 78, 62]⟩ (byt [123, 78, 44, 40, 40, 91, 78, 93, 91, 78, 93, 60, 91, 78, 93, 78, 44, 35, 49, 44, 91, 78, 93, 91, 78, 93, 43, 35, 48, 44, 35, 48, 62, 32, 48, 41, 32, 35, 48, 41, 44, 35, 48, 125])).run Tryz.prog w = .ok (.string (byt [40, 78, 62, 123, 78, 44, 40, 40, 91, 78, 93, 91, 78, 93, 60, 91, 78, 93, 78, 44, 35, 49, 44, 91, 78, 93, 91, 78, 93, 43, 35, 48, 44, 35, 48, 62, 32, 48, 41, 32, 35, 48, 41, 44, 35, 48, 125])) w := fun w => add_strE (a := [40, 78, 62]) (b := [123, 78, 44, 40, 40, 91, 78, 93, 91, 78, 93, 60, 91, 78, 93, 78, 44, 35, 49, 44, 91, 78, 93, 91, 78, 93, 43, 35, 48, 44, 35, 48, 62, 32, 48, 41, 32, 35, 48, 41, 44, 35, 48, 125]) rfl (by decide) w
    have a36 : ∀ w, (Op.stringOp .add (byt [40, 78, 62, 123, 78, 44, 40, 40, 91, 78, 93, 91, 78, 93, 60, 91, 78, 93, 78, 44, 35, 49, 44, 91, 78, 93, 91, 78, 93, 43, 35, 48, 44, 35, 48, 62, 32, 48, 41, 32, 35, 48, 41, 44, 35, 48, 125]) ⟨#[41]⟩).run Tryz.prog w = .ok (.string (byt [40, 78, 62, 123, 78, 44, 40, 40, 91, 78, 93, 91, 78, 93, 60, 91, 78, 93, 78, 44, 35, 49, 44, 91, 78, 93, 91, 78, 93, 43, 35, 48, 44, 35, 48, 62, 32, 48, 41, 32, 35, 48, 41, 44, 35, 48, 125, 41])) w := fun w => add_strE (a := [40, 78, 62, 123, 78, 44, 40, 40, 91, 78, 93, 91, 78, 93, 60, 91, 78, 93, 78, 44, 35, 49, 44, 91, 78, 93, 91, 78, 93, 43, 35, 48, 44, 35, 48, 62, 32, 48, 41, 32, 35, 48, 41, 44, 35, 48, 125]) (b := [41]) rfl (by decide) w
    have a37 : ∀ w, (Op.stringOp .add ⟨#[91, 78, 93, 60, 91, 78, 93]⟩ (byt [123, 78, 44, 40, 40, 91, 78, 93, 91, 78, 93, 60, 91, 78, 93, 78, 44, 35, 49, 44, 91, 78, 93, 91, 78, 93, 43, 35, 48, 44, 35, 48, 62, 32, 48, 41, 32, 35, 48, 41, 44, 35, 48, 125])).run Tryz.prog w = .ok (.string (byt [91, 78, 93, 60, 91, 78, 93, 123, 78, 44, 40, 40, 91, 78, 93, 91, 78, 93, 60, 91, 78, 93, 78, 44, 35, 49, 44, 91, 78, 93, 91, 78, 93, 43, 35, 48, 44, 35, 48, 62, 32, 48, 41, 32, 35, 48, 41, 44, 35, 48, 125])) w := fun w => add_strE (a := [91, 78, 93, 60, 91, 78, 93]) (b := [123, 78, 44, 40, 40, 91, 78, 93, 91, 78, 93, 60, 91, 78, 93, 78, 44, 35, 49, 44, 91, 78, 93, 91, 78, 93, 43, 35, 48, 44, 35, 48, 62, 32, 48, 41, 32, 35, 48, 41, 44, 35, 48, 125]) rfl (by decide) w
    have a38 : ∀ w, (Op.stringOp .add (byt [91, 78, 93, 60, 91, 78, 93, 123, 78, 44, 40, 40, 91, 78, 93, 91, 78, 93, 60, 91, 78, 93, 78, 44, 35, 49, 44, 91, 78, 93, 91, 78, 93, 43, 35, 48, 44, 35, 48, 62, 32, 48, 41, 32, 35, 48, 41, 44, 35, 48, 125]) ⟨#[44, 33, 48, 44]⟩).run Tryz.prog w = .ok (.string (byt [91, 78, 93, 60, 91, 78, 93, 123, 78, 44, 40, 40, 91, 78, 93, 91, 78, 93, 60, 91, 78, 93, 78, 44, 35, 49, 44, 91, 78, 93, 91, 78, 93, 43, 35, 48, 44, 35, 48, 62, 32, 48, 41, 32, 35, 48, 41, 44, 35, 48, 125, 44, 33, 48, 44])) w := fun w => add_strE (a := [91, 78, 93, 60, 91, 78, 93, 123, 78, 44, 40, 40, 91, 78, 93, 91, 78, 93, 60, 91, 78, 93, 78, 44, 35, 49, 44, 91, 78, 93, 91, 78, 93, 43, 35, 48, 44, 35, 48, 62, 32, 48, 41, 32, 35, 48, 41, 44, 35, 48, 125]) (b := [44, 33, 48, 44]) rfl (by decide) w
    have a39 : ∀ w, (Op.stringOp .add (byt [91, 78, 93, 60, 91, 78, 93, 123, 78, 44, 40, 40, 91, 78, 93, 91, 78, 93, 60, 91, 78, 93, 78, 44, 35, 49, 44, 91, 78, 93, 91, 78, 93, 43, 35, 48, 44, 35, 48, 62, 32, 48, 41, 32, 35, 48, 41, 44, 35, 48, 125, 44, 33, 48, 44]) (byt [91, 78, 93, 91, 123, 78, 44, 40, 40, 91, 78, 93, 91, 78, 93, 60, 91, 78, 93, 78, 44, 35, 49, 44, 91, 78, 93, 91, 78, 93, 43, 35, 48, 44, 35, 48, 62, 32, 48, 41, 32, 35, 48, 41, 44, 35, 48, 125, 93, 64, 60, 91, 78, 93, 123, 78, 44, 43, 40, 40, 91, 78, 93, 91, 78, 93, 60, 91, 78, 93, 78, 44, 35, 49, 44, 91, 78, 93, 91, 78, 93, 43, 35, 48, 44, 35, 48, 62, 32, 48, 41, 32, 35, 50, 41, 44, 43, 35, 48, 125, 44, 35, 48, 44, 33, 43, 40, 40, 91, 78, 93, 91, 78, 93, 60, 91, 78, 93, 78, 44, 35, 49, 44, 91, 78, 93, 91, 78, 93, 43, 35, 48, 44, 35, 48, 62, 32, 48, 41, 32, 35, 49, 41, 62])).run Tryz.prog w = .ok (.string (byt [91, 78, 93, 60, 91, 78, 93, 123, 78, 44, 40, 40, 91, 78, 93, 91, 78, 93, 60, 91, 78, 93, 78, 44, 35, 49, 44, 91, 78, 93, 91, 78, 93, 43, 35, 48, 44, 35, 48, 62, 32, 48, 41, 32, 35, 48, 41, 44, 35, 48, 125, 44, 33, 48, 44, 91, 78, 93, 91, 123, 78, 44, 40, 40, 91, 78, 93, 91, 78, 93, 60, 91, 78, 93, 78, 44, 35, 49, 44, 91, 78, 93, 91, 78, 93, 43, 35, 48, 44, 35, 48, 62, 32, 48, 41, 32, 35, 48, 41, 44, 35, 48, 125, 93, 64, 60, 91, 78, 93, 123, 78, 44, 43, 40, 40, 91, 78, 93, 91, 78, 93, 60, 91, 78, 93, 78, 44, 35, 49, 44, 91, 78, 93, 91, 78, 93, 43, 35, 48, 44, 35, 48, 62, 32, 48, 41, 32, 35, 50, 41, 44, 43, 35, 48, 125, 44, 35, 48, 44, 33, 43, 40, 40, 91, 78, 93, 91, 78, 93, 60, 91, 78, 93, 78, 44, 35, 49, 44, 91, 78, 93, 91, 78, 93, 43, 35, 48, 44, 35, 48, 62, 32, 48, 41, 32, 35, 49, 41, 62])) w := fun w => add_strE (a := [91, 78, 93, 60, 91, 78, 93, 123, 78, 44, 40, 40, 91, 78, 93, 91, 78, 93, 60, 91, 78, 93, 78, 44, 35, 49, 44, 91, 78, 93, 91, 78, 93, 43, 35, 48, 44, 35, 48, 62, 32, 48, 41, 32, 35, 48, 41, 44, 35, 48, 125, 44, 33, 48, 44]) (b := [91, 78, 93, 91, 123, 78, 44, 40, 40, 91, 78, 93, 91, 78, 93, 60, 91, 78, 93, 78, 44, 35, 49, 44, 91, 78, 93, 91, 78, 93, 43, 35, 48, 44, 35, 48, 62, 32, 48, 41, 32, 35, 48, 41, 44, 35, 48, 125, 93, 64, 60, 91, 78, 93, 123, 78, 44, 43, 40, 40, 91, 78, 93, 91, 78, 93, 60, 91, 78, 93, 78, 44, 35, 49, 44, 91, 78, 93, 91, 78, 93, 43, 35, 48, 44, 35, 48, 62, 32, 48, 41, 32, 35, 50, 41, 44, 43, 35, 48, 125, 44, 35, 48, 44, 33, 43, 40, 40, 91, 78, 93, 91, 78, 93, 60, 91, 78, 93, 78, 44, 35, 49, 44, 91, 78, 93, 91, 78, 93, 43, 35, 48, 44, 35, 48, 62, 32, 48, 41, 32, 35, 49, 41, 62]) rfl (by decide) w
    have a40 : ∀ w, (Op.stringOp .add (byt [91, 78, 93, 60, 91, 78, 93, 123, 78, 44, 40, 40, 91, 78, 93, 91, 78, 93, 60, 91, 78, 93, 78, 44, 35, 49, 44, 91, 78, 93, 91, 78, 93, 43, 35, 48, 44, 35, 48, 62, 32, 48, 41, 32, 35, 48, 41, 44, 35, 48, 125, 44, 33, 48, 44, 91, 78, 93, 91, 123, 78, 44, 40, 40, 91, 78, 93, 91, 78, 93, 60, 91, 78, 93, 78, 44, 35, 49, 44, 91, 78, 93, 91, 78, 93, 43, 35, 48, 44, 35, 48, 62, 32, 48, 41, 32, 35, 48, 41, 44, 35, 48, 125, 93, 64, 60, 91, 78, 93, 123, 78, 44, 43, 40, 40, 91, 78, 93, 91, 78, 93, 60, 91, 78, 93, 78, 44, 35, 49, 44, 91, 78, 93, 91, 78, 93, 43, 35, 48, 44, 35, 48, 62, 32, 48, 41, 32, 35, 50, 41, 44, 43, 35, 48, 125, 44, 35, 48, 44, 33, 43, 40, 40, 91, 78, 93, 91, 78, 93, 60, 91, 78, 93, 78, 44, 35, 49, 44, 91, 78, 93, 91, 78, 93, 43, 35, 48, 44, 35, 48, 62, 32, 48, 41, 32, 35, 49, 41, 62]) ⟨#[44, 35, 48, 62]⟩).run Tryz.prog w = .ok (.string (byt [91, 78, 93, 60, 91, 78, 93, 123, 78, 44, 40, 40, 91, 78, 93, 91, 78, 93, 60, 91, 78, 93, 78, 44, 35, 49, 44, 91, 78, 93, 91, 78, 93, 43, 35, 48, 44, 35, 48, 62, 32, 48, 41, 32, 35, 48, 41, 44, 35, 48, 125, 44, 33, 48, 44, 91, 78, 93, 91, 123, 78, 44, 40, 40, 91, 78, 93, 91, 78, 93, 60, 91, 78, 93, 78, 44, 35, 49, 44, 91, 78, 93, 91, 78, 93, 43, 35, 48, 44, 35, 48, 62, 32, 48, 41, 32, 35, 48, 41, 44, 35, 48, 125, 93, 64, 60, 91, 78, 93, 123, 78, 44, 43, 40, 40, 91, 78, 93, 91, 78, 93, 60, 91, 78, 93, 78, 44, 35, 49, 44, 91, 78, 93, 91, 78, 93, 43, 35, 48, 44, 35, 48, 62, 32, 48, 41, 32, 35, 50, 41, 44, 43, 35, 48, 125, 44, 35, 48, 44, 33, 43, 40, 40, 91, 78, 93, 91, 78, 93, 60, 91, 78, 93, 78, 44, 35, 49, 44, 91, 78, 93, 91, 78, 93, 43, 35, 48, 44, 35, 48, 62, 32, 48, 41, 32, 35, 49, 41, 62, 44, 35, 48, 62])) w := fun w => add_strE (a := [91, 78, 93, 60, 91, 78, 93, 123, 78, 44, 40, 40, 91, 78, 93, 91, 78, 93, 60, 91, 78, 93, 78, 44, 35, 49, 44, 91, 78, 93, 91, 78, 93, 43, 35, 48, 44, 35, 48, 62, 32, 48, 41, 32, 35, 48, 41, 44, 35, 48, 125, 44, 33, 48, 44, 91, 78, 93, 91, 123, 78, 44, 40, 40, 91, 78, 93, 91, 78, 93, 60, 91, 78, 93, 78, 44, 35, 49, 44, 91, 78, 93, 91, 78, 93, 43, 35, 48, 44, 35, 48, 62, 32, 48, 41, 32, 35, 48, 41, 44, 35, 48, 125, 93, 64, 60, 91, 78, 93, 123, 78, 44, 43, 40, 40, 91, 78, 93, 91, 78, 93, 60, 91, 78, 93, 78, 44, 35, 49, 44, 91, 78, 93, 91, 78, 93, 43, 35, 48, 44, 35, 48, 62, 32, 48, 41, 32, 35, 50, 41, 44, 43, 35, 48, 125, 44, 35, 48, 44, 33, 43, 40, 40, 91, 78, 93, 91, 78, 93, 60, 91, 78, 93, 78, 44, 35, 49, 44, 91, 78, 93, 91, 78, 93, 43, 35, 48, 44, 35, 48, 62, 32, 48, 41, 32, 35, 49, 41, 62]) (b := [44, 35, 48, 62]) rfl (by decide) w
    go_enter Tryz.func15, Tryz.ntmps15
    go_wp2_with (first
      | (go_at_call 32; refine (sum1_any _).mono ?_; rintro e w9 ⟨rfl, rfl⟩)
      | (go_at_call 32; refine (sum2_any _).mono ?_; rintro e w9 ⟨rfl, rfl⟩)
      | (go_at_call 32; refine (sum0_any _).mono ?_; rintro e w9 ⟨rfl, rfl⟩))
    go_ret2
    exact ⟨rfl, rfl⟩
  · go_enter Tryz.func15, Tryz.ntmps15
    go_wp2
    go_ret2
    exact ⟨rfl, rfl⟩
  · go_enter Tryz.func15, Tryz.ntmps15
    go_wp2
    go_ret2
    exact ⟨rfl, rfl⟩
  · go_enter Tryz.func15, Tryz.ntmps15
    go_wp2
    go_ret2
    exact ⟨rfl, rfl⟩
  · have q1 : (thm == 1) = false := beq_eq_false_iff_ne.2 h1
    have q2 : (thm == 2) = false := beq_eq_false_iff_ne.2 h2
    have q3 : (thm == 3) = false := beq_eq_false_iff_ne.2 h3
    have q4 : (thm == 4) = false := beq_eq_false_iff_ne.2 h4
    have q5 : (thm == 5) = false := beq_eq_false_iff_ne.2 h5

    clear h1 h2 h3 h4 h5
    go_enter Tryz.func15, Tryz.ntmps15
    go_wp2
    go_ret2
    exact ⟨rfl, rfl⟩
theorem thm_good {thm : Int} {sR pR sB pB : List UInt8} {oS oP : Option Tm} (h : ThmAt thm sR pR sB pB oS oP) :
    Chain sR sB ∧ Chain pR pB ∧ ((∃ t, oS = some t ∧ Good t sB) ∨ (oS = none ∧ sB = [])) ∧ ((∃ t, oP = some t ∧ Good t pB) ∨ (oP = none ∧ pB = [])) := by
  rcases h with ⟨rfl, rfl, rfl, rfl, rfl, rfl, rfl⟩ | ⟨rfl, rfl, rfl, rfl, rfl, rfl, rfl⟩ | ⟨rfl, rfl, rfl, rfl, rfl, rfl, rfl⟩ | ⟨rfl, rfl, rfl, rfl, rfl, rfl, rfl⟩ | ⟨rfl, rfl, rfl, rfl, rfl, rfl, rfl⟩ | ⟨⟨h1, h2, h3, h4, h5⟩, rfl, rfl, rfl, rfl, rfl, rfl⟩
  · exact ⟨thS1_chain, thP1_chain, .inl ⟨_, rfl, thS1_good⟩, .inl ⟨_, rfl, thP1_good⟩⟩
  · exact ⟨thS2_chain, thP2_chain, .inl ⟨_, rfl, thS2_good⟩, .inl ⟨_, rfl, thP2_good⟩⟩
  · exact ⟨thS3_chain, thP3_chain, .inl ⟨_, rfl, thS3_good⟩, .inl ⟨_, rfl, thP3_good⟩⟩
  · exact ⟨thS4_chain, thP4_chain, .inl ⟨_, rfl, thS4_good⟩, .inl ⟨_, rfl, thP4_good⟩⟩
  · exact ⟨thS5_chain, thP5_chain, .inl ⟨_, rfl, thS5_good⟩, .inl ⟨_, rfl, thP5_good⟩⟩
  · exact ⟨chain_nil, chain_nil, .inr ⟨rfl, rfl⟩, .inr ⟨rfl, rfl⟩⟩
theorem iParse_or {o : Option Tm} {b : List UInt8} (h : (∃ t, o = some t ∧ Good t b) ∨ (o = none ∧ b = [])) (w : World) (hm : GM w) : Calls Tryz.prog 37 #[.string (byt b)] w (GotP w o) := by
  rcases h with ⟨t, rfl, h⟩ | ⟨rfl, rfl⟩
  · exact iParse_any h w hm
  · exact iParse_nil w
theorem sParse_or {o : Option Tm} {b : List UInt8} (h : (∃ t, o = some t ∧ Good t b) ∨ (o = none ∧ b = [])) (w : World) : Calls Tryz.prog 16 #[.string (byt b)] w (GotP w o) := by
  rcases h with ⟨t, rfl, h⟩ | ⟨rfl, rfl⟩
  · exact sParse_any h w
  · exact sParse_nil w
set_option maxHeartbeats 2000000 in
theorem iType_any {thm : Int} {sR pR sB pB : List UInt8} {oS oP : Option Tm} (h : ThmAt thm sR pR sB pB oS oP) (w : World) (hm : GM w) : Calls Tryz.prog 12 #[.int .i64 thm] w (GotP w oS) := by
  have h1 := hide (fun w => theorem_any h w)
  have h2 := hide (fun w (hm : GM w) => iRead_of (thm_good h).1 oS (iParse_or (thm_good h).2.2.1) w hm)
  have hm' := hide (hm.alloc (.cells #[.int .i64 0, .int .i64 0, .slice none 0 0] 24))
  clear h hm
  go_enter Tryz.func12, Tryz.ntmps12
  go_wp2_with (first
    | (go_at_call 18; refine (h2.out _ hm'.out).mono ?_; rintro e w3 ⟨k, n, ks, A, c, hk, rfl, hl, hf, hb3⟩; have hk' := hide hk; clear hk; have hZ3 := (Blk.new_ w 24 #[.int .i64 0, .int .i64 0, .slice none 0 0] rfl).keep hb3; obtain ⟨d0, d1, d2⟩ := hZ3.three; have e0 := hZ3.frozen 0; have e1 := hZ3.frozen 1; have e2 := hZ3.frozen 2; have g3 : Below w.heap.size w w3 := ((Below.refl _ _).alloc (Nat.le_refl _) _).trans (hb3.mono (by simp)))
    | (go_at_call 17; refine (h1.out _).mono ?_; rintro e w9 ⟨rfl, rfl⟩))
  refine bodyPost_ret (v := .tuple #[.agg #[.int .i64 k, .int .i64 n, .slice A ks.length c], .bool oS.isSome]) (by simp [results, Tryz.results12, go_sem, d0, d1, d2]) rfl ⟨k, n, ks, A, c, hk'.out, rfl, hl, ?_, ((g3.setCell (by simp) _).setCell (by simp) _).setCell (by simp) _⟩
  exact (((hf.setCell (by simp) _).setCell (by simp) _).setCell (by simp) _).mono (by simp)
set_option maxHeartbeats 2000000 in
theorem iProof_any {thm : Int} {sR pR sB pB : List UInt8} {oS oP : Option Tm} (h : ThmAt thm sR pR sB pB oS oP) (w : World) (hm : GM w) : Calls Tryz.prog 7 #[.int .i64 thm] w (GotP w oP) := by
  have h1 := hide (fun w => theorem_any h w)
  have h2 := hide (fun w (hm : GM w) => iRead_of (thm_good h).2.1 oP (iParse_or (thm_good h).2.2.2) w hm)
  have hm' := hide (hm.alloc (.cells #[.int .i64 0, .int .i64 0, .slice none 0 0] 24))
  clear h hm
  go_enter Tryz.func7, Tryz.ntmps7
  go_wp2_with (first
    | (go_at_call 18; refine (h2.out _ hm'.out).mono ?_; rintro e w3 ⟨k, n, ks, A, c, hk, rfl, hl, hf, hb3⟩; have hk' := hide hk; clear hk; have hZ3 := (Blk.new_ w 24 #[.int .i64 0, .int .i64 0, .slice none 0 0] rfl).keep hb3; obtain ⟨d0, d1, d2⟩ := hZ3.three; have e0 := hZ3.frozen 0; have e1 := hZ3.frozen 1; have e2 := hZ3.frozen 2; have g3 : Below w.heap.size w w3 := ((Below.refl _ _).alloc (Nat.le_refl _) _).trans (hb3.mono (by simp)))
    | (go_at_call 17; refine (h1.out _).mono ?_; rintro e w9 ⟨rfl, rfl⟩))
  refine bodyPost_ret (v := .tuple #[.agg #[.int .i64 k, .int .i64 n, .slice A ks.length c], .bool oP.isSome]) (by simp [results, Tryz.results7, go_sem, d0, d1, d2]) rfl ⟨k, n, ks, A, c, hk'.out, rfl, hl, ?_, ((g3.setCell (by simp) _).setCell (by simp) _).setCell (by simp) _⟩
  exact (((hf.setCell (by simp) _).setCell (by simp) _).setCell (by simp) _).mono (by simp)
set_option maxHeartbeats 2000000 in
theorem sType_any {thm : Int} {sR pR sB pB : List UInt8} {oS oP : Option Tm} (h : ThmAt thm sR pR sB pB oS oP) (w : World) (hm : GM w) : Calls Tryz.prog 11 #[.int .i64 thm] w (GotP w oS) := by
  have h1 := hide (fun w => l17Texts_any h w)
  have h2 := hide (fun w (hm : GM w) => sParse_or (thm_good h).2.2.1 w)
  have hm' := hide (hm.alloc (.cells #[.int .i64 0, .int .i64 0, .slice none 0 0] 24))
  clear h hm
  go_enter Tryz.func11, Tryz.ntmps11
  go_wp2_with (first
    | (go_at_call 16; refine (h2.out _ hm'.out).mono ?_; rintro e w3 ⟨k, n, ks, A, c, hk, rfl, hl, hf, hb3⟩; have hk' := hide hk; clear hk; have hZ3 := (Blk.new_ w 24 #[.int .i64 0, .int .i64 0, .slice none 0 0] rfl).keep hb3; obtain ⟨d0, d1, d2⟩ := hZ3.three; have e0 := hZ3.frozen 0; have e1 := hZ3.frozen 1; have e2 := hZ3.frozen 2; have g3 : Below w.heap.size w w3 := ((Below.refl _ _).alloc (Nat.le_refl _) _).trans (hb3.mono (by simp)))
    | (go_at_call 15; refine (h1.out _).mono ?_; rintro e w9 ⟨rfl, rfl⟩))
  refine bodyPost_ret (v := .tuple #[.agg #[.int .i64 k, .int .i64 n, .slice A ks.length c], .bool oS.isSome]) (by simp [results, Tryz.results11, go_sem, d0, d1, d2]) rfl ⟨k, n, ks, A, c, hk'.out, rfl, hl, ?_, ((g3.setCell (by simp) _).setCell (by simp) _).setCell (by simp) _⟩
  exact (((hf.setCell (by simp) _).setCell (by simp) _).setCell (by simp) _).mono (by simp)
set_option maxHeartbeats 2000000 in
theorem sProof_any {thm : Int} {sR pR sB pB : List UInt8} {oS oP : Option Tm} (h : ThmAt thm sR pR sB pB oS oP) (w : World) (hm : GM w) : Calls Tryz.prog 6 #[.int .i64 thm] w (GotP w oP) := by
  have h1 := hide (fun w => l17Texts_any h w)
  have h2 := hide (fun w (hm : GM w) => sParse_or (thm_good h).2.2.2 w)
  have hm' := hide (hm.alloc (.cells #[.int .i64 0, .int .i64 0, .slice none 0 0] 24))
  clear h hm
  go_enter Tryz.func6, Tryz.ntmps6
  go_wp2_with (first
    | (go_at_call 16; refine (h2.out _ hm'.out).mono ?_; rintro e w3 ⟨k, n, ks, A, c, hk, rfl, hl, hf, hb3⟩; have hk' := hide hk; clear hk; have hZ3 := (Blk.new_ w 24 #[.int .i64 0, .int .i64 0, .slice none 0 0] rfl).keep hb3; obtain ⟨d0, d1, d2⟩ := hZ3.three; have e0 := hZ3.frozen 0; have e1 := hZ3.frozen 1; have e2 := hZ3.frozen 2; have g3 : Below w.heap.size w w3 := ((Below.refl _ _).alloc (Nat.le_refl _) _).trans (hb3.mono (by simp)))
    | (go_at_call 15; refine (h1.out _).mono ?_; rintro e w9 ⟨rfl, rfl⟩))
  refine bodyPost_ret (v := .tuple #[.agg #[.int .i64 k, .int .i64 n, .slice A ks.length c], .bool oP.isSome]) (by simp [results, Tryz.results6, go_sem, d0, d1, d2]) rfl ⟨k, n, ks, A, c, hk'.out, rfl, hl, ?_, ((g3.setCell (by simp) _).setCell (by simp) _).setCell (by simp) _⟩
  exact (((hf.setCell (by simp) _).setCell (by simp) _).setCell (by simp) _).mono (by simp)
end Go.Proofs.YtjpgdfndlmipcaaGreatDoor

namespace Go.Proofs.YtjpgdfndlmipcaaGreatDoor
open Go.RowKit
set_option linter.unusedSimpArgs false
set_option linter.unusedVariables false

/-- nothing but the blocks of a list has turned -/
structure OnlyIn (fp : List Nat) (w w' : World) : Prop where
  os : w'.os = w.os
  tape : w'.tape = w.tape
  output : w'.output = w.output
  size : w.heap.size ≤ w'.heap.size
  block : ∀ b, b < w.heap.size → b ∉ fp → w'.heap[b]? = w.heap[b]?
theorem OnlyIn.refl (fp : List Nat) (w : World) : OnlyIn fp w w := ⟨rfl, rfl, rfl, Nat.le_refl _, fun _ _ _ => rfl⟩
theorem OnlyIn.trans {fp : List Nat} {a b c : World} (h : OnlyIn fp a b) (k : OnlyIn fp b c) : OnlyIn fp a c :=
  ⟨k.os.trans h.os, k.tape.trans h.tape, k.output.trans h.output, Nat.le_trans h.size k.size, fun i hi hn => (k.block i (Nat.lt_of_lt_of_le hi h.size) hn).trans (h.block i hi hn)⟩
theorem OnlyIn.mono {fp fq : List Nat} {w w' : World} (h : OnlyIn fp w w') (hs : ∀ b, b ∈ fp → b ∈ fq) : OnlyIn fq w w' := ⟨h.os, h.tape, h.output, h.size, fun b hb hn => h.block b hb fun hm => hn (hs b hm)⟩
theorem OnlyIn.setCell {fp : List Nat} {a w : World} (h : OnlyIn fp a w) {p : Addr} (hp : p.block ∈ fp) (u : Value) : OnlyIn fp a (w.setCell p u) :=
  ⟨h.os, h.tape, h.output, by simpa [World.setCell] using h.size, fun i hi hn => (Below.heap_setCell w p u i (fun e => hn (e ▸ hp))).trans (h.block i hi hn)⟩
theorem OnlyIn.below {fp : List Nat} {w w' : World} {B : Nat} (h : OnlyIn fp w w') (hB : B ≤ w.heap.size) (hf : ∀ b, b ∈ fp → B ≤ b) : Below B w w' :=
  ⟨h.os, h.tape, h.output, h.size, fun b hb => h.block b (by omega) fun hm => by have := hf b hm; omega⟩
theorem OnlyIn.allocd {fp : List Nat} {w w' : World} {o : Obj} (h : OnlyIn fp (w.alloc o) w') : OnlyIn fp w w' :=
  ⟨h.os, h.tape, h.output, Nat.le_trans (by simp) h.size, fun b hb hn => (h.block b (by simp; omega) hn).trans (Below.heap_alloc w o b hb)⟩

theorem OwX.split {w : World} {t : Tm} {us : List Tm} : ∀ {ts : List Tm} {xs : List Value} {fp : List Nat}, OwX w (ts ++ t :: us) xs fp →
    ∃ x0 x1 x2 f0 f1 f2, xs = x0 ++ (x1 ++ x2) ∧ fp = f0 ++ (f1 ++ f2) ∧ OwX w ts x0 f0 ∧ OwT w t x1 f1 ∧ OwX w us x2 f2
  | [], xs, fp, h => by
    obtain ⟨x1, x2, f1, f2, rfl, rfl, h1, h2⟩ := OwX.cons_iff.1 h
    exact ⟨[], x1, x2, [], f1, f2, rfl, rfl, OwX.nil, h1, h2⟩
  | s :: ts, xs, fp, h => by
    obtain ⟨y1, y2, e1, e2, rfl, rfl, k1, k2⟩ := OwX.cons_iff.1 h
    obtain ⟨x0, x1, x2, f0, f1, f2, rfl, rfl, h0, h1, h2⟩ := OwX.split k2
    exact ⟨y1 ++ x0, x1, x2, e1 ++ f0, f1, f2, by rw [List.append_assoc], by rw [List.append_assoc], OwX.cons_iff.2 ⟨y1, x0, e1, f0, rfl, rfl, k1, h0⟩, h1, h2⟩
theorem OwX.join {w : World} {t : Tm} {us ts : List Tm} {x0 x1 x2 : List Value} {f0 f1 f2 : List Nat} (h0 : OwX w ts x0 f0) (h1 : OwT w t x1 f1) (h2 : OwX w us x2 f2) : OwX w (ts ++ t :: us) (x0 ++ (x1 ++ x2)) (f0 ++ (f1 ++ f2)) :=
  h0.append (OwX.cons_iff.2 ⟨x1, x2, f1, f2, rfl, rfl, h1, h2⟩)

mutual
/-- marks, counted up -/
def markT : Int → Tm → Tm | m, .mk _ _ ks => .mk m (m + 1) (markL (m + 2) ks)
def markL : Int → List Tm → List Tm | _, [] => [] | m, t :: ts => markT m t :: markL (m + 2 * t.size) ts
end
theorem markL_length : ∀ (ts : List Tm) (m : Int), (markL m ts).length = ts.length
  | [], m => by simp [markL]
  | t :: ts, m => by rw [markL, List.length_cons, List.length_cons, markL_length ts]
theorem markL_append : ∀ (ts us : List Tm) (m : Int), markL m (ts ++ us) = markL m ts ++ markL (m + 2 * sizes ts) us
  | [], us, m => by simp [markL, sizes]
  | t :: ts, us, m => by
    rw [List.cons_append, markL, markL, markL_append ts us, List.cons_append, sizes]
    congr 3
    push_cast
    omega
theorem mark_sizes : (∀ t m, (markT m t).size = t.size) ∧ (∀ ts m, sizes (markL m ts) = sizes ts) := by
  refine Tm.ind2 (fun k n ks ih m => ?_) (fun m => by simp [markL]) (fun t ts h1 h2 m => ?_)
  · rw [markT, Tm.size, Tm.size, ih]
  · rw [markL, sizes, sizes, h1, h2]

theorem take3 {cur : Array Value} {n j : Nat} {x0 x1 x2 : List Value} (h : cur.toList.take n = x0 ++ (x1 ++ x2)) (h0 : x0.length = j) (i : Nat) (v : Value) (hi : x1[i]? = some v) : cur[j + i]? = some v := by
  have hlt : i < x1.length := (List.getElem?_eq_some_iff.1 hi).1
  have h2 : (cur.toList.take n)[j + i]? = some v := by
    rw [h, List.getElem?_append_right (by omega), List.getElem?_append_left (by omega), h0, Nat.add_sub_cancel_left]
    exact hi
  rw [List.getElem?_take] at h2
  split at h2
  · simpa using h2
  · cases h2
theorem set3 {cur : Array Value} {n j : Nat} {x0 x2 : List Value} {a b c a' b' : Value} (h : cur.toList.take n = x0 ++ ([a, b, c] ++ x2)) (h0 : x0.length = j) :
    ((cur.setIfInBounds j a').setIfInBounds (j + 1) b').toList.take n = x0 ++ ([a', b', c] ++ x2) := by
  rw [Array.toList_setIfInBounds, Array.toList_setIfInBounds, List.take_set, List.take_set, h]
  subst h0
  simp [List.set_append]

def MarkPost (w : World) (A : Option Addr) (ts : List Tm) (fp : List Nat) (m : Int) (e : Ending) (w' : World) : Prop :=
  e = .returned (.int .i64 (m + 2 * sizes ts)) ∧ Ow w' A (markL m ts) fp ∧ OnlyIn fp w w'

set_option maxHeartbeats 2000000 in
set_option maxRecDepth 100000 in
theorem markTermS_any (N : Nat) : ∀ (ks : List Tm) (A : Option Addr) (c : Nat) (fp : List Nat) (m : Int) (w : World), sizes ks < N → sizes ks ≤ 1099511627776 → 0 ≤ m → m + 2 * sizes ks ≤ 4398046511104 → Ow w A ks fp → fp.Nodup →
    Calls Tryz.prog 20 #[.slice A ks.length c, .int .i64 m] w (MarkPost w A ks fp m) := by
  induction N with
  | zero => intro ks A c fp m w hN; exact absurd hN (Nat.not_lt_zero _)
  | succ N ih =>
  intro ks A c fp m w hN hM hm0 hm1 hO hn
  have hlen := length_le_sizes ks
  rcases hO with ⟨rfl, rfl⟩ | ⟨g, cur0, ety, f, hne, rfl, hg0, rfl, hx0⟩
  · go_enter Tryz.func20, Tryz.ntmps20
    go_wp2_with fail
    refine Go.wp_loop_rounds 1 ?_
    rw [Go.rounds_succ]
    go_wp2_with fail
    go_ret
    exact ⟨ret_int (by simp [sizes]), .inl ⟨by simp [markL], rfl⟩, OnlyIn.refl _ _⟩
  · go_enter Tryz.func20, Tryz.ntmps20
    go_wp2_with fail
    go_loopw [1, 5] (fun mv i wr => ∃ (j : Nat) (cur : Array Value), j ≤ ks.length ∧ i = .int .i64 j ∧ mv = .int .i64 (m + 2 * sizes (ks.take j)) ∧ wr.heap[g]? = some (.cells cur ety (0, 0)) ∧
        Hid (OwX wr (markL m (ks.take j) ++ ks.drop j) (cur.toList.take (ks.length * 3)) f) ∧ OnlyIn (g :: f) w wr)
      (fun _ i _ => ks.length - (intOf i).toNat)
    case atStart => exact ⟨0, cur0, Nat.zero_le _, rfl, by simp [sizes], hg0, hide (by simpa [markL] using hx0), OnlyIn.refl _ _⟩
    case round =>
      obtain ⟨j, cur, hj, rfl, rfl, hg, hx, hon⟩ := hrel
      have hsl := sizes_take_le ks j
      by_cases hlt : j < ks.length
      · have hdrop : ks.drop j = ks[j] :: ks.drop (j + 1) := List.drop_eq_getElem_cons hlt
        have hx' := hx.out
        rw [hdrop] at hx'
        obtain ⟨x0, x1, x2, f0, f1, f2, hxs, hff, k0, k1, k2⟩ := OwX.split hx'
        have hst := sizes_take ks j hlt
        have hsz := sizes_le (List.getElem_mem hlt)
        obtain ⟨k', n', ks', hkj⟩ : ∃ k' n' ks', ks[j] = Tm.mk k' n' ks' := by cases ks[j]; exact ⟨_, _, _, rfl⟩
        rw [hkj] at k1 hst hsz
        obtain ⟨Aj, cj, rfl, hlj, hOj⟩ := OwT.iff.1 k1
        simp only [Tm.size] at hst hsz
        have hx0l : x0.length = j * 3 := by rw [k0.length, markL_length, List.length_take, Nat.min_eq_left (Nat.le_of_lt hlt)]
        have hB : Blk wr g cur := ⟨_, hg⟩
        have c0 : wr.cell? ⟨g, j * 3, none⟩ = some (.int .i64 k') := hB.at_ (take3 hxs hx0l 0 _ rfl)
        have c1 : wr.cell? ⟨g, j * 3 + 1, none⟩ = some (.int .i64 n') := hB.at_ (take3 hxs hx0l 1 _ rfl)
        have c2 : wr.cell? ⟨g, j * 3 + 2, none⟩ = some (.slice Aj ks'.length cj) := hB.at_ (take3 hxs hx0l 2 _ rfl)
        have z0 := hB.frozen (j * 3)
        have z1 := hB.frozen (j * 3 + 1)
        have hn1 := (List.nodup_cons.1 hn).1
        have hnf := (List.nodup_cons.1 hn).2
        have hnf1 : f1.Nodup := by rw [hff] at hnf; exact (List.nodup_append.1 (List.nodup_append.1 hnf).2.1).1
        have hg1 : g ∉ f1 := fun hm => hn1 (by rw [hff]; simp [hm])
        have hset := hide (set3 (a' := .int .i64 (m + 2 * sizes (ks.take j))) (b' := .int .i64 (m + 2 * sizes (ks.take j) + 1)) hxs hx0l)
        have h5 := hide hxs
        have h6 := hide hff
        have h7 := hide hkj
        have h8 := hide hst
        have h9 := hide (And.intro hx0l hdrop)
        have hsl2 : sizes (ks.take j) + (sizes ks' + 1) ≤ sizes ks := by have := sizes_take_le ks (j + 1); omega
        clear hxs hff hkj hst hx0l hdrop hx' hx k1 hx0 hg0
        have hOj2 : ∀ (v1 v2 : Value), Ow ((wr.setCell ⟨g, j * 3, none⟩ v1).setCell ⟨g, j * 3 + 1, none⟩ v2) Aj ks' f1 := fun v1 v2 => hOj.frame fun b hb => (Below.heap_setCell _ _ _ b (fun e => hg1 (by have e : b = g := e; rw [← e]; exact hb))).trans (Below.heap_setCell _ _ _ b (fun e => hg1 (by have e : b = g := e; rw [← e]; exact hb)))
        go_wp2_with (go_at_call 20; refine (ih ks' Aj cj f1 (m + 2 * sizes (ks.take j) + 1 + 1) _ (by omega) (by omega) (by omega) (by omega) (hOj2 _ _) hnf1).mono ?_; rintro e w3 ⟨rfl, hO3, hon3⟩)
        have hgs : ((wr.setCell ⟨g, j * 3, none⟩ (.int .i64 (m + 2 * sizes (ks.take j)))).setCell ⟨g, j * 3 + 1, none⟩ (.int .i64 (m + 2 * sizes (ks.take j) + 1))).heap[g]? = some (.cells ((cur.setIfInBounds (j * 3) (.int .i64 (m + 2 * sizes (ks.take j)))).setIfInBounds (j * 3 + 1) (.int .i64 (m + 2 * sizes (ks.take j) + 1))) ety (0, 0)) := by
          simp [World.setCell, Array.getElem?_modify, hg]
        have hlt3 : ∀ b, b ∈ f → b < wr.heap.size := fun b hb => by
          have := hb
          rw [h6.out] at this
          rcases List.mem_append.1 this with h | h
          · exact k0.lt b h
          · rcases List.mem_append.1 h with h | h
            · exact hOj.lt b h
            · exact k2.lt b h
        have hfr : ∀ b, b ∈ f → b ∉ f1 → w3.heap[b]? = wr.heap[b]? := fun b hb hb1 => by
          have hbg : b ≠ g := fun e => hn1 (e ▸ hb)
          exact (hon3.block b (by simp [World.setCell]; exact hlt3 b hb) hb1).trans ((Below.heap_setCell _ _ _ b hbg).trans (Below.heap_setCell _ _ _ b hbg))
        have hg3 := (hon3.block g (by simp [World.setCell]; exact (Array.getElem?_eq_some_iff.1 hg).1) hg1).trans hgs
        have hnf' := hnf
        rw [h6.out] at hnf'
        have hd0 : ∀ b, b ∈ f0 → b ∉ f1 := fun b h0 h1 => (List.nodup_append.1 hnf').2.2 b h0 b (by simp [h1]) rfl
        have hd2 : ∀ b, b ∈ f2 → b ∉ f1 := fun b h2 h1 => (List.nodup_append.1 (List.nodup_append.1 hnf').2.1).2.2 b h1 b h2 rfl
        have hon4 : OnlyIn (g :: f) w w3 := (((hon.setCell (by simp) _).setCell (by simp) _)).trans (hon3.mono fun b hb => by rw [h6.out]; simp [hb])
        have hres : OwX w3 (markL m (ks.take (j + 1)) ++ ks.drop (j + 1)) (((cur.setIfInBounds (j * 3) (.int .i64 (m + 2 * sizes (ks.take j)))).setIfInBounds (j * 3 + 1) (.int .i64 (m + 2 * sizes (ks.take j) + 1))).toList.take (ks.length * 3)) f := by
          rw [hset.out, List.take_succ_eq_append_getElem hlt, markL_append, h7.out, markL, markL, List.append_assoc, h6.out, markT]
          refine OwX.join (k0.frame fun b hb => hfr b (by rw [h6.out]; simp [hb]) (hd0 b hb)) (OwT.iff.2 ⟨Aj, cj, ?_, by rw [markL_length]; exact hlj, ?_⟩) (k2.frame fun b hb => hfr b (by rw [h6.out]; simp [hb]) (hd2 b hb))
          · rw [markL_length]
          · rw [show m + 2 * (sizes (ks.take j) : Int) + 2 = m + 2 * sizes (ks.take j) + 1 + 1 from by omega]
            exact hO3
        go_roundw
        case rel => exact ⟨j + 1, _, hlt, by go_num, by rw [h8.out]; push_cast; congr 1; omega, hg3, hide hres, hon4⟩
        case measure => simp [intOf]; omega
      · have hjl : j = ks.length := by omega
        subst hjl
        have hx' := hx.out
        rw [List.take_length, List.drop_length, List.append_nil] at hx'
        go_wp2_with fail
        go_ret
        refine ⟨ret_int (by rw [List.take_length]), .inr ⟨g, cur, ety, f, ?_, rfl, hg, rfl, by rw [markL_length]; exact hx'⟩, hon⟩
        intro e
        have := markL_length ks m
        rw [e] at this
        simp at this
        exact hne (List.eq_nil_of_length_eq_zero this.symm)
end Go.Proofs.YtjpgdfndlmipcaaGreatDoor

namespace Go.Proofs.YtjpgdfndlmipcaaGreatDoor
open Go.RowKit
set_option linter.unusedSimpArgs false
set_option linter.unusedVariables false

set_option maxHeartbeats 1000000 in
set_option maxRecDepth 100000 in
theorem markTerm_any (k n : Int) (ks : List Tm) (A : Option Addr) (c : Nat) (fp : List Nat) (m : Int) (w : World) (hM : sizes ks ≤ 1099511627776) (hm0 : 0 ≤ m) (hm1 : m + 2 * sizes ks ≤ 4398046511104) (hO : Ow w A ks fp) (hn : fp.Nodup) :
    Calls Tryz.prog 9 #[.agg #[.int .i64 k, .int .i64 n, .slice A ks.length c], .int .i64 m] w (MarkPost w A ks fp m) := by
  have hO' : ∀ o : Obj, Ow (w.alloc o) A ks fp := fun o => hO.frame fun b hb => Below.heap_alloc w o b (hO.lt b hb)
  go_enter Tryz.func9, Tryz.ntmps9
  go_wp2_with (go_at_call 20; refine (markTermS_any (sizes ks + 1) ks A c fp m _ (by omega) hM hm0 hm1 (hO' _) hn).mono ?_; rintro e w1 ⟨rfl, h1, h2⟩)
  go_ret
  exact ⟨rfl, h1, h2.allocd⟩

mutual
/-- reading marks: what is left, or -1 -/
def held : Int → List Tm → Bool
  | _, [] => true
  | m, t :: ts => heldT m t && held (m + 2 * t.size) ts
def heldT : Int → Tm → Bool | m, .mk k n ks => k == m && n == m + 1 && held (m + 2) ks
end
theorem held_mark : (∀ t m, heldT m (markT m t) = true) ∧ (∀ ts m, held m (markL m ts) = true) := by
  refine Tm.ind2 (fun k n ks ih m => ?_) (fun m => by simp [markL, held]) (fun t ts h1 h2 m => ?_)
  · rw [markT, heldT, ih]; simp
  · rw [markL, held, h1, mark_sizes.1, h2]; rfl
theorem held_append : ∀ (ts us : List Tm) (m : Int), held m (ts ++ us) = (held m ts && held (m + 2 * sizes ts) us)
  | [], us, m => by simp [held, sizes]
  | t :: ts, us, m => by
    rw [List.cons_append, held, held, held_append ts us, sizes, Bool.and_assoc]
    congr 3
    push_cast
    omega

set_option maxHeartbeats 2000000 in
set_option maxRecDepth 100000 in
/-- where the marks are there -/
theorem heldTermS_any (N : Nat) : ∀ (ks : List Tm) (A : Option Addr) (c : Nat) (m : Int) (w : World), sizes ks < N → sizes ks ≤ 1099511627776 → 0 ≤ m → m + 2 * sizes ks ≤ 4398046511104 → Rd w A 0 ks → held m ks = true →
    Calls Tryz.prog 21 #[.slice A ks.length c, .int .i64 m] w fun e w' => e = .returned (.int .i64 (m + 2 * sizes ks)) ∧ w = w' := by
  induction N with
  | zero => intro ks A c m w hN; exact absurd hN (Nat.not_lt_zero _)
  | succ N ih =>
  intro ks A c m w hN hM hm0 hm1 hr hh
  have hlen := length_le_sizes ks
  have hh' := hide hh
  clear hh
  go_enter Tryz.func21, Tryz.ntmps21
  go_wp2_with fail
  go_loopw [1, 5] (fun mv i wr => ∃ (j : Nat), j ≤ ks.length ∧ i = .int .i64 j ∧ mv = .int .i64 (m + 2 * sizes (ks.take j)) ∧ w = wr) (fun _ i _ => ks.length - (intOf i).toNat)
  case atStart => exact ⟨0, Nat.zero_le _, rfl, by simp [sizes], rfl⟩
  case round =>
    obtain ⟨j, hj, rfl, rfl, rfl⟩ := hrel
    have hsl := sizes_take_le ks j
    by_cases hlt : j < ks.length
    · obtain ⟨b, off, k', n', ks', A', c', rfl, hkj, hc1, hc2, hc3, hl', hr'⟩ := hr.at_ hlt
      have hst := sizes_take ks j hlt
      have hsl2 := sizes_take_le ks (j + 1)
      have hht : held m (ks.take (j + 1)) = true := by
        have := hh'.out
        rw [← List.take_append_drop (j + 1) ks, held_append, Bool.and_eq_true] at this
        exact this.1
      rw [List.take_succ_eq_append_getElem hlt, held_append, Bool.and_eq_true, held, Bool.and_eq_true, hkj, heldT, Bool.and_eq_true, Bool.and_eq_true, beq_iff_eq, beq_iff_eq] at hht
      obtain ⟨⟨⟨hk1, hn1⟩, hk2⟩, -⟩ := hht.2
      rw [hkj] at hst
      simp only [Tm.size] at hst
      subst hk1
      subst hn1
      have h8 := hide hst
      have h9 := hide hk2
      have hsz : sizes (ks.take j) + (sizes ks' + 1) ≤ sizes ks := by omega
      clear hkj hst hht hk2
      go_wp2_with (go_at_call 21; refine (ih ks' A' c' (m + 2 * sizes (ks.take j) + 1 + 1) _ (by omega) (by omega) (by omega) (by omega) hr' (by have := h9.out; rw [show m + 2 * (sizes (ks.take j) : Int) + 1 + 1 = m + 2 * sizes (ks.take j) + 2 from by omega]; exact this)).mono ?_; rintro e w3 ⟨rfl, rfl⟩)
      go_roundw
      case rel => exact ⟨j + 1, hlt, by go_num, by rw [h8.out]; push_cast; congr 1; omega, trivial⟩
      case measure => simp [intOf]; omega
    · have hjl : j = ks.length := by omega
      subst hjl
      go_wp2_with fail
      go_ret
      exact ⟨ret_int (by rw [List.take_length]), rfl⟩

set_option maxHeartbeats 1000000 in
set_option maxRecDepth 100000 in
theorem heldTerm_any (k n : Int) (ks : List Tm) (A : Option Addr) (c : Nat) (m : Int) (w : World) (hM : sizes ks ≤ 1099511627776) (hm0 : 0 ≤ m) (hm1 : m + 2 * sizes ks ≤ 4398046511104) (hr : Rd w A 0 ks) (hh : held m ks = true) :
    Calls Tryz.prog 10 #[.agg #[.int .i64 k, .int .i64 n, .slice A ks.length c], .int .i64 m] w fun e w' => e = .returned (.int .i64 (m + 2 * sizes ks)) ∧ Below w.heap.size w w' := by
  have hh' := hide hh
  clear hh
  go_enter Tryz.func10, Tryz.ntmps10
  go_wp2_with (go_at_call 21; refine (heldTermS_any (sizes ks + 1) ks A c m _ (by omega) hM hm0 hm1 (hr.alloc _) hh'.out).mono ?_; rintro e w1 ⟨rfl, rfl⟩)
  go_ret
  exact ⟨rfl, (Below.refl _ _).alloc (Nat.le_refl _) _⟩
end Go.Proofs.YtjpgdfndlmipcaaGreatDoor

namespace Go.Proofs.YtjpgdfndlmipcaaGreatDoor
open Go.ChangeShapes Go.WideShapes Go.ChangeAt Go.RowKit Go.Deep Go.Joins
set_option linter.unusedSimpArgs false
set_option linter.unusedVariables false

section
variable {H : Type} {P : Program} {enc : TypeId × Value → H} {W : World} {base : Nat} {spare : Nat → Bool} {held : Bool}

theorem post_below {f : Func} {s : ChangeSpec} {apart fresh handsOn again : Bool} {W W' : World} {args : Array Value} {v : Value} {ds gs : List (DataW H)} {before pa pv : List MemPlace}
    (hW : DataW.Whole enc P f.params.toList s.vars apart W args.toList ds gs before)
    (hres : ∀ (b : Nat) (sp : Nat → Bool) (hd : Bool), DataW.TrodAll enc P W' b sp hd f.resultTypes.toList (v.resultList f.resultTypes.size) (s.fn H (ds ++ gs)).results [])
    (hargs : ∀ sp : Nat → Bool, (∀ p ∈ before, sp p.block = true) → DataW.TrodAll enc P W' 0 sp true f.params.toList args.toList (s.fn H (ds ++ gs)).args pa)
    (hvars : ∀ sp : Nat → Bool, (∀ p ∈ before, sp p.block = true) → DataW.TrodVars enc P W' sp s.vars (s.fn H (ds ++ gs)).vars pv)
    (hps : before = pa ++ pv) (hb : Below W.heap.size W W')
    (hok : ∀ (j : Nat) (t : TypeId) (r : Value), f.resultTypes[j]? = some t → (v.resultList f.resultTypes.size)[j]? = some r → Value.okWide P W' .any 0 t r) :
    s.post enc P f apart fresh handsOn again W args v W' := by
  have hlt : ∀ p ∈ before, p.block < W.heap.size := fun p hp => hW.lt p hp
  have hold : ∀ p ∈ before, (fun b => decide (b < W.heap.size)) p.block = true := fun p hp => by simpa using hlt p hp
  refine ⟨ds, gs, before, [], pa, pv, hW, hres _ _ _, hargs _ hold, hvars _ hold, World.keptBut_mono (fun p hp => ⟨hp, ?_⟩) (hb.frame (· ∈ before)), fun _ => ?_⟩
  · rw [hps, List.mem_append] at hp
    exact Or.inr hp
  · obtain ⟨_, _, _, _, _, hz, hn⟩ := hW
    refine ⟨hok, _, _, ([] ++ pa) ++ pv, ⟨[] ++ pa, pv, trodAll_append (hargs _ (fun _ _ => rfl)) (hres _ _ _), hvars _ (fun _ _ => rfl), rfl, ?_, ?_⟩, ?_⟩
    · intro b off hp
      have hin : MemPlace.cell b off ∈ before := by rw [hps]; simpa using hp
      rw [hb.frozen (hlt _ hin)]
      exact hz b off hin
    · intro ha
      have := hn ha
      rw [hps] at this
      simpa using this
    · intro p hp _
      rw [hps]
      simpa using hp
end
end Go.Proofs.YtjpgdfndlmipcaaGreatDoor

namespace Go.Proofs.YtjpgdfndlmipcaaGreatDoor
open Go.RowKit
set_option linter.unusedSimpArgs false
set_option linter.unusedVariables false

/-- a list in blocks of its own, which lie between two numbers -/
structure OwF (w : World) (A : Option Addr) (ks : List Tm) (fp : List Nat) (lo hi : Nat) : Prop where
  ow : Ow w A ks fp
  nodup : fp.Nodup
  lo : ∀ b, b ∈ fp → lo ≤ b
  hi : ∀ b, b ∈ fp → b < hi
theorem Fresh.owf {B : Nat} {w : World} {A : Option Addr} {ks : List Tm} (h : Fresh B w A ks) : ∃ fp, OwF w A ks fp B w.heap.size := by
  obtain ⟨fp, h1, h2, h3⟩ := h; exact ⟨fp, h1, h2, h3, h1.lt⟩
variable {w w' : World} {A : Option Addr} {ks : List Tm} {fp fq : List Nat} {lo hi : Nat}
theorem OwF.rd (h : OwF w A ks fp lo hi) : Rd w A 0 ks := h.ow.rd
theorem OwF.keep (h : OwF w A ks fp lo hi) (hb : Below w.heap.size w w') : OwF w' A ks fp lo hi := ⟨h.ow.frame fun b hm => hb.block b (h.ow.lt b hm), h.nodup, h.lo, h.hi⟩
theorem OwF.alloc (h : OwF w A ks fp lo hi) (o : Obj) : OwF (w.alloc o) A ks fp lo hi := ⟨h.ow.frame fun b hm => Below.heap_alloc w o b (h.ow.lt b hm), h.nodup, h.lo, h.hi⟩
theorem OwF.drew (h : OwF w A ks fp lo hi) : OwF w.drew A ks fp lo hi := ⟨h.ow.frame fun b hm => rfl, h.nodup, h.lo, h.hi⟩
theorem OwF.only (h : OwF w A ks fp lo hi) (ho : OnlyIn fq w w') (hd : ∀ b, b ∈ fp → b ∉ fq) : OwF w' A ks fp lo hi := ⟨h.ow.frame fun b hm => ho.block b (h.ow.lt b hm) (hd b hm), h.nodup, h.lo, h.hi⟩
theorem OwF.marked {m : Int} (h : OwF w A ks fp lo hi) (ho : Ow w' A (markL m ks) fp) : OwF w' A (markL m ks) fp lo hi := ⟨ho, h.nodup, h.lo, h.hi⟩
/-- blocks that end where others begin -/
theorem OwF.apart {A' : Option Addr} {ks' : List Tm} {lo' hi' : Nat} (h : OwF w A ks fp lo hi) (h' : OwF w' A' ks' fq lo' hi') (hh : hi ≤ lo') : ∀ b, b ∈ fp → b ∉ fq := fun b h1 h2 => by have := h.hi b h1; have := h'.lo b h2; omega
theorem OwF.apart' {A' : Option Addr} {ks' : List Tm} {lo' hi' : Nat} (h : OwF w A ks fp lo hi) (h' : OwF w' A' ks' fq lo' hi') (hh : hi' ≤ lo) : ∀ b, b ∈ fp → b ∉ fq := fun b h1 h2 => by have := h.lo b h1; have := h'.hi b h2; omega
theorem OwF.out (h : OwF w A ks fp lo hi) {g : Nat} (hg : g < lo ∨ hi ≤ g) : g ∉ fp := fun h1 => by have := h.lo g h1; have := h.hi g h1; omega
theorem Blk.only {g : Nat} {cs : Array Value} (h : Blk w g cs) (ho : OnlyIn fq w w') (hg : g ∉ fq) : Blk w' g cs := by have hl := h.lt; obtain ⟨t, h⟩ := h; exact ⟨t, (ho.block g hl hg).trans h⟩
theorem OwF.below (h : OwF w A ks fp lo hi) (ho : OnlyIn fp w w') (hlo : lo ≤ w.heap.size) : Below lo w w' := ho.below hlo h.lo

theorem held_again (k n : Int) (ks : List Tm) (A : Option Addr) (c : Nat) (w : World) (hM : sizes ks ≤ 1099511627776) (hr : Rd w A 0 (markL 1 ks)) :
    Calls Tryz.prog 10 #[.agg #[.int .i64 k, .int .i64 n, .slice A ks.length c], .int .i64 1] w fun e w' => e = .returned (.int .i64 (1 + 2 * sizes ks)) ∧ Below w.heap.size w w' := by
  have h := heldTerm_any k n (markL 1 ks) A c 1 w (by rw [mark_sizes.2]; exact hM) (by omega) (by rw [mark_sizes.2]; omega) hr (held_mark.2 ks 1)
  rwa [markL_length, mark_sizes.2] at h
end Go.Proofs.YtjpgdfndlmipcaaGreatDoor

namespace Go.Proofs.YtjpgdfndlmipcaaGreatDoor
open Go.RowKit
set_option linter.unusedSimpArgs false
set_option linter.unusedVariables false

def szR (left : Int) (m : Nat) : Int := if left < m then -1 else left - m
theorem szR_le (left : Int) (m : Nat) (h0 : 0 ≤ left) : -1 ≤ szR left m ∧ szR left m ≤ left := by unfold szR; split <;> omega
theorem szR_pos {left : Int} {m : Nat} (h : 0 ≤ szR left m) : (m : Int) ≤ left ∧ szR left m = left - m := by unfold szR at *; split <;> simp_all
theorem szR_neg {left : Int} {m : Nat} (h : szR left m < 0) : left < m := by unfold szR at *; split at h <;> omega
theorem szR_no {left : Int} {m : Nat} (h : left < m) : szR left m = -1 := by unfold szR; rw [if_pos h]
theorem szR_yes {left : Int} {m : Nat} (h : m ≤ left) : szR left m = left - m := by unfold szR; rw [if_neg (by omega)]

def sumk : List Tm → Nat | [] => 0 | t :: ts => sizes t.ks + sumk ts
theorem sizes_sumk (ks : List Tm) : sizes ks = ks.length + sumk ks := by
  induction ks with
  | nil => simp [sizes, sumk]
  | cons t ts ih => cases t; simp only [sizes, sumk, Tm.size, Tm.ks, List.length_cons, ih]; omega
theorem sumk_append (a b : List Tm) : sumk (a ++ b) = sumk a + sumk b := by
  induction a with
  | nil => simp [sumk]
  | cons x r ih => simp only [List.cons_append, sumk, ih]; omega
theorem sumk_take (ks : List Tm) (j : Nat) (hj : j < ks.length) : sumk (ks.take (j + 1)) = sumk (ks.take j) + sizes ks[j].ks := by
  rw [List.take_succ_eq_append_getElem hj, sumk_append]; simp [sumk]
theorem sumk_le (ks : List Tm) (j : Nat) : sumk (ks.take j) ≤ sumk ks := by
  have := sumk_append (ks.take j) (ks.drop j); rw [List.take_append_drop] at this; omega

mutual
/-- equal at every level -/
def tmEq : Tm → Tm → Bool
  | .mk k n ks, .mk k' n' ks' => k == k' && n == n' && tmsEq ks ks'
def tmsEq : List Tm → List Tm → Bool
  | [], [] => true
  | t :: ts, u :: us => tmEq t u && tmsEq ts us
  | _, _ => false
end
theorem tmEq_both : (∀ t u, tmEq t u = true ↔ t = u) ∧ (∀ ts us, tmsEq ts us = true ↔ ts = us) := by
  refine Tm.ind2 (fun k n ks ih u => ?_) (fun us => ?_) (fun t ts h1 h2 us => ?_)
  · obtain ⟨k', n', ks'⟩ := u
    simp only [tmEq, Bool.and_eq_true, beq_iff_eq, ih, Tm.mk.injEq, and_assoc]
  · cases us <;> simp [tmsEq]
  · cases us with
    | nil => simp [tmsEq]
    | cons u us => simp only [tmsEq, Bool.and_eq_true, h1, h2, List.cons.injEq]
theorem tmEq_iff {t u : Tm} : tmEq t u = true ↔ t = u := tmEq_both.1 t u
theorem tmsEq_iff {ts us : List Tm} : tmsEq ts us = true ↔ ts = us := tmEq_both.2 ts us
theorem tmEq_self (t : Tm) : tmEq t t = true := tmEq_iff.2 rfl
theorem tmsEq_self (ts : List Tm) : tmsEq ts ts = true := tmsEq_iff.2 rfl
theorem tmsEq_false {ts us : List Tm} (h : ts ≠ us) : tmsEq ts us = false := by
  cases e : tmsEq ts us with
  | false => rfl
  | true => exact absurd (tmsEq_iff.1 e) h

set_option maxRecDepth 100000 in
set_option maxHeartbeats 400000 in
theorem eqTerm_of {N : Nat} (ih : ∀ (ks : List Tm) (A : Option Addr) (c : Nat) (ls : List Tm) (B : Option Addr) (d : Nat) (w : World), sizes ks < N → ks.length ≤ 9223372036854775807 → ls.length ≤ 9223372036854775807 → Rd w A 0 ks → Rd w B 0 ls →
      Calls Tryz.prog 19 #[.slice A ks.length c, .slice B ls.length d] w fun e w' => e = .returned (.bool (tmsEq ks ls)) ∧ Below w.heap.size w w')
    (k n : Int) (ks : List Tm) (A : Option Addr) (c : Nat) (k' n' : Int) (ls : List Tm) (B : Option Addr) (d : Nat) (w : World) (hN : sizes ks < N) (hl : ks.length ≤ 9223372036854775807) (hl' : ls.length ≤ 9223372036854775807) (hr : Rd w A 0 ks) (hr' : Rd w B 0 ls) :
    Calls Tryz.prog 8 #[.agg #[.int .i64 k, .int .i64 n, .slice A ks.length c], .agg #[.int .i64 k', .int .i64 n', .slice B ls.length d]] w fun e w' => e = .returned (.bool (tmEq (.mk k n ks) (.mk k' n' ls))) ∧ Below w.heap.size w w' := by
  by_cases hk : k = k'
  · by_cases hn : n = n'
    · subst hk hn
      have h1 : (k == k) = true := by simp
      have h2 : (n == n) = true := by simp
      go_enter Tryz.func8, Tryz.ntmps8
      go_wp2_with (go_at_call 19; refine (ih ks A c ls B d _ hN hl hl' ((hr.alloc _).alloc _) ((hr'.alloc _).alloc _)).mono ?_; rintro e w1 ⟨rfl, hb1⟩)
      all_goals go_ret
      all_goals refine ⟨ret_bool ?_, (((Below.refl _ _).alloc (by simp) _).alloc (by simp) _).trans (hb1.mono (by simp; omega))⟩
      all_goals simp_all [tmEq]
    · have h2 : (n == n') = false := by simpa using hn
      subst hk
      go_enter Tryz.func8, Tryz.ntmps8
      go_wp2_with fail
      go_ret
      exact ⟨ret_bool (by simp [tmEq, h2]), (((Below.refl _ _).alloc (by simp) _).alloc (by simp) _)⟩
  · have h2 : (k == k') = false := by simpa using hk
    go_enter Tryz.func8, Tryz.ntmps8
    go_wp2_with fail
    go_ret
    exact ⟨ret_bool (by simp [tmEq, h2]), (((Below.refl _ _).alloc (by simp) _).alloc (by simp) _)⟩

set_option maxRecDepth 100000 in
set_option maxHeartbeats 400000 in
theorem eqTermS_any (N : Nat) : ∀ (ks : List Tm) (A : Option Addr) (c : Nat) (ls : List Tm) (B : Option Addr) (d : Nat) (w : World), sizes ks < N → ks.length ≤ 9223372036854775807 → ls.length ≤ 9223372036854775807 → Rd w A 0 ks → Rd w B 0 ls →
      Calls Tryz.prog 19 #[.slice A ks.length c, .slice B ls.length d] w fun e w' => e = .returned (.bool (tmsEq ks ls)) ∧ Below w.heap.size w w' := by
  induction N with
  | zero => intro ks A c ls B d w hN; exact absurd hN (Nat.not_lt_zero _)
  | succ N ih =>
  intro ks A c ls B d w hN hl hl' hr hr'
  by_cases hlen : ks.length = ls.length
  · have hq : ((ks.length : Int) != (ls.length : Int)) = false := by simp [hlen]
    have hH := hide hlen
    have hle : ls.length ≤ ks.length := by omega
    have hge : ks.length ≤ ls.length := by omega
    clear hlen
    go_enter Tryz.func19, Tryz.ntmps19
    go_wp2_with fail
    go_loopw [5] (fun i wr => ∃ j : Nat, j ≤ ks.length ∧ i = .int .i64 j ∧ Hid (ks.take j = ls.take j) ∧ Below w.heap.size w wr) (fun i _ => ks.length - (intOf i).toNat)
    case atStart => exact ⟨0, Nat.zero_le _, rfl, hide (by simp), Below.refl _ _⟩
    case round =>
      obtain ⟨j, hj, rfl, heq, hb⟩ := hrel
      by_cases hlt : j < ks.length
      · have hlt' : j < ls.length := by omega
        obtain ⟨b, off, k1, n1, ks1, A1, c1, rfl, hkj, hc1, hc2, hc3, hl1, hr1⟩ := (hr.below hb).at_ hlt
        obtain ⟨b2, off2, k2, n2, ks2, A2, c2, rfl, hkj2, hd1, hd2, hd3, hl2, hr2⟩ := (hr'.below hb).at_ hlt'
        have hsz := sizes_le (List.getElem_mem hlt)
        rw [hkj] at hsz
        simp only [Tm.size] at hsz
        have H3 := hide hkj
        have H4 := hide hkj2
        clear hkj hkj2
        have r1 := rule_of hc1
        have r2 := rule_of hc2
        have r3 := rule_of hc3
        have r4 := rule_of hd1
        have r5 := rule_of hd2
        have r6 := rule_of hd3
        go_wp2_with fail
        refine wp_region_first (fun w' => Below wr.heap.size wr w') [0, 1, 2, 3, 4, 5, 6, 7] [] [8, 9] [_, _, _, _, _, _, _, _] [] [_, _] (by kernel_rfl) (by kernel_rfl) rfl rfl rfl (fun _ _ d _ _ h => by cases d <;> exact h) (Below.refl _ _).drew ?_
        repeat (first | ((refine take_skip (a' := ?_) ?_ ?_ ?_); (rotate_left); (· (simp [Region.wanted, yielded]; done)); (· (simp only [Act.put, List.setIfInBounds_toArray, List.set_cons_zero, List.set_cons_succ]; exact rfl))) | ((refine take_step (v := ?_) (a' := ?_) ?_ ?_ ?_ ?_); (rotate_left 2); (· (simp [Region.wanted, yielded]; done)); (· (intro w' hS'; go_simp; try (with_reducible rfl))); (· (simp only [Act.put, List.setIfInBounds_toArray, List.set_cons_zero, List.set_cons_succ]; exact rfl))))
        refine take_nil (then_nil ?_)
        go_wp2_with (go_at_call 8; refine (eqTerm_of ih k1 n1 ks1 A1 c1 k2 n2 ks2 A2 c2 _ (by omega) hl1 hl2 hr1.drew hr2.drew).mono ?_; rintro e w1 ⟨rfl, hb1⟩)
        · go_ret
          have hne0 : (!tmEq (.mk k1 n1 ks1) (.mk k2 n2 ks2)) = true := by assumption
          have hne : tmEq (.mk k1 n1 ks1) (.mk k2 n2 ks2) = false := by simpa using hne0
          refine ⟨ret_bool (tmsEq_false fun e => ?_).symm, hb.drew.trans (hb1.mono (by simpa using hb.size))⟩
          subst e
          rw [← H3.out, ← H4.out, tmEq_self] at hne
          cases hne
        · have heq0 : (!tmEq (.mk k1 n1 ks1) (.mk k2 n2 ks2)) = false := by assumption
          have heq1 : tmEq (.mk k1 n1 ks1) (.mk k2 n2 ks2) = true := by simpa using heq0
          go_roundw
          case rel => exact ⟨j + 1, by omega, by go_num, hide (by rw [List.take_succ_eq_append_getElem hlt, List.take_succ_eq_append_getElem hlt', heq.out, H3.out, H4.out, tmEq_iff.1 heq1]), hb.drew.trans (hb1.mono (by simpa using hb.size))⟩
          case measure => simp [intOf]; omega
      · go_wp2_with fail
        go_ret
        have hjl : j = ks.length := by omega
        have h5 := heq.out
        rw [hjl, List.take_length, hH.out, List.take_length] at h5
        exact ⟨ret_bool (tmsEq_iff.2 h5).symm, hb⟩
  · have hq : ((ks.length : Int) != (ls.length : Int)) = true := by simp; omega
    go_enter Tryz.func19, Tryz.ntmps19
    go_wp2_with fail
    go_ret
    exact ⟨ret_bool (tmsEq_false (fun e => hlen (by rw [e]))).symm, Below.refl _ _⟩
theorem eqTerm_any (k n : Int) (ks : List Tm) (A : Option Addr) (c : Nat) (k' n' : Int) (ls : List Tm) (B : Option Addr) (d : Nat) (w : World) (hl : ks.length ≤ 9223372036854775807) (hl' : ls.length ≤ 9223372036854775807) (hr : Rd w A 0 ks) (hr' : Rd w B 0 ls) :
    Calls Tryz.prog 8 #[.agg #[.int .i64 k, .int .i64 n, .slice A ks.length c], .agg #[.int .i64 k', .int .i64 n', .slice B ls.length d]] w fun e w' => e = .returned (.bool (tmEq (.mk k n ks) (.mk k' n' ls))) ∧ Below w.heap.size w w' :=
  eqTerm_of (N := sizes ks + 1) (eqTermS_any _) k n ks A c k' n' ls B d w (by omega) hl hl' hr hr'
end Go.Proofs.YtjpgdfndlmipcaaGreatDoor

namespace Go.Proofs.YtjpgdfndlmipcaaGreatDoor
open Go.RowKit
set_option linter.unusedSimpArgs false
set_option linter.unusedVariables false

theorem gotP_at {w : World} {o : Option Tm} {e : Ending} {w' : World} (h : GotP w o e w') {k n : Int} {ks : List Tm} (ht : o.getD (.mk 0 0 []) = .mk k n ks) {b : Bool} (hb : o.isSome = b) :
    ∃ A c, e = .returned (.tuple #[.agg #[.int .i64 k, .int .i64 n, .slice A ks.length c], .bool b]) ∧ ks.length ≤ 9223372036854775807 ∧ Fresh w.heap.size w' A ks ∧ Below w.heap.size w w' := by
  obtain ⟨k', n', ks', A, c, hk, rfl, hl, hf, hw⟩ := h
  rw [ht] at hk
  injection hk with h1 h2 h3
  subst h1 h2 h3 hb
  exact ⟨A, c, rfl, hl, hf, hw⟩
theorem thm_size {o : Option Tm} {B : List UInt8} (h : (∃ t, o = some t ∧ Good t B) ∨ (o = none ∧ B = [])) {k n : Int} {ks : List Tm} (ht : o.getD (.mk 0 0 []) = .mk k n ks) : sizes ks ≤ 400 := by
  rcases h with ⟨t, rfl, h⟩ | ⟨rfl, _⟩
  · rw [Option.getD_some] at ht
    subst ht
    exact validT_size' h.2.1
  · injection ht with _ _ h3; subst h3; simp [sizes]
set_option maxRecDepth 100000 in
set_option maxHeartbeats 8000000 in
theorem lawTheoremType_any (thm : Int) (w : World) (hm : GM w) : Calls Tryz.prog 4 #[.int .i64 thm] w fun e w' => e = .returned (.bool true) ∧ Below w.heap.size w w' := by
  obtain ⟨sR, pR, sB, pB, oS, oP, h⟩ := thmAt_ex thm
  obtain ⟨k, n, ks, hres⟩ : ∃ k n ks, (oS).getD (.mk 0 0 []) = .mk k n ks := by cases h : (oS).getD (.mk 0 0 []); exact ⟨_, _, _, rfl⟩
  obtain ⟨b, hb⟩ : ∃ b, (oS).isSome = b := ⟨_, rfl⟩
  have hz := hide (thm_size ((thm_good h).2.2.1) hres)
  have hneg : decide ((1 : Int) + 2 * (sizes ks : Int) < 0) = false := decide_eq_false (by omega)
  have hs := hide (fun w (hm : GM w) => sType_any h w hm)
  have hi := hide (fun w (hm : GM w) => iType_any h w hm)
  replace hres := hide hres
  have hbo := hide hb
  have hm' := hide hm
  clear h hb hm
  go_enter Tryz.func4, Tryz.ntmps4
  go_wp2_with (first
    | (go_at_call 10; have _t := hb7; refine (held_again k n ks A2 c2 _ (by have := hz.out; omega) hO2.rd).mono ?_; rintro e w8 ⟨rfl, hb8⟩; clear y0 y1 y2; have g8 := g7.trans (hb8.mono g7.size))
    | (go_at_call 8; refine (eqTerm_any k n ks A6 c6 k n ks A1 c1 _ hl6 hl6 (hf6.rd.alloc _) ((hR1.below (H6.mono (by simp))).alloc _)).mono ?_; rw [tmEq_self]; rintro e w7 ⟨rfl, hb7⟩; clear x0 x1 x2; replace hD := (hD.alloc _).keep hb7; replace hO2 := (hO2.alloc _).keep hb7; have g7 := (g6.alloc g6.size _).trans (hb7.mono (by have := g6.size; simp; omega)); obtain ⟨y0, y1, y2⟩ := (hD).three)
    | (go_at_call 12; refine (hi.out _ (hm'.out.keep g5)).mono ?_; rintro e w6 hgo; obtain ⟨A6, c6, rfl, hl6, hf6, hb6⟩ := gotP_at hgo hres.out hbo.out; clear hgo; replace hD := hD.keep hb6; replace hO2 := hO2.keep hb6; have g6 := g5.trans (hb6.mono g5.size); have H6 : Below (w1.heap.size + 1) _ w6 := H5.trans (hb6.mono (by have := H5.size; simp at this; omega)); obtain ⟨x0, x1, x2⟩ := (hT.below H6 (by omega)).three; have lT := (hT.below H6 (by omega)).lt)
    | (go_at_call 10; have _t := H4; refine (held_again k n ks A2 c2 _ (by have := hz.out; omega) hO2.rd).mono ?_; rintro e w5 ⟨rfl, hb5⟩; replace hD := hD.keep hb5; replace hO2 := hO2.keep hb5; have g5 := g4.trans (hb5.mono g4.size); have H5 : Below (w1.heap.size + 1) _ w5 := H4.trans (hb5.mono (by have := H4.size; simp at this; omega)); clear y0 y1 y2)
    | (go_at_call 9; have s05 : w.heap.size ≤ w1.heap.size + 1 := (by have := g1.size; omega); refine (markTerm_any k n ks A2 c2 fp2 1 _ (by have := hz.out; omega) (by omega) (by have := hz.out; omega) hO2.ow hO2.nodup).mono ?_; rintro e w4 ⟨rfl, hq, hm⟩; have hb4 : Below (w1.heap.size + 1) w3 w4 := hm.below (by have := H3.size; simpa using this) (fun b hb => by have := hO2.lo b hb; simpa using this); replace hD := hD.only hm (hO2.out (.inr (Nat.le_refl _))); replace hO2 := hO2.marked hq; have g4 := g3.trans (hb4.mono s05); have H4 : Below (w1.heap.size + 1) _ w4 := H3.trans hb4; clear hq hm y0 y1 y2; obtain ⟨y0, y1, y2⟩ := (hD).three)
    | (go_at_call 8; refine (eqTerm_any k n ks A2 c2 k n ks A1 c1 _ hl2 hl2 (hO2.rd.alloc _) ((hR1.below (H2.mono (by simp))).alloc _)).mono ?_; rw [tmEq_self]; rintro e w3 ⟨rfl, hb3⟩; have hD := (Blk.new_ w2 24 #[.int .i64 k, .int .i64 n, .slice A2 ks.length c2] rfl).keep hb3; replace hO2 := (hO2.alloc _).keep hb3; have g3 := (g2.alloc g2.size _).trans (hb3.mono (by have := g2.size; simp; omega)); have H3 : Below (w1.heap.size + 1) _ w3 := (H2.alloc (by have := H2.size; simp at this; omega) _).trans (hb3.mono (by have := H2.size; simp at this ⊢; omega)); clear x0 x1 x2; obtain ⟨y0, y1, y2⟩ := (hD).three)
    | (go_at_call 12; refine (hi.out _ ((hm'.out.keep g1).alloc _)).mono ?_; rintro e w2 hgo; obtain ⟨A2, c2, rfl, hl2, hf2, hb2⟩ := gotP_at hgo hres.out hbo.out; clear hgo; have hT : Blk (w1.alloc (.cells #[.int .i64 k, .int .i64 n, .slice A1 ks.length c1] 24)) w1.heap.size #[.int .i64 k, .int .i64 n, .slice A1 ks.length c1] := Blk.new_ w1 24 _ rfl; have hR1 : Rd (w1.alloc (.cells #[.int .i64 k, .int .i64 n, .slice A1 ks.length c1] 24)) A1 0 ks := hf1.rd.alloc _; have H2 : Below (w1.heap.size + 1) (w1.alloc (.cells #[.int .i64 k, .int .i64 n, .slice A1 ks.length c1] 24)) w2 := hb2.mono (by simp); have g2 := (g1.alloc g1.size _).trans (hb2.mono (by have := g1.size; simp; omega)); obtain ⟨fp2, hO2⟩ := hf2.owf; obtain ⟨x0, x1, x2⟩ := (hT.below H2 (by omega)).three; have lT := (hT.below H2 (by omega)).lt)
    | (go_at_call 11; refine (hs.out _ hm'.out).mono ?_; rintro e w1 hgo; obtain ⟨A1, c1, rfl, hl1, hf1, hb1⟩ := gotP_at hgo hres.out hbo.out; clear hgo; have g1 : Below w.heap.size w w1 := hb1))
  go_ret
  exact ⟨rfl, g8⟩
set_option maxRecDepth 100000 in
set_option maxHeartbeats 8000000 in
theorem lawTheoremProof_any (thm : Int) (w : World) (hm : GM w) : Calls Tryz.prog 3 #[.int .i64 thm] w fun e w' => e = .returned (.bool true) ∧ Below w.heap.size w w' := by
  obtain ⟨sR, pR, sB, pB, oS, oP, h⟩ := thmAt_ex thm
  obtain ⟨k, n, ks, hres⟩ : ∃ k n ks, (oP).getD (.mk 0 0 []) = .mk k n ks := by cases h : (oP).getD (.mk 0 0 []); exact ⟨_, _, _, rfl⟩
  obtain ⟨b, hb⟩ : ∃ b, (oP).isSome = b := ⟨_, rfl⟩
  have hz := hide (thm_size ((thm_good h).2.2.2) hres)
  have hneg : decide ((1 : Int) + 2 * (sizes ks : Int) < 0) = false := decide_eq_false (by omega)
  have hs := hide (fun w (hm : GM w) => sProof_any h w hm)
  have hi := hide (fun w (hm : GM w) => iProof_any h w hm)
  replace hres := hide hres
  have hbo := hide hb
  have hm' := hide hm
  clear h hb hm
  go_enter Tryz.func3, Tryz.ntmps3
  go_wp2_with (first
    | (go_at_call 10; have _t := hb7; refine (held_again k n ks A2 c2 _ (by have := hz.out; omega) hO2.rd).mono ?_; rintro e w8 ⟨rfl, hb8⟩; clear y0 y1 y2; have g8 := g7.trans (hb8.mono g7.size))
    | (go_at_call 8; refine (eqTerm_any k n ks A6 c6 k n ks A1 c1 _ hl6 hl6 (hf6.rd.alloc _) ((hR1.below (H6.mono (by simp))).alloc _)).mono ?_; rw [tmEq_self]; rintro e w7 ⟨rfl, hb7⟩; clear x0 x1 x2; replace hD := (hD.alloc _).keep hb7; replace hO2 := (hO2.alloc _).keep hb7; have g7 := (g6.alloc g6.size _).trans (hb7.mono (by have := g6.size; simp; omega)); obtain ⟨y0, y1, y2⟩ := (hD).three)
    | (go_at_call 7; refine (hi.out _ (hm'.out.keep g5)).mono ?_; rintro e w6 hgo; obtain ⟨A6, c6, rfl, hl6, hf6, hb6⟩ := gotP_at hgo hres.out hbo.out; clear hgo; replace hD := hD.keep hb6; replace hO2 := hO2.keep hb6; have g6 := g5.trans (hb6.mono g5.size); have H6 : Below (w1.heap.size + 1) _ w6 := H5.trans (hb6.mono (by have := H5.size; simp at this; omega)); obtain ⟨x0, x1, x2⟩ := (hT.below H6 (by omega)).three; have lT := (hT.below H6 (by omega)).lt)
    | (go_at_call 10; have _t := H4; refine (held_again k n ks A2 c2 _ (by have := hz.out; omega) hO2.rd).mono ?_; rintro e w5 ⟨rfl, hb5⟩; replace hD := hD.keep hb5; replace hO2 := hO2.keep hb5; have g5 := g4.trans (hb5.mono g4.size); have H5 : Below (w1.heap.size + 1) _ w5 := H4.trans (hb5.mono (by have := H4.size; simp at this; omega)); clear y0 y1 y2)
    | (go_at_call 9; have s05 : w.heap.size ≤ w1.heap.size + 1 := (by have := g1.size; omega); refine (markTerm_any k n ks A2 c2 fp2 1 _ (by have := hz.out; omega) (by omega) (by have := hz.out; omega) hO2.ow hO2.nodup).mono ?_; rintro e w4 ⟨rfl, hq, hm⟩; have hb4 : Below (w1.heap.size + 1) w3 w4 := hm.below (by have := H3.size; simpa using this) (fun b hb => by have := hO2.lo b hb; simpa using this); replace hD := hD.only hm (hO2.out (.inr (Nat.le_refl _))); replace hO2 := hO2.marked hq; have g4 := g3.trans (hb4.mono s05); have H4 : Below (w1.heap.size + 1) _ w4 := H3.trans hb4; clear hq hm y0 y1 y2; obtain ⟨y0, y1, y2⟩ := (hD).three)
    | (go_at_call 8; refine (eqTerm_any k n ks A2 c2 k n ks A1 c1 _ hl2 hl2 (hO2.rd.alloc _) ((hR1.below (H2.mono (by simp))).alloc _)).mono ?_; rw [tmEq_self]; rintro e w3 ⟨rfl, hb3⟩; have hD := (Blk.new_ w2 24 #[.int .i64 k, .int .i64 n, .slice A2 ks.length c2] rfl).keep hb3; replace hO2 := (hO2.alloc _).keep hb3; have g3 := (g2.alloc g2.size _).trans (hb3.mono (by have := g2.size; simp; omega)); have H3 : Below (w1.heap.size + 1) _ w3 := (H2.alloc (by have := H2.size; simp at this; omega) _).trans (hb3.mono (by have := H2.size; simp at this ⊢; omega)); clear x0 x1 x2; obtain ⟨y0, y1, y2⟩ := (hD).three)
    | (go_at_call 7; refine (hi.out _ ((hm'.out.keep g1).alloc _)).mono ?_; rintro e w2 hgo; obtain ⟨A2, c2, rfl, hl2, hf2, hb2⟩ := gotP_at hgo hres.out hbo.out; clear hgo; have hT : Blk (w1.alloc (.cells #[.int .i64 k, .int .i64 n, .slice A1 ks.length c1] 24)) w1.heap.size #[.int .i64 k, .int .i64 n, .slice A1 ks.length c1] := Blk.new_ w1 24 _ rfl; have hR1 : Rd (w1.alloc (.cells #[.int .i64 k, .int .i64 n, .slice A1 ks.length c1] 24)) A1 0 ks := hf1.rd.alloc _; have H2 : Below (w1.heap.size + 1) (w1.alloc (.cells #[.int .i64 k, .int .i64 n, .slice A1 ks.length c1] 24)) w2 := hb2.mono (by simp); have g2 := (g1.alloc g1.size _).trans (hb2.mono (by have := g1.size; simp; omega)); obtain ⟨fp2, hO2⟩ := hf2.owf; obtain ⟨x0, x1, x2⟩ := (hT.below H2 (by omega)).three; have lT := (hT.below H2 (by omega)).lt)
    | (go_at_call 6; refine (hs.out _ hm'.out).mono ?_; rintro e w1 hgo; obtain ⟨A1, c1, rfl, hl1, hf1, hb1⟩ := gotP_at hgo hres.out hbo.out; clear hgo; have g1 : Below w.heap.size w w1 := hb1))
  go_ret
  exact ⟨rfl, g8⟩
end Go.Proofs.YtjpgdfndlmipcaaGreatDoor

namespace Go.Proofs.YtjpgdfndlmipcaaGreatDoor
open Go.RowKit
set_option linter.unusedSimpArgs false
set_option linter.unusedVariables false

theorem change_and_shaped {H : Type} {enc : TypeId × Value → H} {a : Assume} {C : Checked} {os : Os} {f : FuncId} {fn : Func} {s : ChangeSpec} {conds : List PathCond} {apart fresh handsOn again : Bool} {X : World → Array Value → Prop}
    (hX : ∀ (w w' : World) (args : Array Value), w.heap = w'.heap → X w args → X w' args)
    (own : ownKnob C.prog.godebug = none) (started : os.Started) (noInit : C.prog.inits.idxOf? f = none) (hfn : C.prog.funcs[f]? = some fn)
    (witness : ∃ (w : World) (tape : Tape) (i : Input), w.os = os ∧ (w.forCall tape i).Shaped C.prog ∧ i.vars = [] ∧ Input.okWide C.prog (w.forCall tape i) .any w.heap.size f i ∧
      ((s.pre enc C.prog fn conds apart (w.forCall tape i).memory i.args ∧ X (w.forCall tape i).memory i.args) ∧ sizedMet enc C.prog fn (OpenSpec.ofChange s) apart (w.forCall tape i).memory i.args) ∧ a.holds C.prog (lone (Frame.enter C.prog f i.args .normal) [] (w.forCall tape i)))
    (contract : ∀ (W : World) (base : Nat) (args : Array Value) (ds gs : List (DataW H)) (before : List MemPlace),
      (∀ (j : Nat) t v, fn.params[j]? = some t → args[j]? = some v → Value.okWide C.prog W .any base t v) →
      DataW.Whole enc C.prog fn.params.toList s.vars apart W args.toList ds gs before →
      W.ShapedOpen C.prog → X W args →
      Calls C.prog f args W fun e W' => ∃ v, e = .returned v ∧ s.post enc C.prog fn apart fresh handsOn again W args v W') :
    ReturnsInHanded a C os f .any (fun w args => (s.pre enc C.prog fn conds apart w args ∧ X w args) ∧ sizedMet enc C.prog fn (OpenSpec.ofChange s) apart w args) (s.post enc C.prog fn apart fresh handsOn again) := by
  refine returnsInHanded_of_calls own started noInit witness ?_
  intro w tape i _ hsh _ hok hpre hholds
  obtain ⟨_, _, _, fn', hfn', _, _, _, _, hval⟩ := hok
  obtain rfl : fn' = fn := Option.some.inj (hfn'.symm.trans hfn)
  obtain ⟨⟨⟨ds, gs, before, hw, hc⟩, hx⟩, hz⟩ := hpre
  refine (contract (w.forCall tape i) w.heap.size i.args ds gs before hval (DataW.Whole.of_heap (w' := w.forCall tape i) (by rfl) hw) hsh (hX _ _ _ (by rfl) hx)).mono fun e W' ⟨v, he, hp⟩ => ?_
  subst he
  exact ChangeSpec.post_blind hp
theorem gm_of {w : World} (h : w.ShapedOpen Tryz.prog) : GM w :=
  cell_of_shapedOpen_int (zero := #[.int .i64 0]) (t := 3) h (of_decide_eq_true (by kernel_rfl)) (by kernel_rfl) rfl (by kernel_rfl) (by kernel_rfl) Tryz.underlying3
end Go.Proofs.YtjpgdfndlmipcaaGreatDoor
