/-
  Contracts of the functions that the law reaches, and plain lemmas. No condition.
-/
import Derived.Test.YthgmofdfecioaaaGreatDoorK13
import Derived.Lib.SplitLaws
namespace Go.Proofs.YthgmofdfecioaaaGreatDoor
set_option linter.unusedSimpArgs false
set_option linter.unusedVariables false
open Go.RowKit
set_option maxRecDepth 100000
theorem byt_nil : byt [] = ⟨#[]⟩ := rfl
set_option maxHeartbeats 2000000 in
theorem iRead_nil (w : World) : Calls Tryz.prog 86 #[.string (byt []), .int .i64 1] w fun e w' => e = .returned (.tuple #[.agg #[.int .i64 0, .int .i64 0, .slice none 0 0], .string (byt []), .bool false]) ∧ Below w.heap.size w w' := by
  rw [byt_nil]
  go_enter Tryz.func86, Tryz.ntmps86
  go_wp2_with (go_at_call 112; refine (kindAt_nil _).mono ?_; rintro e w1 ⟨rfl, hb1⟩; have hZ := (Blk.new_ w 27 #[.int .i64 0, .int .i64 0, .slice none 0 0] rfl).keep hb1; obtain ⟨d0, d1, d2⟩ := hZ.three; have e0 := hZ.frozen 0; have e1 := hZ.frozen 1; have e2 := hZ.frozen 2; have g1 : Below w.heap.size w w1 := ((Below.refl _ _).alloc (Nat.le_refl _) _).trans (hb1.mono (by simp)))
  refine bodyPost_ret (v := .tuple #[.agg #[.int .i64 0, .int .i64 0, .slice none 0 0], .string ⟨#[]⟩, .bool false]) (by simp [results, Tryz.results86, go_sem, d0, d1, d2]) rfl ⟨rfl, ((g1.setCell (by simp) _).setCell (by simp) _).setCell (by simp) _⟩
set_option maxHeartbeats 2000000 in
theorem iParse_nil (w : World) : Calls Tryz.prog 60 #[.string (byt [])] w (GotP w none) := by
  have h0 := fun w => iRead_nil w
  rw [byt_nil] at h0 ⊢
  go_enter Tryz.func60, Tryz.ntmps60
  go_wp2_with (go_at_call 86; refine (h0 _).mono ?_; rintro e w1 ⟨rfl, hb1⟩; have hZ := (Blk.new_ w 27 #[.int .i64 0, .int .i64 0, .slice none 0 0] rfl).keep hb1; obtain ⟨d0, d1, d2⟩ := hZ.three; have e0 := hZ.frozen 0; have e1 := hZ.frozen 1; have e2 := hZ.frozen 2; have lz := hZ.lt; have g1 : Below w.heap.size w w1 := ((Below.refl _ _).alloc (Nat.le_refl _) _).trans (hb1.mono (by simp)))
  refine bodyPost_ret (v := .tuple #[.agg #[.int .i64 0, .int .i64 0, .slice none 0 0], .bool false]) (by simp [results, Tryz.results60, go_sem, d0, d1, d2, lz]) rfl ⟨0, 0, [], none, 0, rfl, rfl, by simp, Fresh.nil, (((g1.setCell (by simp) _).setCell (by simp) _).setCell (by simp) _).alloc (by simp; have := g1.size; omega) _⟩
set_option maxHeartbeats 2000000 in
theorem sParse1_nil (w : World) : Calls Tryz.prog 63 #[.string ⟨#[]⟩, .int .i64 0, .int .i64 30] w fun e w' => e = .returned (.tuple #[.agg #[.int .i64 0, .int .i64 0, .slice none 0 0], .int .i64 (-1)]) ∧ Below w.heap.size w w' := by
  go_enter Tryz.func63, Tryz.ntmps63
  go_wp2
  refine bodyPost_ret (v := .tuple #[.agg #[.int .i64 0, .int .i64 0, .slice none 0 0], .int .i64 (-1)]) (by simp [results, Tryz.results63, go_sem]) rfl ⟨rfl, ?_⟩
  exact (Below.refl _ _).alloc (Nat.le_refl _) _
set_option maxHeartbeats 2000000 in
theorem sParse_nil (w : World) : Calls Tryz.prog 40 #[.string (byt [])] w (GotP w none) := by
  rw [byt_nil]
  go_enter Tryz.func40, Tryz.ntmps40
  go_wp2_with (go_at_call 63; refine (sParse1_nil _).mono ?_; rintro e w1 ⟨rfl, hb1⟩; have hZ := (Blk.new_ w 27 #[.int .i64 0, .int .i64 0, .slice none 0 0] rfl).keep hb1; obtain ⟨d0, d1, d2⟩ := hZ.three; have e0 := hZ.frozen 0; have e1 := hZ.frozen 1; have e2 := hZ.frozen 2; have lz := hZ.lt; have g1 : Below w.heap.size w w1 := ((Below.refl _ _).alloc (Nat.le_refl _) _).trans (hb1.mono (by simp)))
  refine bodyPost_ret (v := .tuple #[.agg #[.int .i64 0, .int .i64 0, .slice none 0 0], .bool false]) (by simp [results, Tryz.results40, go_sem, d0, d1, d2, lz]) rfl ⟨0, 0, [], none, 0, rfl, rfl, by simp, Fresh.nil, (((g1.setCell (by simp) _).setCell (by simp) _).setCell (by simp) _).alloc (by simp; have := g1.size; omega) _⟩
theorem sParse_any {t : Tm} {b : List UInt8} (h : Good t b) (w : World) : Calls Tryz.prog 40 #[.string (byt b)] w (GotP w (some t)) := by
  obtain ⟨k, n, ks⟩ := t
  refine (parseTerm_any h w).mono fun e w' hg => ?_
  obtain ⟨A, c, rfl, hl, hf, hb⟩ := hg
  exact ⟨k, n, ks, A, c, rfl, rfl, hl, hf, hb⟩
theorem repl_any {a old new r : List UInt8} (h : Lib.replaceAll a old new = r) (ho : 1 ≤ old.length) (hl : a.length ≤ 1000) (hn : new.length ≤ 1000) (w : World) (hm : GM w) :
    Calls Tryz.prog 58 #[.string (byt a), .string (byt old), .string (byt new)] w fun e w' => e = .returned (.string (byt r)) ∧ Below w.heap.size w w' := by
  obtain ⟨m, hm⟩ := hm
  have sz : ∀ l : List UInt8, (byt l).size = l.length := fun l => by simp [byt, ByteArray.size]
  have hc := Lib.countB_le (byt old) (by rw [sz]; exact ho) _ (byt a) (Nat.le_refl _)
  rw [sz] at hc
  refine (Tryz.strings_ReplaceAll (byt a) (byt old) (byt new) m w (by rw [sz]; omega) hm (by rw [sz]; exact ho) ?_).mono ?_
  · rw [sz, sz]
    have : Lib.countB (byt a) (byt old) * new.length ≤ 1000 * 1000 := Nat.mul_le_mul (by omega) hn
    omega
  · rintro e w' ⟨rfl, hb⟩
    refine ⟨?_, hb⟩
    rw [byt_list, byt_list, byt_list, h]
    rfl
theorem funText1_any (w : World) : Calls Tryz.prog 59 #[.int .i64 1] w fun e w' => e = .returned (.string (byt plusB)) ∧ w = w' := by
  go_enter Tryz.func59, Tryz.ntmps59
  go_wp2
  go_ret
  exact ⟨rfl, rfl⟩
theorem funText3_any (w : World) : Calls Tryz.prog 59 #[.int .i64 3] w fun e w' => e = .returned (.string (byt predB)) ∧ w = w' := by
  go_enter Tryz.func59, Tryz.ntmps59
  go_wp2
  go_ret
  exact ⟨rfl, rfl⟩
/-- what a theorem's number stands for -/
def ThmAt (thm : Int) (sR pR sB pB : List UInt8) (oS oP : Option Tm) : Prop :=
  (thm = 1 ∧ sR = thS1R ∧ pR = thP1R ∧ sB = thS1B ∧ pB = thP1B ∧ oS = some thS1 ∧ oP = some thP1) ∨
  (thm = 2 ∧ sR = thS2R ∧ pR = thP2R ∧ sB = thS2B ∧ pB = thP2B ∧ oS = some thS2 ∧ oP = some thP2) ∨
  (thm = 3 ∧ sR = thS3R ∧ pR = thP3R ∧ sB = thS3B ∧ pB = thP3B ∧ oS = some thS3 ∧ oP = some thP3) ∨
  (thm = 4 ∧ sR = thS4R ∧ pR = thP4R ∧ sB = thS4B ∧ pB = thP4B ∧ oS = some thS4 ∧ oP = some thP4) ∨
  (thm = 5 ∧ sR = thS5R ∧ pR = thP5R ∧ sB = thS5B ∧ pB = thP5B ∧ oS = some thS5 ∧ oP = some thP5) ∨
  ((thm ≠ 1 ∧ thm ≠ 2 ∧ thm ≠ 3 ∧ thm ≠ 4 ∧ thm ≠ 5) ∧ sR = [] ∧ pR = [] ∧ sB = [] ∧ pB = [] ∧ oS = none ∧ oP = none)
theorem thmAt_ex (thm : Int) : ∃ sR pR sB pB oS oP, ThmAt thm sR pR sB pB oS oP := by
  by_cases h1 : thm = 1
  · exact ⟨_, _, _, _, _, _, .inl ⟨h1, rfl, rfl, rfl, rfl, rfl, rfl⟩⟩
  by_cases h2 : thm = 2
  · exact ⟨_, _, _, _, _, _, .inr (.inl ⟨h2, rfl, rfl, rfl, rfl, rfl, rfl⟩)⟩
  by_cases h3 : thm = 3
  · exact ⟨_, _, _, _, _, _, .inr (.inr (.inl ⟨h3, rfl, rfl, rfl, rfl, rfl, rfl⟩))⟩
  by_cases h4 : thm = 4
  · exact ⟨_, _, _, _, _, _, .inr (.inr (.inr (.inl ⟨h4, rfl, rfl, rfl, rfl, rfl, rfl⟩)))⟩
  by_cases h5 : thm = 5
  · exact ⟨_, _, _, _, _, _, .inr (.inr (.inr (.inr (.inl ⟨h5, rfl, rfl, rfl, rfl, rfl, rfl⟩))))⟩
  exact ⟨_, _, _, _, _, _, .inr (.inr (.inr (.inr (.inr ⟨⟨h1, h2, h3, h4, h5⟩, rfl, rfl, rfl, rfl, rfl, rfl⟩))))⟩
set_option maxHeartbeats 2000000 in
theorem theorem_any {thm : Int} {sR pR sB pB : List UInt8} {oS oP : Option Tm} (h : ThmAt thm sR pR sB pB oS oP) (w : World) :
    Calls Tryz.prog 37 #[.int .i64 thm] w fun e w' => e = .returned (.tuple #[.string (byt sR), .string (byt pR)]) ∧ w = w' := by
  rcases h with ⟨rfl, rfl, rfl, rfl, rfl, rfl, rfl⟩ | ⟨rfl, rfl, rfl, rfl, rfl, rfl, rfl⟩ | ⟨rfl, rfl, rfl, rfl, rfl, rfl, rfl⟩ | ⟨rfl, rfl, rfl, rfl, rfl, rfl, rfl⟩ | ⟨rfl, rfl, rfl, rfl, rfl, rfl, rfl⟩ | ⟨⟨h1, h2, h3, h4, h5⟩, rfl, rfl, rfl, rfl, rfl, rfl⟩
  · go_enter Tryz.func37, Tryz.ntmps37
    go_wp2
    go_ret2
    exact ⟨rfl, rfl⟩
  · go_enter Tryz.func37, Tryz.ntmps37
    go_wp2
    go_ret2
    exact ⟨rfl, rfl⟩
  · go_enter Tryz.func37, Tryz.ntmps37
    go_wp2
    go_ret2
    exact ⟨rfl, rfl⟩
  · go_enter Tryz.func37, Tryz.ntmps37
    go_wp2
    go_ret2
    exact ⟨rfl, rfl⟩
  · go_enter Tryz.func37, Tryz.ntmps37
    go_wp2
    go_ret2
    exact ⟨rfl, rfl⟩
  · have q1 : (thm == 1) = false := beq_eq_false_iff_ne.2 h1
    have q2 : (thm == 2) = false := beq_eq_false_iff_ne.2 h2
    have q3 : (thm == 3) = false := beq_eq_false_iff_ne.2 h3
    have q4 : (thm == 4) = false := beq_eq_false_iff_ne.2 h4
    have q5 : (thm == 5) = false := beq_eq_false_iff_ne.2 h5

    clear h1 h2 h3 h4 h5
    go_enter Tryz.func37, Tryz.ntmps37
    go_wp2
    go_ret2
    exact ⟨rfl, rfl⟩
set_option maxHeartbeats 4000000 in
theorem iRead_of {b0 b5 : List UInt8} (hc : Chain b0 b5) (o : Option Tm) (hp : ∀ w, GM w → Calls Tryz.prog 60 #[.string (byt b5)] w (GotP w o)) (w : World) (hm : GM w) :
    Calls Tryz.prog 38 #[.string (byt b0)] w (GotP w o) := by
  obtain ⟨b1, b2, b3, b4, ⟨l0, l1, l2, l3, l4⟩, e1, e2, e3, e4, e5⟩ := hc
  have r1 := hide (fun w hm => repl_any e1 (by decide) l0 (by decide) w hm)
  have r2 := hide (fun w hm => repl_any e2 (by decide) l1 (by decide) w hm)
  have r3 := hide (fun w hm => repl_any e3 (by decide) l2 (by decide) w hm)
  have r4 := hide (fun w hm => repl_any e4 (by decide) l3 (by decide) w hm)
  have r5 := hide (fun w hm => repl_any e5 (by decide) l4 (by decide) w hm)
  have hp' := hide hp
  have hm' := hide hm
  obtain ⟨ts, hts⟩ : ∃ ts : Nat → List UInt8, ts 0 = b0 ∧ ts 1 = b1 ∧ ts 2 = b2 ∧ ts 3 = b3 := ⟨fun i => match i with | 0 => b0 | 1 => b1 | 2 => b2 | _ => b3, rfl, rfl, rfl, rfl⟩
  have hts' := hide hts
  clear hp hm e1 e2 e3 e4 e5 hts
  have a1 : ∀ w, (Op.stringOp .add ⟨#[83, 40]⟩ ⟨#[35, 48]⟩).run Tryz.prog w = .ok (.string (byt [83, 40, 35, 48])) w := fun w => add_strE (a := [83, 40]) (b := [35, 48]) rfl (by decide) w
  have a2 : ∀ w, (Op.stringOp .add (byt [83, 40, 35, 48]) ⟨#[41]⟩).run Tryz.prog w = .ok (.string (byt [83, 40, 35, 48, 41])) w := fun w => add_strE (a := [83, 40, 35, 48]) (b := [41]) rfl (by decide) w
  have a3 : ∀ w, (Op.stringOp .add ⟨#[40, 40, 80, 32, 48, 41, 32]⟩ ⟨#[35, 48]⟩).run Tryz.prog w = .ok (.string (byt [40, 40, 80, 32, 48, 41, 32, 35, 48])) w := fun w => add_strE (a := [40, 40, 80, 32, 48, 41, 32]) (b := [35, 48]) rfl (by decide) w
  have a4 : ∀ w, (Op.stringOp .add (byt [40, 40, 80, 32, 48, 41, 32, 35, 48]) ⟨#[41]⟩).run Tryz.prog w = .ok (.string (byt [40, 40, 80, 32, 48, 41, 32, 35, 48, 41])) w := fun w => add_strE (a := [40, 40, 80, 32, 48, 41, 32, 35, 48]) (b := [41]) rfl (by decide) w
  have a5 : ∀ w, (Op.stringOp .add ⟨#[83, 40]⟩ ⟨#[35, 49]⟩).run Tryz.prog w = .ok (.string (byt [83, 40, 35, 49])) w := fun w => add_strE (a := [83, 40]) (b := [35, 49]) rfl (by decide) w
  have a6 : ∀ w, (Op.stringOp .add (byt [83, 40, 35, 49]) ⟨#[41]⟩).run Tryz.prog w = .ok (.string (byt [83, 40, 35, 49, 41])) w := fun w => add_strE (a := [83, 40, 35, 49]) (b := [41]) rfl (by decide) w
  have a7 : ∀ w, (Op.stringOp .add ⟨#[40, 40, 80, 32, 48, 41, 32]⟩ ⟨#[35, 49]⟩).run Tryz.prog w = .ok (.string (byt [40, 40, 80, 32, 48, 41, 32, 35, 49])) w := fun w => add_strE (a := [40, 40, 80, 32, 48, 41, 32]) (b := [35, 49]) rfl (by decide) w
  have a8 : ∀ w, (Op.stringOp .add (byt [40, 40, 80, 32, 48, 41, 32, 35, 49]) ⟨#[41]⟩).run Tryz.prog w = .ok (.string (byt [40, 40, 80, 32, 48, 41, 32, 35, 49, 41])) w := fun w => add_strE (a := [40, 40, 80, 32, 48, 41, 32, 35, 49]) (b := [41]) rfl (by decide) w
  have a9 : ∀ w, (Op.stringOp .add ⟨#[83, 40]⟩ ⟨#[35, 50]⟩).run Tryz.prog w = .ok (.string (byt [83, 40, 35, 50])) w := fun w => add_strE (a := [83, 40]) (b := [35, 50]) rfl (by decide) w
  have a10 : ∀ w, (Op.stringOp .add (byt [83, 40, 35, 50]) ⟨#[41]⟩).run Tryz.prog w = .ok (.string (byt [83, 40, 35, 50, 41])) w := fun w => add_strE (a := [83, 40, 35, 50]) (b := [41]) rfl (by decide) w
  have a11 : ∀ w, (Op.stringOp .add ⟨#[40, 40, 80, 32, 48, 41, 32]⟩ ⟨#[35, 50]⟩).run Tryz.prog w = .ok (.string (byt [40, 40, 80, 32, 48, 41, 32, 35, 50])) w := fun w => add_strE (a := [40, 40, 80, 32, 48, 41, 32]) (b := [35, 50]) rfl (by decide) w
  have a12 : ∀ w, (Op.stringOp .add (byt [40, 40, 80, 32, 48, 41, 32, 35, 50]) ⟨#[41]⟩).run Tryz.prog w = .ok (.string (byt [40, 40, 80, 32, 48, 41, 32, 35, 50, 41])) w := fun w => add_strE (a := [40, 40, 80, 32, 48, 41, 32, 35, 50]) (b := [41]) rfl (by decide) w
  go_enter Tryz.func38, Tryz.ntmps38
  go_wp2_with fail
  go_loopw [0, 8] (fun o i wr => ∃ j : Nat, j ≤ 3 ∧ o = .string (byt (ts j)) ∧ i = .int .i64 j ∧ Blk wr (w.heap.size + 1) #[.string ⟨#[35, 48]⟩, .string ⟨#[35, 49]⟩, .string ⟨#[35, 50]⟩] ∧ Blk wr w.heap.size #[.int .i64 0, .int .i64 0, .slice none 0 0] ∧ Below w.heap.size w wr) (fun _ i _ => 3 - (intOf i).toNat)
  case atStart => exact ⟨0, by omega, by rw [hts'.out.1], rfl, Blk.new_ _ 9 _ (by simp), (Blk.new_ w 27 _ rfl).alloc _, ((Below.refl _ _).alloc (Nat.le_refl _) _).alloc (by simp) _⟩
  case round =>
    obtain ⟨j, hj, rfl, rfl, hB, hZ, hb⟩ := hrel
    have gm := hm'.out.keep hb
    obtain ⟨c0, c1, c2⟩ := hB.three
    by_cases j0 : j = 0
    · subst j0
      rw [hts'.out.1]
      go_wp2_with (go_at_call 58; refine (r1.out _ gm).mono ?_; rintro e w1 ⟨rfl, hb1⟩)
      go_roundw
      case rel => exact ⟨1, by omega, by rw [hts'.out.2.1], rfl, hB.keep hb1, hZ.keep hb1, hb.trans (hb1.mono hb.size)⟩
      case measure => simp [intOf]
    by_cases j1 : j = 1
    · subst j1
      rw [hts'.out.2.1]
      go_wp2_with (go_at_call 58; refine (r2.out _ gm).mono ?_; rintro e w1 ⟨rfl, hb1⟩)
      go_roundw
      case rel => exact ⟨2, by omega, by rw [hts'.out.2.2.1], rfl, hB.keep hb1, hZ.keep hb1, hb.trans (hb1.mono hb.size)⟩
      case measure => simp [intOf]
    by_cases j2 : j = 2
    · subst j2
      rw [hts'.out.2.2.1]
      go_wp2_with (go_at_call 58; refine (r3.out _ gm).mono ?_; rintro e w1 ⟨rfl, hb1⟩)
      go_roundw
      case rel => exact ⟨3, by omega, by rw [hts'.out.2.2.2], rfl, hB.keep hb1, hZ.keep hb1, hb.trans (hb1.mono hb.size)⟩
      case measure => simp [intOf]
    obtain rfl : j = 3 := by omega
    rw [hts'.out.2.2.2]
    clear c0 c1 c2
    go_wp2_with (first
      | (go_at_call 60; refine (hp'.out _ gm2).mono ?_; rintro e w3 ⟨k, n, ks, A, c, hk, rfl, hl, hf, hb3⟩; have hk' := hide hk; clear hk; have hZ3 := hZ2.keep hb3; obtain ⟨d0, d1, d2⟩ := hZ3.three; have e0 := hZ3.frozen 0; have e1 := hZ3.frozen 1; have e2 := hZ3.frozen 2; have g3 := g2.trans (hb3.mono g2.size))
      | (go_at_call 58; have _t := tok; refine (r5.out _ gm1).mono ?_; rintro e w2 ⟨rfl, hb2⟩; clear tok; have gm2 := gm1.keep hb2; have hZ2 := hZ1.keep hb2; have g2 := g1.trans (hb2.mono g1.size))
      | (go_at_call 58; refine (r4.out _ gm).mono ?_; rintro e w1 ⟨rfl, hb1⟩; have tok : True := trivial; have gm1 := gm.keep hb1; have hZ1 := hZ.keep hb1; have g1 := hb.trans (hb1.mono hb.size))
      | (go_at_call 59; have _t := tok; refine (funText3_any _).mono ?_; rintro e w9 ⟨rfl, rfl⟩)
      | (go_at_call 59; refine (funText1_any _).mono ?_; rintro e w9 ⟨rfl, rfl⟩))
    refine bodyPost_ret (v := .tuple #[.agg #[.int .i64 k, .int .i64 n, .slice A ks.length c], .bool o.isSome]) (by simp [results, Tryz.results38, go_sem, d0, d1, d2]) rfl ⟨k, n, ks, A, c, hk'.out, rfl, hl, ?_, ((g3.setCell (by simp) _).setCell (by simp) _).setCell (by simp) _⟩
    exact (((hf.setCell (by simp; have := hZ2.lt; omega) _).setCell (by simp; have := hZ2.lt; omega) _).setCell (by simp; have := hZ2.lt; omega) _).mono g2.size
theorem plus_any (w : World) : Calls Tryz.prog 61 #[] w fun e w' => e = .returned (.string (byt plusB)) ∧ w = w' := by
  go_enter Tryz.func61, Tryz.ntmps61
  go_wp2
  go_ret
  exact ⟨rfl, rfl⟩
set_option maxHeartbeats 2000000 in
theorem sum0_any (w : World) : Calls Tryz.prog 62 #[.string ⟨#[35, 48]⟩] w fun e w' => e = .returned (.string (byt [40, 40, 91, 78, 93, 91, 78, 93, 60, 91, 78, 93, 78, 44, 35, 49, 44, 91, 78, 93, 91, 78, 93, 43, 35, 48, 44, 35, 48, 62, 32, 48, 41, 32, 35, 48, 41])) ∧ w = w' := by
  have a13 : ∀ w, (Op.stringOp .add ⟨#[40, 40]⟩ (byt plusB)).run Tryz.prog w = .ok (.string (byt [40, 40, 91, 78, 93, 91, 78, 93, 60, 91, 78, 93, 78, 44, 35, 49, 44, 91, 78, 93, 91, 78, 93, 43, 35, 48, 44, 35, 48, 62])) w := fun w => add_strE (a := [40, 40]) (b := [91, 78, 93, 91, 78, 93, 60, 91, 78, 93, 78, 44, 35, 49, 44, 91, 78, 93, 91, 78, 93, 43, 35, 48, 44, 35, 48, 62]) rfl (by decide) w
  have a14 : ∀ w, (Op.stringOp .add (byt [40, 40, 91, 78, 93, 91, 78, 93, 60, 91, 78, 93, 78, 44, 35, 49, 44, 91, 78, 93, 91, 78, 93, 43, 35, 48, 44, 35, 48, 62]) ⟨#[32, 48, 41, 32]⟩).run Tryz.prog w = .ok (.string (byt [40, 40, 91, 78, 93, 91, 78, 93, 60, 91, 78, 93, 78, 44, 35, 49, 44, 91, 78, 93, 91, 78, 93, 43, 35, 48, 44, 35, 48, 62, 32, 48, 41, 32])) w := fun w => add_strE (a := [40, 40, 91, 78, 93, 91, 78, 93, 60, 91, 78, 93, 78, 44, 35, 49, 44, 91, 78, 93, 91, 78, 93, 43, 35, 48, 44, 35, 48, 62]) (b := [32, 48, 41, 32]) rfl (by decide) w
  have a15 : ∀ w, (Op.stringOp .add (byt [40, 40, 91, 78, 93, 91, 78, 93, 60, 91, 78, 93, 78, 44, 35, 49, 44, 91, 78, 93, 91, 78, 93, 43, 35, 48, 44, 35, 48, 62, 32, 48, 41, 32]) ⟨#[35, 48]⟩).run Tryz.prog w = .ok (.string (byt [40, 40, 91, 78, 93, 91, 78, 93, 60, 91, 78, 93, 78, 44, 35, 49, 44, 91, 78, 93, 91, 78, 93, 43, 35, 48, 44, 35, 48, 62, 32, 48, 41, 32, 35, 48])) w := fun w => add_strE (a := [40, 40, 91, 78, 93, 91, 78, 93, 60, 91, 78, 93, 78, 44, 35, 49, 44, 91, 78, 93, 91, 78, 93, 43, 35, 48, 44, 35, 48, 62, 32, 48, 41, 32]) (b := [35, 48]) rfl (by decide) w
  have a16 : ∀ w, (Op.stringOp .add (byt [40, 40, 91, 78, 93, 91, 78, 93, 60, 91, 78, 93, 78, 44, 35, 49, 44, 91, 78, 93, 91, 78, 93, 43, 35, 48, 44, 35, 48, 62, 32, 48, 41, 32, 35, 48]) ⟨#[41]⟩).run Tryz.prog w = .ok (.string (byt [40, 40, 91, 78, 93, 91, 78, 93, 60, 91, 78, 93, 78, 44, 35, 49, 44, 91, 78, 93, 91, 78, 93, 43, 35, 48, 44, 35, 48, 62, 32, 48, 41, 32, 35, 48, 41])) w := fun w => add_strE (a := [40, 40, 91, 78, 93, 91, 78, 93, 60, 91, 78, 93, 78, 44, 35, 49, 44, 91, 78, 93, 91, 78, 93, 43, 35, 48, 44, 35, 48, 62, 32, 48, 41, 32, 35, 48]) (b := [41]) rfl (by decide) w
  go_enter Tryz.func62, Tryz.ntmps62
  go_wp2_with (go_at_call 61; refine (plus_any _).mono ?_; rintro e w9 ⟨rfl, rfl⟩)
  go_ret
  exact ⟨rfl, rfl⟩
set_option maxHeartbeats 2000000 in
theorem sum1_any (w : World) : Calls Tryz.prog 62 #[.string ⟨#[35, 49]⟩] w fun e w' => e = .returned (.string (byt [40, 40, 91, 78, 93, 91, 78, 93, 60, 91, 78, 93, 78, 44, 35, 49, 44, 91, 78, 93, 91, 78, 93, 43, 35, 48, 44, 35, 48, 62, 32, 48, 41, 32, 35, 49, 41])) ∧ w = w' := by
  have a17 : ∀ w, (Op.stringOp .add ⟨#[40, 40]⟩ (byt plusB)).run Tryz.prog w = .ok (.string (byt [40, 40, 91, 78, 93, 91, 78, 93, 60, 91, 78, 93, 78, 44, 35, 49, 44, 91, 78, 93, 91, 78, 93, 43, 35, 48, 44, 35, 48, 62])) w := fun w => add_strE (a := [40, 40]) (b := [91, 78, 93, 91, 78, 93, 60, 91, 78, 93, 78, 44, 35, 49, 44, 91, 78, 93, 91, 78, 93, 43, 35, 48, 44, 35, 48, 62]) rfl (by decide) w
  have a18 : ∀ w, (Op.stringOp .add (byt [40, 40, 91, 78, 93, 91, 78, 93, 60, 91, 78, 93, 78, 44, 35, 49, 44, 91, 78, 93, 91, 78, 93, 43, 35, 48, 44, 35, 48, 62]) ⟨#[32, 48, 41, 32]⟩).run Tryz.prog w = .ok (.string (byt [40, 40, 91, 78, 93, 91, 78, 93, 60, 91, 78, 93, 78, 44, 35, 49, 44, 91, 78, 93, 91, 78, 93, 43, 35, 48, 44, 35, 48, 62, 32, 48, 41, 32])) w := fun w => add_strE (a := [40, 40, 91, 78, 93, 91, 78, 93, 60, 91, 78, 93, 78, 44, 35, 49, 44, 91, 78, 93, 91, 78, 93, 43, 35, 48, 44, 35, 48, 62]) (b := [32, 48, 41, 32]) rfl (by decide) w
  have a19 : ∀ w, (Op.stringOp .add (byt [40, 40, 91, 78, 93, 91, 78, 93, 60, 91, 78, 93, 78, 44, 35, 49, 44, 91, 78, 93, 91, 78, 93, 43, 35, 48, 44, 35, 48, 62, 32, 48, 41, 32]) ⟨#[35, 49]⟩).run Tryz.prog w = .ok (.string (byt [40, 40, 91, 78, 93, 91, 78, 93, 60, 91, 78, 93, 78, 44, 35, 49, 44, 91, 78, 93, 91, 78, 93, 43, 35, 48, 44, 35, 48, 62, 32, 48, 41, 32, 35, 49])) w := fun w => add_strE (a := [40, 40, 91, 78, 93, 91, 78, 93, 60, 91, 78, 93, 78, 44, 35, 49, 44, 91, 78, 93, 91, 78, 93, 43, 35, 48, 44, 35, 48, 62, 32, 48, 41, 32]) (b := [35, 49]) rfl (by decide) w
  have a20 : ∀ w, (Op.stringOp .add (byt [40, 40, 91, 78, 93, 91, 78, 93, 60, 91, 78, 93, 78, 44, 35, 49, 44, 91, 78, 93, 91, 78, 93, 43, 35, 48, 44, 35, 48, 62, 32, 48, 41, 32, 35, 49]) ⟨#[41]⟩).run Tryz.prog w = .ok (.string (byt [40, 40, 91, 78, 93, 91, 78, 93, 60, 91, 78, 93, 78, 44, 35, 49, 44, 91, 78, 93, 91, 78, 93, 43, 35, 48, 44, 35, 48, 62, 32, 48, 41, 32, 35, 49, 41])) w := fun w => add_strE (a := [40, 40, 91, 78, 93, 91, 78, 93, 60, 91, 78, 93, 78, 44, 35, 49, 44, 91, 78, 93, 91, 78, 93, 43, 35, 48, 44, 35, 48, 62, 32, 48, 41, 32, 35, 49]) (b := [41]) rfl (by decide) w
  go_enter Tryz.func62, Tryz.ntmps62
  go_wp2_with (go_at_call 61; refine (plus_any _).mono ?_; rintro e w9 ⟨rfl, rfl⟩)
  go_ret
  exact ⟨rfl, rfl⟩
set_option maxHeartbeats 2000000 in
theorem sum2_any (w : World) : Calls Tryz.prog 62 #[.string ⟨#[35, 50]⟩] w fun e w' => e = .returned (.string (byt [40, 40, 91, 78, 93, 91, 78, 93, 60, 91, 78, 93, 78, 44, 35, 49, 44, 91, 78, 93, 91, 78, 93, 43, 35, 48, 44, 35, 48, 62, 32, 48, 41, 32, 35, 50, 41])) ∧ w = w' := by
  have a21 : ∀ w, (Op.stringOp .add ⟨#[40, 40]⟩ (byt plusB)).run Tryz.prog w = .ok (.string (byt [40, 40, 91, 78, 93, 91, 78, 93, 60, 91, 78, 93, 78, 44, 35, 49, 44, 91, 78, 93, 91, 78, 93, 43, 35, 48, 44, 35, 48, 62])) w := fun w => add_strE (a := [40, 40]) (b := [91, 78, 93, 91, 78, 93, 60, 91, 78, 93, 78, 44, 35, 49, 44, 91, 78, 93, 91, 78, 93, 43, 35, 48, 44, 35, 48, 62]) rfl (by decide) w
  have a22 : ∀ w, (Op.stringOp .add (byt [40, 40, 91, 78, 93, 91, 78, 93, 60, 91, 78, 93, 78, 44, 35, 49, 44, 91, 78, 93, 91, 78, 93, 43, 35, 48, 44, 35, 48, 62]) ⟨#[32, 48, 41, 32]⟩).run Tryz.prog w = .ok (.string (byt [40, 40, 91, 78, 93, 91, 78, 93, 60, 91, 78, 93, 78, 44, 35, 49, 44, 91, 78, 93, 91, 78, 93, 43, 35, 48, 44, 35, 48, 62, 32, 48, 41, 32])) w := fun w => add_strE (a := [40, 40, 91, 78, 93, 91, 78, 93, 60, 91, 78, 93, 78, 44, 35, 49, 44, 91, 78, 93, 91, 78, 93, 43, 35, 48, 44, 35, 48, 62]) (b := [32, 48, 41, 32]) rfl (by decide) w
  have a23 : ∀ w, (Op.stringOp .add (byt [40, 40, 91, 78, 93, 91, 78, 93, 60, 91, 78, 93, 78, 44, 35, 49, 44, 91, 78, 93, 91, 78, 93, 43, 35, 48, 44, 35, 48, 62, 32, 48, 41, 32]) ⟨#[35, 50]⟩).run Tryz.prog w = .ok (.string (byt [40, 40, 91, 78, 93, 91, 78, 93, 60, 91, 78, 93, 78, 44, 35, 49, 44, 91, 78, 93, 91, 78, 93, 43, 35, 48, 44, 35, 48, 62, 32, 48, 41, 32, 35, 50])) w := fun w => add_strE (a := [40, 40, 91, 78, 93, 91, 78, 93, 60, 91, 78, 93, 78, 44, 35, 49, 44, 91, 78, 93, 91, 78, 93, 43, 35, 48, 44, 35, 48, 62, 32, 48, 41, 32]) (b := [35, 50]) rfl (by decide) w
  have a24 : ∀ w, (Op.stringOp .add (byt [40, 40, 91, 78, 93, 91, 78, 93, 60, 91, 78, 93, 78, 44, 35, 49, 44, 91, 78, 93, 91, 78, 93, 43, 35, 48, 44, 35, 48, 62, 32, 48, 41, 32, 35, 50]) ⟨#[41]⟩).run Tryz.prog w = .ok (.string (byt [40, 40, 91, 78, 93, 91, 78, 93, 60, 91, 78, 93, 78, 44, 35, 49, 44, 91, 78, 93, 91, 78, 93, 43, 35, 48, 44, 35, 48, 62, 32, 48, 41, 32, 35, 50, 41])) w := fun w => add_strE (a := [40, 40, 91, 78, 93, 91, 78, 93, 60, 91, 78, 93, 78, 44, 35, 49, 44, 91, 78, 93, 91, 78, 93, 43, 35, 48, 44, 35, 48, 62, 32, 48, 41, 32, 35, 50]) (b := [41]) rfl (by decide) w
  go_enter Tryz.func62, Tryz.ntmps62
  go_wp2_with (go_at_call 61; refine (plus_any _).mono ?_; rintro e w9 ⟨rfl, rfl⟩)
  go_ret
  exact ⟨rfl, rfl⟩
set_option maxHeartbeats 4000000 in
theorem l17Texts_any {thm : Int} {sR pR sB pB : List UInt8} {oS oP : Option Tm} (h : ThmAt thm sR pR sB pB oS oP) (w : World) :
    Calls Tryz.prog 39 #[.int .i64 thm] w fun e w' => e = .returned (.tuple #[.string (byt sB), .string (byt pB)]) ∧ w = w' := by
  rcases h with ⟨rfl, rfl, rfl, rfl, rfl, rfl, rfl⟩ | ⟨rfl, rfl, rfl, rfl, rfl, rfl, rfl⟩ | ⟨rfl, rfl, rfl, rfl, rfl, rfl, rfl⟩ | ⟨rfl, rfl, rfl, rfl, rfl, rfl, rfl⟩ | ⟨rfl, rfl, rfl, rfl, rfl, rfl, rfl⟩ | ⟨⟨h1, h2, h3, h4, h5⟩, rfl, rfl, rfl, rfl, rfl, rfl⟩
  · have a25 : ∀ w, (Op.stringOp .add ⟨#[40, 78, 62, 123, 78, 44, 40, 40]⟩ (byt plusB)).run Tryz.prog w = .ok (.string (byt [40, 78, 62, 123, 78, 44, 40, 40, 91, 78, 93, 91, 78, 93, 60, 91, 78, 93, 78, 44, 35, 49, 44, 91, 78, 93, 91, 78, 93, 43, 35, 48, 44, 35, 48, 62])) w := fun w => add_strE (a := [40, 78, 62, 123, 78, 44, 40, 40]) (b := [91, 78, 93, 91, 78, 93, 60, 91, 78, 93, 78, 44, 35, 49, 44, 91, 78, 93, 91, 78, 93, 43, 35, 48, 44, 35, 48, 62]) rfl (by decide) w
    have a26 : ∀ w, (Op.stringOp .add (byt [40, 78, 62, 123, 78, 44, 40, 40, 91, 78, 93, 91, 78, 93, 60, 91, 78, 93, 78, 44, 35, 49, 44, 91, 78, 93, 91, 78, 93, 43, 35, 48, 44, 35, 48, 62]) ⟨#[32, 35, 48, 41, 32, 48, 41, 44, 35, 48, 125, 41]⟩).run Tryz.prog w = .ok (.string (byt [40, 78, 62, 123, 78, 44, 40, 40, 91, 78, 93, 91, 78, 93, 60, 91, 78, 93, 78, 44, 35, 49, 44, 91, 78, 93, 91, 78, 93, 43, 35, 48, 44, 35, 48, 62, 32, 35, 48, 41, 32, 48, 41, 44, 35, 48, 125, 41])) w := fun w => add_strE (a := [40, 78, 62, 123, 78, 44, 40, 40, 91, 78, 93, 91, 78, 93, 60, 91, 78, 93, 78, 44, 35, 49, 44, 91, 78, 93, 91, 78, 93, 43, 35, 48, 44, 35, 48, 62]) (b := [32, 35, 48, 41, 32, 48, 41, 44, 35, 48, 125, 41]) rfl (by decide) w
    go_enter Tryz.func39, Tryz.ntmps39
    go_wp2_with (go_at_call 61; refine (plus_any _).mono ?_; rintro e w9 ⟨rfl, rfl⟩)
    go_ret2
    exact ⟨rfl, rfl⟩
  · have a27 : ∀ w, (Op.stringOp .add ⟨#[123, 78, 44]⟩ (byt [40, 40, 91, 78, 93, 91, 78, 93, 60, 91, 78, 93, 78, 44, 35, 49, 44, 91, 78, 93, 91, 78, 93, 43, 35, 48, 44, 35, 48, 62, 32, 48, 41, 32, 35, 48, 41])).run Tryz.prog w = .ok (.string (byt [123, 78, 44, 40, 40, 91, 78, 93, 91, 78, 93, 60, 91, 78, 93, 78, 44, 35, 49, 44, 91, 78, 93, 91, 78, 93, 43, 35, 48, 44, 35, 48, 62, 32, 48, 41, 32, 35, 48, 41])) w := fun w => add_strE (a := [123, 78, 44]) (b := [40, 40, 91, 78, 93, 91, 78, 93, 60, 91, 78, 93, 78, 44, 35, 49, 44, 91, 78, 93, 91, 78, 93, 43, 35, 48, 44, 35, 48, 62, 32, 48, 41, 32, 35, 48, 41]) rfl (by decide) w
    have a28 : ∀ w, (Op.stringOp .add (byt [123, 78, 44, 40, 40, 91, 78, 93, 91, 78, 93, 60, 91, 78, 93, 78, 44, 35, 49, 44, 91, 78, 93, 91, 78, 93, 43, 35, 48, 44, 35, 48, 62, 32, 48, 41, 32, 35, 48, 41]) ⟨#[44, 35, 48, 125]⟩).run Tryz.prog w = .ok (.string (byt [123, 78, 44, 40, 40, 91, 78, 93, 91, 78, 93, 60, 91, 78, 93, 78, 44, 35, 49, 44, 91, 78, 93, 91, 78, 93, 43, 35, 48, 44, 35, 48, 62, 32, 48, 41, 32, 35, 48, 41, 44, 35, 48, 125])) w := fun w => add_strE (a := [123, 78, 44, 40, 40, 91, 78, 93, 91, 78, 93, 60, 91, 78, 93, 78, 44, 35, 49, 44, 91, 78, 93, 91, 78, 93, 43, 35, 48, 44, 35, 48, 62, 32, 48, 41, 32, 35, 48, 41]) (b := [44, 35, 48, 125]) rfl (by decide) w
    have a29 : ∀ w, (Op.stringOp .add ⟨#[91, 78, 93, 91]⟩ (byt [123, 78, 44, 40, 40, 91, 78, 93, 91, 78, 93, 60, 91, 78, 93, 78, 44, 35, 49, 44, 91, 78, 93, 91, 78, 93, 43, 35, 48, 44, 35, 48, 62, 32, 48, 41, 32, 35, 48, 41, 44, 35, 48, 125])).run Tryz.prog w = .ok (.string (byt [91, 78, 93, 91, 123, 78, 44, 40, 40, 91, 78, 93, 91, 78, 93, 60, 91, 78, 93, 78, 44, 35, 49, 44, 91, 78, 93, 91, 78, 93, 43, 35, 48, 44, 35, 48, 62, 32, 48, 41, 32, 35, 48, 41, 44, 35, 48, 125])) w := fun w => add_strE (a := [91, 78, 93, 91]) (b := [123, 78, 44, 40, 40, 91, 78, 93, 91, 78, 93, 60, 91, 78, 93, 78, 44, 35, 49, 44, 91, 78, 93, 91, 78, 93, 43, 35, 48, 44, 35, 48, 62, 32, 48, 41, 32, 35, 48, 41, 44, 35, 48, 125]) rfl (by decide) w
    have a30 : ∀ w, (Op.stringOp .add (byt [91, 78, 93, 91, 123, 78, 44, 40, 40, 91, 78, 93, 91, 78, 93, 60, 91, 78, 93, 78, 44, 35, 49, 44, 91, 78, 93, 91, 78, 93, 43, 35, 48, 44, 35, 48, 62, 32, 48, 41, 32, 35, 48, 41, 44, 35, 48, 125]) ⟨#[93, 64, 60, 91, 78, 93, 123, 78, 44, 43]⟩).run Tryz.prog w = .ok (.string (byt [91, 78, 93, 91, 123, 78, 44, 40, 40, 91, 78, 93, 91, 78, 93, 60, 91, 78, 93, 78, 44, 35, 49, 44, 91, 78, 93, 91, 78, 93, 43, 35, 48, 44, 35, 48, 62, 32, 48, 41, 32, 35, 48, 41, 44, 35, 48, 125, 93, 64, 60, 91, 78, 93, 123, 78, 44, 43])) w := fun w => add_strE (a := [91, 78, 93, 91, 123, 78, 44, 40, 40, 91, 78, 93, 91, 78, 93, 60, 91, 78, 93, 78, 44, 35, 49, 44, 91, 78, 93, 91, 78, 93, 43, 35, 48, 44, 35, 48, 62, 32, 48, 41, 32, 35, 48, 41, 44, 35, 48, 125]) (b := [93, 64, 60, 91, 78, 93, 123, 78, 44, 43]) rfl (by decide) w
    have a31 : ∀ w, (Op.stringOp .add (byt [91, 78, 93, 91, 123, 78, 44, 40, 40, 91, 78, 93, 91, 78, 93, 60, 91, 78, 93, 78, 44, 35, 49, 44, 91, 78, 93, 91, 78, 93, 43, 35, 48, 44, 35, 48, 62, 32, 48, 41, 32, 35, 48, 41, 44, 35, 48, 125, 93, 64, 60, 91, 78, 93, 123, 78, 44, 43]) (byt [40, 40, 91, 78, 93, 91, 78, 93, 60, 91, 78, 93, 78, 44, 35, 49, 44, 91, 78, 93, 91, 78, 93, 43, 35, 48, 44, 35, 48, 62, 32, 48, 41, 32, 35, 50, 41])).run Tryz.prog w = .ok (.string (byt [91, 78, 93, 91, 123, 78, 44, 40, 40, 91, 78, 93, 91, 78, 93, 60, 91, 78, 93, 78, 44, 35, 49, 44, 91, 78, 93, 91, 78, 93, 43, 35, 48, 44, 35, 48, 62, 32, 48, 41, 32, 35, 48, 41, 44, 35, 48, 125, 93, 64, 60, 91, 78, 93, 123, 78, 44, 43, 40, 40, 91, 78, 93, 91, 78, 93, 60, 91, 78, 93, 78, 44, 35, 49, 44, 91, 78, 93, 91, 78, 93, 43, 35, 48, 44, 35, 48, 62, 32, 48, 41, 32, 35, 50, 41])) w := fun w => add_strE (a := [91, 78, 93, 91, 123, 78, 44, 40, 40, 91, 78, 93, 91, 78, 93, 60, 91, 78, 93, 78, 44, 35, 49, 44, 91, 78, 93, 91, 78, 93, 43, 35, 48, 44, 35, 48, 62, 32, 48, 41, 32, 35, 48, 41, 44, 35, 48, 125, 93, 64, 60, 91, 78, 93, 123, 78, 44, 43]) (b := [40, 40, 91, 78, 93, 91, 78, 93, 60, 91, 78, 93, 78, 44, 35, 49, 44, 91, 78, 93, 91, 78, 93, 43, 35, 48, 44, 35, 48, 62, 32, 48, 41, 32, 35, 50, 41]) rfl (by decide) w
    have a32 : ∀ w, (Op.stringOp .add (byt [91, 78, 93, 91, 123, 78, 44, 40, 40, 91, 78, 93, 91, 78, 93, 60, 91, 78, 93, 78, 44, 35, 49, 44, 91, 78, 93, 91, 78, 93, 43, 35, 48, 44, 35, 48, 62, 32, 48, 41, 32, 35, 48, 41, 44, 35, 48, 125, 93, 64, 60, 91, 78, 93, 123, 78, 44, 43, 40, 40, 91, 78, 93, 91, 78, 93, 60, 91, 78, 93, 78, 44, 35, 49, 44, 91, 78, 93, 91, 78, 93, 43, 35, 48, 44, 35, 48, 62, 32, 48, 41, 32, 35, 50, 41]) ⟨#[44, 43, 35, 48, 125, 44, 35, 48, 44, 33, 43]⟩).run Tryz.prog w = .ok (.string (byt [91, 78, 93, 91, 123, 78, 44, 40, 40, 91, 78, 93, 91, 78, 93, 60, 91, 78, 93, 78, 44, 35, 49, 44, 91, 78, 93, 91, 78, 93, 43, 35, 48, 44, 35, 48, 62, 32, 48, 41, 32, 35, 48, 41, 44, 35, 48, 125, 93, 64, 60, 91, 78, 93, 123, 78, 44, 43, 40, 40, 91, 78, 93, 91, 78, 93, 60, 91, 78, 93, 78, 44, 35, 49, 44, 91, 78, 93, 91, 78, 93, 43, 35, 48, 44, 35, 48, 62, 32, 48, 41, 32, 35, 50, 41, 44, 43, 35, 48, 125, 44, 35, 48, 44, 33, 43])) w := fun w => add_strE (a := [91, 78, 93, 91, 123, 78, 44, 40, 40, 91, 78, 93, 91, 78, 93, 60, 91, 78, 93, 78, 44, 35, 49, 44, 91, 78, 93, 91, 78, 93, 43, 35, 48, 44, 35, 48, 62, 32, 48, 41, 32, 35, 48, 41, 44, 35, 48, 125, 93, 64, 60, 91, 78, 93, 123, 78, 44, 43, 40, 40, 91, 78, 93, 91, 78, 93, 60, 91, 78, 93, 78, 44, 35, 49, 44, 91, 78, 93, 91, 78, 93, 43, 35, 48, 44, 35, 48, 62, 32, 48, 41, 32, 35, 50, 41]) (b := [44, 43, 35, 48, 125, 44, 35, 48, 44, 33, 43]) rfl (by decide) w
    have a33 : ∀ w, (Op.stringOp .add (byt [91, 78, 93, 91, 123, 78, 44, 40, 40, 91, 78, 93, 91, 78, 93, 60, 91, 78, 93, 78, 44, 35, 49, 44, 91, 78, 93, 91, 78, 93, 43, 35, 48, 44, 35, 48, 62, 32, 48, 41, 32, 35, 48, 41, 44, 35, 48, 125, 93, 64, 60, 91, 78, 93, 123, 78, 44, 43, 40, 40, 91, 78, 93, 91, 78, 93, 60, 91, 78, 93, 78, 44, 35, 49, 44, 91, 78, 93, 91, 78, 93, 43, 35, 48, 44, 35, 48, 62, 32, 48, 41, 32, 35, 50, 41, 44, 43, 35, 48, 125, 44, 35, 48, 44, 33, 43]) (byt [40, 40, 91, 78, 93, 91, 78, 93, 60, 91, 78, 93, 78, 44, 35, 49, 44, 91, 78, 93, 91, 78, 93, 43, 35, 48, 44, 35, 48, 62, 32, 48, 41, 32, 35, 49, 41])).run Tryz.prog w = .ok (.string (byt [91, 78, 93, 91, 123, 78, 44, 40, 40, 91, 78, 93, 91, 78, 93, 60, 91, 78, 93, 78, 44, 35, 49, 44, 91, 78, 93, 91, 78, 93, 43, 35, 48, 44, 35, 48, 62, 32, 48, 41, 32, 35, 48, 41, 44, 35, 48, 125, 93, 64, 60, 91, 78, 93, 123, 78, 44, 43, 40, 40, 91, 78, 93, 91, 78, 93, 60, 91, 78, 93, 78, 44, 35, 49, 44, 91, 78, 93, 91, 78, 93, 43, 35, 48, 44, 35, 48, 62, 32, 48, 41, 32, 35, 50, 41, 44, 43, 35, 48, 125, 44, 35, 48, 44, 33, 43, 40, 40, 91, 78, 93, 91, 78, 93, 60, 91, 78, 93, 78, 44, 35, 49, 44, 91, 78, 93, 91, 78, 93, 43, 35, 48, 44, 35, 48, 62, 32, 48, 41, 32, 35, 49, 41])) w := fun w => add_strE (a := [91, 78, 93, 91, 123, 78, 44, 40, 40, 91, 78, 93, 91, 78, 93, 60, 91, 78, 93, 78, 44, 35, 49, 44, 91, 78, 93, 91, 78, 93, 43, 35, 48, 44, 35, 48, 62, 32, 48, 41, 32, 35, 48, 41, 44, 35, 48, 125, 93, 64, 60, 91, 78, 93, 123, 78, 44, 43, 40, 40, 91, 78, 93, 91, 78, 93, 60, 91, 78, 93, 78, 44, 35, 49, 44, 91, 78, 93, 91, 78, 93, 43, 35, 48, 44, 35, 48, 62, 32, 48, 41, 32, 35, 50, 41, 44, 43, 35, 48, 125, 44, 35, 48, 44, 33, 43]) (b := [40, 40, 91, 78, 93, 91, 78, 93, 60, 91, 78, 93, 78, 44, 35, 49, 44, 91, 78, 93, 91, 78, 93, 43, 35, 48, 44, 35, 48, 62, 32, 48, 41, 32, 35, 49, 41]) rfl (by decide) w
    have a34 : ∀ w, (Op.stringOp .add (byt [91, 78, 93, 91, 123, 78, 44, 40, 40, 91, 78, 93, 91, 78, 93, 60, 91, 78, 93, 78, 44, 35, 49, 44, 91, 78, 93, 91, 78, 93, 43, 35, 48, 44, 35, 48, 62, 32, 48, 41, 32, 35, 48, 41, 44, 35, 48, 125, 93, 64, 60, 91, 78, 93, 123, 78, 44, 43, 40, 40, 91, 78, 93, 91, 78, 93, 60, 91, 78, 93, 78, 44, 35, 49, 44, 91, 78, 93, 91, 78, 93, 43, 35, 48, 44, 35, 48, 62, 32, 48, 41, 32, 35, 50, 41, 44, 43, 35, 48, 125, 44, 35, 48, 44, 33, 43, 40, 40, 91, 78, 93, 91, 78, 93, 60, 91, 78, 93, 78, 44, 35, 49, 44, 91, 78, 93, 91, 78, 93, 43, 35, 48, 44, 35, 48, 62, 32, 48, 41, 32, 35, 49, 41]) ⟨#[62]⟩).run Tryz.prog w = .ok (.string (byt [91, 78, 93, 91, 123, 78, 44, 40, 40, 91, 78, 93, 91, 78, 93, 60, 91, 78, 93, 78, 44, 35, 49, 44, 91, 78, 93, 91, 78, 93, 43, 35, 48, 44, 35, 48, 62, 32, 48, 41, 32, 35, 48, 41, 44, 35, 48, 125, 93, 64, 60, 91, 78, 93, 123, 78, 44, 43, 40, 40, 91, 78, 93, 91, 78, 93, 60, 91, 78, 93, 78, 44, 35, 49, 44, 91, 78, 93, 91, 78, 93, 43, 35, 48, 44, 35, 48, 62, 32, 48, 41, 32, 35, 50, 41, 44, 43, 35, 48, 125, 44, 35, 48, 44, 33, 43, 40, 40, 91, 78, 93, 91, 78, 93, 60, 91, 78, 93, 78, 44, 35, 49, 44, 91, 78, 93, 91, 78, 93, 43, 35, 48, 44, 35, 48, 62, 32, 48, 41, 32, 35, 49, 41, 62])) w := fun w => add_strE (a := [91, 78, 93, 91, 123, 78, 44, 40, 40, 91, 78, 93, 91, 78, 93, 60, 91, 78, 93, 78, 44, 35, 49, 44, 91, 78, 93, 91, 78, 93, 43, 35, 48, 44, 35, 48, 62, 32, 48, 41, 32, 35, 48, 41, 44, 35, 48, 125, 93, 64, 60, 91, 78, 93, 123, 78, 44, 43, 40, 40, 91, 78, 93, 91, 78, 93, 60, 91, 78, 93, 78, 44, 35, 49, 44, 91, 78, 93, 91, 78, 93, 43, 35, 48, 44, 35, 48, 62, 32, 48, 41, 32, 35, 50, 41, 44, 43, 35, 48, 125, 44, 35, 48, 44, 33, 43, 40, 40, 91, 78, 93, 91, 78, 93, 60, 91, 78, 93, 78, 44, 35, 49, 44, 91, 78, 93, 91, 78, 93, 43, 35, 48, 44, 35, 48, 62, 32, 48, 41, 32, 35, 49, 41]) (b := [62]) rfl (by decide) w
    have a35 : ∀ w, (Op.stringOp .add ⟨#[40, 78, 62]⟩ (byt [123, 78, 44, 40, 40, 91, 78, 93, 91, 78, 93, 60, 91, 78, 93, 78, 44, 35, 49, 44, 91, 78, 93, 91, 78, 93, 43, 35, 48, 44, 35, 48, 62, 32, 48, 41, 32, 35, 48, 41, 44, 35, 48, 125])).run Tryz.prog w = .ok (.string (byt [40, 78, 62, 123, 78, 44, 40, 40, 91, 78, 93, 91, 78, 93, 60, 91, 78, 93, 78, 44, 35, 49, 44, 91, 78, 93, 91, 78, 93, 43, 35, 48, 44, 35, 48, 62, 32, 48, 41, 32, 35, 48, 41, 44, 35, 48, 125])) w := fun w => add_strE (a := [40, 78, 62]) (b := [123, 78, 44, 40, 40, 91, 78, 93, 91, 78, 93, 60, 91, 78, 93, 78, 44, 35, 49, 44, 91, 78, 93, 91, 78, 93, 43, 35, 48, 44, 35, 48, 62, 32, 48, 41, 32, 35, 48, 41, 44, 35, 48, 125]) rfl (by decide) w
    have a36 : ∀ w, (Op.stringOp .add (byt [40, 78, 62, 123, 78, 44, 40, 40, 91, 78, 93, 91, 78, 93, 60, 91, 78, 93, 78, 44, 35, 49, 44, 91, 78, 93, 91, 78, 93, 43, 35, 48, 44, 35, 48, 62, 32, 48, 41, 32, 35, 48, 41, 44, 35, 48, 125]) ⟨#[41]⟩).run Tryz.prog w = .ok (.string (byt [40, 78, 62, 123, 78, 44, 40, 40, 91, 78, 93, 91, 78, 93, 60, 91, 78, 93, 78, 44, 35, 49, 44, 91, 78, 93, 91, 78, 93, 43, 35, 48, 44, 35, 48, 62, 32, 48, 41, 32, 35, 48, 41, 44, 35, 48, 125, 41])) w := fun w => add_strE (a := [40, 78, 62, 123, 78, 44, 40, 40, 91, 78, 93, 91, 78, 93, 60, 91, 78, 93, 78, 44, 35, 49, 44, 91, 78, 93, 91, 78, 93, 43, 35, 48, 44, 35, 48, 62, 32, 48, 41, 32, 35, 48, 41, 44, 35, 48, 125]) (b := [41]) rfl (by decide) w
    have a37 : ∀ w, (Op.stringOp .add ⟨#[91, 78, 93, 60, 91, 78, 93]⟩ (byt [123, 78, 44, 40, 40, 91, 78, 93, 91, 78, 93, 60, 91, 78, 93, 78, 44, 35, 49, 44, 91, 78, 93, 91, 78, 93, 43, 35, 48, 44, 35, 48, 62, 32, 48, 41, 32, 35, 48, 41, 44, 35, 48, 125])).run Tryz.prog w = .ok (.string (byt [91, 78, 93, 60, 91, 78, 93, 123, 78, 44, 40, 40, 91, 78, 93, 91, 78, 93, 60, 91, 78, 93, 78, 44, 35, 49, 44, 91, 78, 93, 91, 78, 93, 43, 35, 48, 44, 35, 48, 62, 32, 48, 41, 32, 35, 48, 41, 44, 35, 48, 125])) w := fun w => add_strE (a := [91, 78, 93, 60, 91, 78, 93]) (b := [123, 78, 44, 40, 40, 91, 78, 93, 91, 78, 93, 60, 91, 78, 93, 78, 44, 35, 49, 44, 91, 78, 93, 91, 78, 93, 43, 35, 48, 44, 35, 48, 62, 32, 48, 41, 32, 35, 48, 41, 44, 35, 48, 125]) rfl (by decide) w
    have a38 : ∀ w, (Op.stringOp .add (byt [91, 78, 93, 60, 91, 78, 93, 123, 78, 44, 40, 40, 91, 78, 93, 91, 78, 93, 60, 91, 78, 93, 78, 44, 35, 49, 44, 91, 78, 93, 91, 78, 93, 43, 35, 48, 44, 35, 48, 62, 32, 48, 41, 32, 35, 48, 41, 44, 35, 48, 125]) ⟨#[44, 33, 48, 44]⟩).run Tryz.prog w = .ok (.string (byt [91, 78, 93, 60, 91, 78, 93, 123, 78, 44, 40, 40, 91, 78, 93, 91, 78, 93, 60, 91, 78, 93, 78, 44, 35, 49, 44, 91, 78, 93, 91, 78, 93, 43, 35, 48, 44, 35, 48, 62, 32, 48, 41, 32, 35, 48, 41, 44, 35, 48, 125, 44, 33, 48, 44])) w := fun w => add_strE (a := [91, 78, 93, 60, 91, 78, 93, 123, 78, 44, 40, 40, 91, 78, 93, 91, 78, 93, 60, 91, 78, 93, 78, 44, 35, 49, 44, 91, 78, 93, 91, 78, 93, 43, 35, 48, 44, 35, 48, 62, 32, 48, 41, 32, 35, 48, 41, 44, 35, 48, 125]) (b := [44, 33, 48, 44]) rfl (by decide) w
    have a39 : ∀ w, (Op.stringOp .add (byt [91, 78, 93, 60, 91, 78, 93, 123, 78, 44, 40, 40, 91, 78, 93, 91, 78, 93, 60, 91, 78, 93, 78, 44, 35, 49, 44, 91, 78, 93, 91, 78, 93, 43, 35, 48, 44, 35, 48, 62, 32, 48, 41, 32, 35, 48, 41, 44, 35, 48, 125, 44, 33, 48, 44]) (byt [91, 78, 93, 91, 123, 78, 44, 40, 40, 91, 78, 93, 91, 78, 93, 60, 91, 78, 93, 78, 44, 35, 49, 44, 91, 78, 93, 91, 78, 93, 43, 35, 48, 44, 35, 48, 62, 32, 48, 41, 32, 35, 48, 41, 44, 35, 48, 125, 93, 64, 60, 91, 78, 93, 123, 78, 44, 43, 40, 40, 91, 78, 93, 91, 78, 93, 60, 91, 78, 93, 78, 44, 35, 49, 44, 91, 78, 93, 91, 78, 93, 43, 35, 48, 44, 35, 48, 62, 32, 48, 41, 32, 35, 50, 41, 44, 43, 35, 48, 125, 44, 35, 48, 44, 33, 43, 40, 40, 91, 78, 93, 91, 78, 93, 60, 91, 78, 93, 78, 44, 35, 49, 44, 91, 78, 93, 91, 78, 93, 43, 35, 48, 44, 35, 48, 62, 32, 48, 41, 32, 35, 49, 41, 62])).run Tryz.prog w = .ok (.string (byt [91, 78, 93, 60, 91, 78, 93, 123, 78, 44, 40, 40, 91, 78, 93, 91, 78, 93, 60, 91, 78, 93, 78, 44, 35, 49, 44, 91, 78, 93, 91, 78, 93, 43, 35, 48, 44, 35, 48, 62, 32, 48, 41, 32, 35, 48, 41, 44, 35, 48, 125, 44, 33, 48, 44, 91, 78, 93, 91, 123, 78, 44, 40, 40, 91, 78, 93, 91, 78, 93, 60, 91, 78, 93, 78, 44, 35, 49, 44, 91, 78, 93, 91, 78, 93, 43, 35, 48, 44, 35, 48, 62, 32, 48, 41, 32, 35, 48, 41, 44, 35, 48, 125, 93, 64, 60, 91, 78, 93, 123, 78, 44, 43, 40, 40, 91, 78, 93, 91, 78, 93, 60, 91, 78, 93, 78, 44, 35, 49, 44, 91, 78, 93, 91, 78, 93, 43, 35, 48, 44, 35, 48, 62, 32, 48, 41, 32, 35, 50, 41, 44, 43, 35, 48, 125, 44, 35, 48, 44, 33, 43, 40, 40, 91, 78, 93, 91, 78, 93, 60, 91, 78, 93, 78, 44, 35, 49, 44, 91, 78, 93, 91, 78, 93, 43, 35, 48, 44, 35, 48, 62, 32, 48, 41, 32, 35, 49, 41, 62])) w := fun w => add_strE (a := [91, 78, 93, 60, 91, 78, 93, 123, 78, 44, 40, 40, 91, 78, 93, 91, 78, 93, 60, 91, 78, 93, 78, 44, 35, 49, 44, 91, 78, 93, 91, 78, 93, 43, 35, 48, 44, 35, 48, 62, 32, 48, 41, 32, 35, 48, 41, 44, 35, 48, 125, 44, 33, 48, 44]) (b := [91, 78, 93, 91, 123, 78, 44, 40, 40, 91, 78, 93, 91, 78, 93, 60, 91, 78, 93, 78, 44, 35, 49, 44, 91, 78, 93, 91, 78, 93, 43, 35, 48, 44, 35, 48, 62, 32, 48, 41, 32, 35, 48, 41, 44, 35, 48, 125, 93, 64, 60, 91, 78, 93, 123, 78, 44, 43, 40, 40, 91, 78, 93, 91, 78, 93, 60, 91, 78, 93, 78, 44, 35, 49, 44, 91, 78, 93, 91, 78, 93, 43, 35, 48, 44, 35, 48, 62, 32, 48, 41, 32, 35, 50, 41, 44, 43, 35, 48, 125, 44, 35, 48, 44, 33, 43, 40, 40, 91, 78, 93, 91, 78, 93, 60, 91, 78, 93, 78, 44, 35, 49, 44, 91, 78, 93, 91, 78, 93, 43, 35, 48, 44, 35, 48, 62, 32, 48, 41, 32, 35, 49, 41, 62]) rfl (by decide) w
    have a40 : ∀ w, (Op.stringOp .add (byt [91, 78, 93, 60, 91, 78, 93, 123, 78, 44, 40, 40, 91, 78, 93, 91, 78, 93, 60, 91, 78, 93, 78, 44, 35, 49, 44, 91, 78, 93, 91, 78, 93, 43, 35, 48, 44, 35, 48, 62, 32, 48, 41, 32, 35, 48, 41, 44, 35, 48, 125, 44, 33, 48, 44, 91, 78, 93, 91, 123, 78, 44, 40, 40, 91, 78, 93, 91, 78, 93, 60, 91, 78, 93, 78, 44, 35, 49, 44, 91, 78, 93, 91, 78, 93, 43, 35, 48, 44, 35, 48, 62, 32, 48, 41, 32, 35, 48, 41, 44, 35, 48, 125, 93, 64, 60, 91, 78, 93, 123, 78, 44, 43, 40, 40, 91, 78, 93, 91, 78, 93, 60, 91, 78, 93, 78, 44, 35, 49, 44, 91, 78, 93, 91, 78, 93, 43, 35, 48, 44, 35, 48, 62, 32, 48, 41, 32, 35, 50, 41, 44, 43, 35, 48, 125, 44, 35, 48, 44, 33, 43, 40, 40, 91, 78, 93, 91, 78, 93, 60, 91, 78, 93, 78, 44, 35, 49, 44, 91, 78, 93, 91, 78, 93, 43, 35, 48, 44, 35, 48, 62, 32, 48, 41, 32, 35, 49, 41, 62]) ⟨#[44, 35, 48, 62]⟩).run Tryz.prog w = .ok (.string (byt [91, 78, 93, 60, 91, 78, 93, 123, 78, 44, 40, 40, 91, 78, 93, 91, 78, 93, 60, 91, 78, 93, 78, 44, 35, 49, 44, 91, 78, 93, 91, 78, 93, 43, 35, 48, 44, 35, 48, 62, 32, 48, 41, 32, 35, 48, 41, 44, 35, 48, 125, 44, 33, 48, 44, 91, 78, 93, 91, 123, 78, 44, 40, 40, 91, 78, 93, 91, 78, 93, 60, 91, 78, 93, 78, 44, 35, 49, 44, 91, 78, 93, 91, 78, 93, 43, 35, 48, 44, 35, 48, 62, 32, 48, 41, 32, 35, 48, 41, 44, 35, 48, 125, 93, 64, 60, 91, 78, 93, 123, 78, 44, 43, 40, 40, 91, 78, 93, 91, 78, 93, 60, 91, 78, 93, 78, 44, 35, 49, 44, 91, 78, 93, 91, 78, 93, 43, 35, 48, 44, 35, 48, 62, 32, 48, 41, 32, 35, 50, 41, 44, 43, 35, 48, 125, 44, 35, 48, 44, 33, 43, 40, 40, 91, 78, 93, 91, 78, 93, 60, 91, 78, 93, 78, 44, 35, 49, 44, 91, 78, 93, 91, 78, 93, 43, 35, 48, 44, 35, 48, 62, 32, 48, 41, 32, 35, 49, 41, 62, 44, 35, 48, 62])) w := fun w => add_strE (a := [91, 78, 93, 60, 91, 78, 93, 123, 78, 44, 40, 40, 91, 78, 93, 91, 78, 93, 60, 91, 78, 93, 78, 44, 35, 49, 44, 91, 78, 93, 91, 78, 93, 43, 35, 48, 44, 35, 48, 62, 32, 48, 41, 32, 35, 48, 41, 44, 35, 48, 125, 44, 33, 48, 44, 91, 78, 93, 91, 123, 78, 44, 40, 40, 91, 78, 93, 91, 78, 93, 60, 91, 78, 93, 78, 44, 35, 49, 44, 91, 78, 93, 91, 78, 93, 43, 35, 48, 44, 35, 48, 62, 32, 48, 41, 32, 35, 48, 41, 44, 35, 48, 125, 93, 64, 60, 91, 78, 93, 123, 78, 44, 43, 40, 40, 91, 78, 93, 91, 78, 93, 60, 91, 78, 93, 78, 44, 35, 49, 44, 91, 78, 93, 91, 78, 93, 43, 35, 48, 44, 35, 48, 62, 32, 48, 41, 32, 35, 50, 41, 44, 43, 35, 48, 125, 44, 35, 48, 44, 33, 43, 40, 40, 91, 78, 93, 91, 78, 93, 60, 91, 78, 93, 78, 44, 35, 49, 44, 91, 78, 93, 91, 78, 93, 43, 35, 48, 44, 35, 48, 62, 32, 48, 41, 32, 35, 49, 41, 62]) (b := [44, 35, 48, 62]) rfl (by decide) w
    go_enter Tryz.func39, Tryz.ntmps39
    go_wp2_with (first
      | (go_at_call 62; refine (sum1_any _).mono ?_; rintro e w9 ⟨rfl, rfl⟩)
      | (go_at_call 62; refine (sum2_any _).mono ?_; rintro e w9 ⟨rfl, rfl⟩)
      | (go_at_call 62; refine (sum0_any _).mono ?_; rintro e w9 ⟨rfl, rfl⟩))
    go_ret2
    exact ⟨rfl, rfl⟩
  · go_enter Tryz.func39, Tryz.ntmps39
    go_wp2
    go_ret2
    exact ⟨rfl, rfl⟩
  · go_enter Tryz.func39, Tryz.ntmps39
    go_wp2
    go_ret2
    exact ⟨rfl, rfl⟩
  · go_enter Tryz.func39, Tryz.ntmps39
    go_wp2
    go_ret2
    exact ⟨rfl, rfl⟩
  · have q1 : (thm == 1) = false := beq_eq_false_iff_ne.2 h1
    have q2 : (thm == 2) = false := beq_eq_false_iff_ne.2 h2
    have q3 : (thm == 3) = false := beq_eq_false_iff_ne.2 h3
    have q4 : (thm == 4) = false := beq_eq_false_iff_ne.2 h4
    have q5 : (thm == 5) = false := beq_eq_false_iff_ne.2 h5

    clear h1 h2 h3 h4 h5
    go_enter Tryz.func39, Tryz.ntmps39
    go_wp2
    go_ret2
    exact ⟨rfl, rfl⟩
theorem thm_good {thm : Int} {sR pR sB pB : List UInt8} {oS oP : Option Tm} (h : ThmAt thm sR pR sB pB oS oP) :
    Chain sR sB ∧ Chain pR pB ∧ ((∃ t, oS = some t ∧ Good t sB) ∨ (oS = none ∧ sB = [])) ∧ ((∃ t, oP = some t ∧ Good t pB) ∨ (oP = none ∧ pB = [])) := by
  rcases h with ⟨rfl, rfl, rfl, rfl, rfl, rfl, rfl⟩ | ⟨rfl, rfl, rfl, rfl, rfl, rfl, rfl⟩ | ⟨rfl, rfl, rfl, rfl, rfl, rfl, rfl⟩ | ⟨rfl, rfl, rfl, rfl, rfl, rfl, rfl⟩ | ⟨rfl, rfl, rfl, rfl, rfl, rfl, rfl⟩ | ⟨⟨h1, h2, h3, h4, h5⟩, rfl, rfl, rfl, rfl, rfl, rfl⟩
  · exact ⟨thS1_chain, thP1_chain, .inl ⟨_, rfl, thS1_good⟩, .inl ⟨_, rfl, thP1_good⟩⟩
  · exact ⟨thS2_chain, thP2_chain, .inl ⟨_, rfl, thS2_good⟩, .inl ⟨_, rfl, thP2_good⟩⟩
  · exact ⟨thS3_chain, thP3_chain, .inl ⟨_, rfl, thS3_good⟩, .inl ⟨_, rfl, thP3_good⟩⟩
  · exact ⟨thS4_chain, thP4_chain, .inl ⟨_, rfl, thS4_good⟩, .inl ⟨_, rfl, thP4_good⟩⟩
  · exact ⟨thS5_chain, thP5_chain, .inl ⟨_, rfl, thS5_good⟩, .inl ⟨_, rfl, thP5_good⟩⟩
  · exact ⟨chain_nil, chain_nil, .inr ⟨rfl, rfl⟩, .inr ⟨rfl, rfl⟩⟩
theorem iParse_or {o : Option Tm} {b : List UInt8} (h : (∃ t, o = some t ∧ Good t b) ∨ (o = none ∧ b = [])) (w : World) (hm : GM w) : Calls Tryz.prog 60 #[.string (byt b)] w (GotP w o) := by
  rcases h with ⟨t, rfl, h⟩ | ⟨rfl, rfl⟩
  · exact iParse_any h w hm
  · exact iParse_nil w
theorem sParse_or {o : Option Tm} {b : List UInt8} (h : (∃ t, o = some t ∧ Good t b) ∨ (o = none ∧ b = [])) (w : World) : Calls Tryz.prog 40 #[.string (byt b)] w (GotP w o) := by
  rcases h with ⟨t, rfl, h⟩ | ⟨rfl, rfl⟩
  · exact sParse_any h w
  · exact sParse_nil w
set_option maxHeartbeats 2000000 in
theorem iType_any {thm : Int} {sR pR sB pB : List UInt8} {oS oP : Option Tm} (h : ThmAt thm sR pR sB pB oS oP) (w : World) (hm : GM w) : Calls Tryz.prog 14 #[.int .i64 thm] w (GotP w oS) := by
  have h1 := hide (fun w => theorem_any h w)
  have h2 := hide (fun w (hm : GM w) => iRead_of (thm_good h).1 oS (iParse_or (thm_good h).2.2.1) w hm)
  have hm' := hide (hm.alloc (.cells #[.int .i64 0, .int .i64 0, .slice none 0 0] 27))
  clear h hm
  go_enter Tryz.func14, Tryz.ntmps14
  go_wp2_with (first
    | (go_at_call 38; refine (h2.out _ hm'.out).mono ?_; rintro e w3 ⟨k, n, ks, A, c, hk, rfl, hl, hf, hb3⟩; have hk' := hide hk; clear hk; have hZ3 := (Blk.new_ w 27 #[.int .i64 0, .int .i64 0, .slice none 0 0] rfl).keep hb3; obtain ⟨d0, d1, d2⟩ := hZ3.three; have e0 := hZ3.frozen 0; have e1 := hZ3.frozen 1; have e2 := hZ3.frozen 2; have g3 : Below w.heap.size w w3 := ((Below.refl _ _).alloc (Nat.le_refl _) _).trans (hb3.mono (by simp)))
    | (go_at_call 37; refine (h1.out _).mono ?_; rintro e w9 ⟨rfl, rfl⟩))
  refine bodyPost_ret (v := .tuple #[.agg #[.int .i64 k, .int .i64 n, .slice A ks.length c], .bool oS.isSome]) (by simp [results, Tryz.results14, go_sem, d0, d1, d2]) rfl ⟨k, n, ks, A, c, hk'.out, rfl, hl, ?_, ((g3.setCell (by simp) _).setCell (by simp) _).setCell (by simp) _⟩
  exact (((hf.setCell (by simp) _).setCell (by simp) _).setCell (by simp) _).mono (by simp)
set_option maxHeartbeats 2000000 in
theorem iProof_any {thm : Int} {sR pR sB pB : List UInt8} {oS oP : Option Tm} (h : ThmAt thm sR pR sB pB oS oP) (w : World) (hm : GM w) : Calls Tryz.prog 12 #[.int .i64 thm] w (GotP w oP) := by
  have h1 := hide (fun w => theorem_any h w)
  have h2 := hide (fun w (hm : GM w) => iRead_of (thm_good h).2.1 oP (iParse_or (thm_good h).2.2.2) w hm)
  have hm' := hide (hm.alloc (.cells #[.int .i64 0, .int .i64 0, .slice none 0 0] 27))
  clear h hm
  go_enter Tryz.func12, Tryz.ntmps12
  go_wp2_with (first
    | (go_at_call 38; refine (h2.out _ hm'.out).mono ?_; rintro e w3 ⟨k, n, ks, A, c, hk, rfl, hl, hf, hb3⟩; have hk' := hide hk; clear hk; have hZ3 := (Blk.new_ w 27 #[.int .i64 0, .int .i64 0, .slice none 0 0] rfl).keep hb3; obtain ⟨d0, d1, d2⟩ := hZ3.three; have e0 := hZ3.frozen 0; have e1 := hZ3.frozen 1; have e2 := hZ3.frozen 2; have g3 : Below w.heap.size w w3 := ((Below.refl _ _).alloc (Nat.le_refl _) _).trans (hb3.mono (by simp)))
    | (go_at_call 37; refine (h1.out _).mono ?_; rintro e w9 ⟨rfl, rfl⟩))
  refine bodyPost_ret (v := .tuple #[.agg #[.int .i64 k, .int .i64 n, .slice A ks.length c], .bool oP.isSome]) (by simp [results, Tryz.results12, go_sem, d0, d1, d2]) rfl ⟨k, n, ks, A, c, hk'.out, rfl, hl, ?_, ((g3.setCell (by simp) _).setCell (by simp) _).setCell (by simp) _⟩
  exact (((hf.setCell (by simp) _).setCell (by simp) _).setCell (by simp) _).mono (by simp)
set_option maxHeartbeats 2000000 in
theorem sType_any {thm : Int} {sR pR sB pB : List UInt8} {oS oP : Option Tm} (h : ThmAt thm sR pR sB pB oS oP) (w : World) (hm : GM w) : Calls Tryz.prog 29 #[.int .i64 thm] w (GotP w oS) := by
  have h1 := hide (fun w => l17Texts_any h w)
  have h2 := hide (fun w (hm : GM w) => sParse_or (thm_good h).2.2.1 w)
  have hm' := hide (hm.alloc (.cells #[.int .i64 0, .int .i64 0, .slice none 0 0] 27))
  clear h hm
  go_enter Tryz.func29, Tryz.ntmps29
  go_wp2_with (first
    | (go_at_call 40; refine (h2.out _ hm'.out).mono ?_; rintro e w3 ⟨k, n, ks, A, c, hk, rfl, hl, hf, hb3⟩; have hk' := hide hk; clear hk; have hZ3 := (Blk.new_ w 27 #[.int .i64 0, .int .i64 0, .slice none 0 0] rfl).keep hb3; obtain ⟨d0, d1, d2⟩ := hZ3.three; have e0 := hZ3.frozen 0; have e1 := hZ3.frozen 1; have e2 := hZ3.frozen 2; have g3 : Below w.heap.size w w3 := ((Below.refl _ _).alloc (Nat.le_refl _) _).trans (hb3.mono (by simp)))
    | (go_at_call 39; refine (h1.out _).mono ?_; rintro e w9 ⟨rfl, rfl⟩))
  refine bodyPost_ret (v := .tuple #[.agg #[.int .i64 k, .int .i64 n, .slice A ks.length c], .bool oS.isSome]) (by simp [results, Tryz.results29, go_sem, d0, d1, d2]) rfl ⟨k, n, ks, A, c, hk'.out, rfl, hl, ?_, ((g3.setCell (by simp) _).setCell (by simp) _).setCell (by simp) _⟩
  exact (((hf.setCell (by simp) _).setCell (by simp) _).setCell (by simp) _).mono (by simp)
set_option maxHeartbeats 2000000 in
theorem sProof_any {thm : Int} {sR pR sB pB : List UInt8} {oS oP : Option Tm} (h : ThmAt thm sR pR sB pB oS oP) (w : World) (hm : GM w) : Calls Tryz.prog 13 #[.int .i64 thm] w (GotP w oP) := by
  have h1 := hide (fun w => l17Texts_any h w)
  have h2 := hide (fun w (hm : GM w) => sParse_or (thm_good h).2.2.2 w)
  have hm' := hide (hm.alloc (.cells #[.int .i64 0, .int .i64 0, .slice none 0 0] 27))
  clear h hm
  go_enter Tryz.func13, Tryz.ntmps13
  go_wp2_with (first
    | (go_at_call 40; refine (h2.out _ hm'.out).mono ?_; rintro e w3 ⟨k, n, ks, A, c, hk, rfl, hl, hf, hb3⟩; have hk' := hide hk; clear hk; have hZ3 := (Blk.new_ w 27 #[.int .i64 0, .int .i64 0, .slice none 0 0] rfl).keep hb3; obtain ⟨d0, d1, d2⟩ := hZ3.three; have e0 := hZ3.frozen 0; have e1 := hZ3.frozen 1; have e2 := hZ3.frozen 2; have g3 : Below w.heap.size w w3 := ((Below.refl _ _).alloc (Nat.le_refl _) _).trans (hb3.mono (by simp)))
    | (go_at_call 39; refine (h1.out _).mono ?_; rintro e w9 ⟨rfl, rfl⟩))
  refine bodyPost_ret (v := .tuple #[.agg #[.int .i64 k, .int .i64 n, .slice A ks.length c], .bool oP.isSome]) (by simp [results, Tryz.results13, go_sem, d0, d1, d2]) rfl ⟨k, n, ks, A, c, hk'.out, rfl, hl, ?_, ((g3.setCell (by simp) _).setCell (by simp) _).setCell (by simp) _⟩
  exact (((hf.setCell (by simp) _).setCell (by simp) _).setCell (by simp) _).mono (by simp)
end Go.Proofs.YthgmofdfecioaaaGreatDoor
