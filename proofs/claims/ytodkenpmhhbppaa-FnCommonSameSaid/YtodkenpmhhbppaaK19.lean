/-
  Texts that are common to the laws: SNorm, L3DrawV. No condition.
-/
import Derived.Test.YtodkenpmhhbppaaK8
import Derived.Test.YtodkenpmhhbppaaK11
import Derived.Test.YtodkenpmhhbppaaK16
import Derived.Test.YtodkenpmhhbppaaK18

namespace Go.Proofs.Ytodkenpmhhbppaa
open Go.RowKit
set_option linter.unusedSimpArgs false
set_option linter.unusedVariables false

theorem not_false_true {b : Bool} (h : (!b) = false) : b = true := by cases b with | true => rfl | false => cases h
/-- a term that is valid if the code is none of those -/
def Oned (bad : Int → Prop) (w : World) (e : Ending) (w' : World) : Prop :=
  ∃ (k n : Int) (ks : List Tm) (A : Option Addr) (c code : Nat), e = .returned (.tuple #[.agg #[.int .i64 k, .int .i64 n, .slice A ks.length c], .int .i64 code]) ∧ code ≤ 2 ∧ ks.length ≤ 9223372036854775807 ∧ sizes ks ≤ 400 ∧ (¬ bad code → validT (.mk k n ks) = true) ∧ RdP (fun x => w.heap.size ≤ x) w' A 0 ks ∧ Below w.heap.size w w'
set_option maxHeartbeats 4000000 in
set_option maxRecDepth 100000 in
theorem sOne_any (hC : Contract3) (k n : Int) (ks : List Tm) (A : Option Addr) (c : Nat) (w : World) (hv : validT (.mk k n ks) = true) (hl : ks.length ≤ 9223372036854775807) (hr : Rd w A 0 ks) :
    Calls Try.prog 133 #[.agg #[.int .i64 k, .int .i64 n, .slice A ks.length c], .bool false] w (Oned (· = 2) w) := by
  have hM := validT_size' hv
  have hsh := hide (validT_shape hv)
  have hv' := hide hv
  clear hv
  go_enter Try.func133, Try.ntmps133
  go_wp2_with (go_at_call 150; refine (sStep_any hC _ 30 k n ks A c _ (by omega) (Nat.lt_succ_self _) hM hsh.out (((hr.alloc _).alloc _))).mono ?_; rintro e w1 ⟨k2, n2, ks2, A2, c2, bb, rfl, hl2, hs2, hr2, hb1⟩; have hB := (((Blk.new_ w 25 #[.int .i64 k, .int .i64 n, .slice A ks.length c] rfl).alloc (.cells #[.int .i64 0, .int .i64 0, .slice none 0 0] 25)).keep hb1).alloc (.cells #[.int .i64 k2, .int .i64 n2, .slice A2 ks2.length c2] 25); have hZ : Blk (w1.alloc (.cells #[.int .i64 k2, .int .i64 n2, .slice A2 ks2.length c2] 25)) (w.heap.size + 1) #[.int .i64 0, .int .i64 0, .slice none 0 0] := ((Blk.new_ (w.alloc (.cells #[.int .i64 k, .int .i64 n, .slice A ks.length c] 25)) 25 #[.int .i64 0, .int .i64 0, .slice none 0 0] (by simp)).keep hb1).alloc _; have g1 : Below w.heap.size w w1 := (((Below.refl _ _).alloc (Nat.le_refl _) _).alloc (by simp) _).trans (hb1.mono (by simp; omega)); have s1 : w.heap.size + 2 ≤ w1.heap.size := (by have := hb1.size; simpa using this); have g2 := g1.alloc g1.size (.cells #[.int .i64 k2, .int .i64 n2, .slice A2 ks2.length c2] 25); have hK := Blk.new_ w1 25 #[.int .i64 k2, .int .i64 n2, .slice A2 ks2.length c2] rfl; obtain ⟨x0, x1, x2⟩ := hB.three; obtain ⟨y0, y1, y2⟩ := hK.three)
  · refine (sCopy_any _ k n ks A c _ (Nat.lt_succ_self _) (by omega) ((hr.below g1).alloc _)).mono ?_
    rintro e w3 ⟨A3, c3, rfl, hl3, hf3, hb3⟩
    replace hZ := hZ.keep hb3
    obtain ⟨d0, d1, d2⟩ := hZ.three
    have e0 := hZ.frozen 0
    have e1 := hZ.frozen 1
    have e2 := hZ.frozen 2
    replace g2 := g2.trans (hb3.mono g2.size)
    go_wp2_with fail
    refine bodyPost_ret (v := .tuple #[.agg #[.int .i64 k, .int .i64 n, .slice A3 ks.length c3], .int .i64 0]) (by simp [results, Try.results133, go_sem, d0, d1, d2]) rfl ⟨k, n, ks, A3, c3, 0, rfl, by omega, hl3, by omega, fun _ => hv'.out, ?_, ?_⟩
    · exact (Fresh.rdp (((hf3.setCell (by simp; omega) _).setCell (by simp; omega) _).setCell (by simp; omega) _)).mono (fun b hb => by have := hb.1; simp at this; omega)
    · exact ((g2.setCell (by simp) _).setCell (by simp) _).setCell (by simp) _
  · have hbb : bb = true := not_false_true (by assumption)
    have hrx : RdP (fun x => w.heap.size + 2 ≤ x) w1 A2 0 ks2 := hr2.mono (fun x hx => by rw [hbb] at hx; simp at hx; omega)
    clear hr2
    obtain ⟨vv, hvv0⟩ : ∃ vv, validT (.mk k2 n2 ks2) = vv := ⟨_, rfl⟩
    have hvv := hide hvv0
    refine (sTermValid_any k2 n2 ks2 A2 c2 _ (by omega) (hrx.alloc _).rd).mono ?_
    rw [hvv0]
    rintro e w3 ⟨rfl, hb3⟩
    clear hvv0
    replace hZ := hZ.keep hb3
    replace hK := hK.keep hb3
    clear y0 y1 y2
    obtain ⟨y0, y1, y2⟩ := hK.three
    obtain ⟨d0, d1, d2⟩ := hZ.three
    have e0 := hZ.frozen 0
    have e1 := hZ.frozen 1
    have e2 := hZ.frozen 2
    replace g2 := g2.trans (hb3.mono g2.size)
    have hrx3 := (hrx.alloc (.cells #[.int .i64 k2, .int .i64 n2, .slice A2 ks2.length c2] 25)).below hb3
    cases vv with
    | false =>
      go_wp2_with fail
      refine bodyPost_ret (v := .tuple #[.agg #[.int .i64 0, .int .i64 0, .slice none 0 0], .int .i64 2]) (by simp [results, Try.results133, go_sem, d0, d1, d2]) rfl ⟨0, 0, [], none, 0, 2, rfl, by omega, by simp, by simp [sizes], fun h => absurd rfl h, RdP.nil, ?_⟩
      exact ((g2.setCell (by simp) _).setCell (by simp) _).setCell (by simp) _
    | true =>
      have hs400 := validT_size' hvv.out
      go_wp2_with fail
      refine bodyPost_ret (v := .tuple #[.agg #[.int .i64 k2, .int .i64 n2, .slice A2 ks2.length c2], .int .i64 1]) (by simp [results, Try.results133, go_sem, d0, d1, d2]) rfl ⟨k2, n2, ks2, A2, c2, 1, rfl, by omega, hl2, hs400, fun _ => hvv.out, ?_, ?_⟩
      · exact (((hrx3.setCell (by simp) _).setCell (by simp) _).setCell (by simp) _).mono (fun b hb => by omega)
      · exact ((g2.setCell (by simp) _).setCell (by simp) _).setCell (by simp) _
set_option maxHeartbeats 4000000 in
set_option maxRecDepth 100000 in
theorem sNorm_any (hC : Contract3) (k n : Int) (ks : List Tm) (A : Option Addr) (c : Nat) (F : Nat) (hF : F ≤ 1000) (w : World) (hv : validT (.mk k n ks) = true) (hl : ks.length ≤ 9223372036854775807) (hr : Rd w A 0 ks) :
    Calls Try.prog 88 #[.agg #[.int .i64 k, .int .i64 n, .slice A ks.length c], .int .i64 F, .bool false] w (Oned (· ≠ 0) w) := by
  go_enter Try.func88, Try.ntmps88
  go_wp2_with fail
  go_loopw [1, 8, 9] (fun fv _ _ wr => ∃ (f : Nat) (k n : Int) (ks : List Tm) (A : Option Addr) (c : Nat), f ≤ F ∧ fv = .int .i64 f ∧ validT (.mk k n ks) = true ∧ ks.length ≤ 9223372036854775807 ∧ Blk wr w.heap.size #[.int .i64 k, .int .i64 n, .slice A ks.length c] ∧ Blk wr (w.heap.size + 1) #[.int .i64 0, .int .i64 0, .slice none 0 0] ∧ RdP (fun b => b < w.heap.size ∨ w.heap.size + 2 ≤ b) wr A 0 ks ∧ Below w.heap.size w wr)
    (fun fv _ _ _ => (intOf fv).toNat)
  case atStart => exact ⟨F, k, n, ks, A, c, Nat.le_refl _, rfl, hv, hl, (Blk.new_ _ _ _ rfl).alloc _, Blk.new_ _ _ _ (by simp), ((hr.rdp.alloc _).alloc _).mono (fun b hb => .inl hb), ((Below.refl _ _).alloc (by simp) _).alloc (by simp) _⟩
  case round =>
    clear hv hl hr
    obtain ⟨f, k, n, ks, A, c, hf, rfl, hv, hl, hB, hZ, hrd, hb⟩ := hrel
    have hv' := hide hv
    clear hv
    obtain ⟨x0, x1, x2⟩ := hB.three
    have lz0 := hZ.lt
    go_wp2_with (go_at_call 133; refine (sOne_any hC k n ks A c _ hv'.out hl hrd.rd).mono ?_; rintro e w1 ⟨k2, n2, ks2, A2, c2, code, rfl, hcd, hl2, hs2, hv2, hr2, hb1⟩; replace hB := (hB.keep hb1).alloc (.cells #[.int .i64 k2, .int .i64 n2, .slice A2 ks2.length c2] 25); replace hZ := (hZ.keep hb1).alloc (.cells #[.int .i64 k2, .int .i64 n2, .slice A2 ks2.length c2] 25); have s1 := hb1.size; have g1 := (hb.trans (hb1.mono hb.size)).alloc (by have := hb.size; omega) (.cells #[.int .i64 k2, .int .i64 n2, .slice A2 ks2.length c2] 25); have hK := Blk.new_ w1 25 #[.int .i64 k2, .int .i64 n2, .slice A2 ks2.length c2] rfl; have hr3 := (hr2.alloc (.cells #[.int .i64 k2, .int .i64 n2, .slice A2 ks2.length c2] 25)).mono (q := fun b => w.heap.size + 2 ≤ b) (fun b hb => by omega); have hv3 := hide hv2; clear hv2 x0 x1 x2; obtain ⟨x0, x1, x2⟩ := hB.three; obtain ⟨y0, y1, y2⟩ := hK.three; obtain ⟨d0, d1, d2⟩ := hZ.three; have e0 := hZ.frozen 0; have e1 := hZ.frozen 1; have e2 := hZ.frozen 2; have z0 := hB.frozen 0; have z1 := hB.frozen 1; have z2 := hB.frozen 2)
    · have hc0 : code = 0 := by rename_i h0; have := eq_of_beq h0; omega
      refine bodyPost_ret (v := .tuple #[.agg #[.int .i64 k2, .int .i64 n2, .slice A2 ks2.length c2], .int .i64 0]) (by simp [results, Try.results88, go_sem, d0, d1, d2]) rfl ⟨k2, n2, ks2, A2, c2, 0, rfl, by omega, hl2, hs2, fun _ => hv3.out (by omega), ?_, ?_⟩
      · exact (((hr3.setCell (by simp) _).setCell (by simp) _).setCell (by simp) _).mono (fun b hb => by omega)
      · exact ((g1.setCell (by simp) _).setCell (by simp) _).setCell (by simp) _
    · refine bodyPost_ret (v := .tuple #[.agg #[.int .i64 0, .int .i64 0, .slice none 0 0], .int .i64 1]) (by simp [results, Try.results88, go_sem, d0, d1, d2]) rfl ⟨0, 0, [], none, 0, 1, rfl, by omega, by simp, by simp [sizes], fun h => absurd (by decide) h, RdP.nil, ?_⟩
      exact ((g1.setCell (by simp) _).setCell (by simp) _).setCell (by simp) _
    · refine bodyPost_ret (v := .tuple #[.agg #[.int .i64 0, .int .i64 0, .slice none 0 0], .int .i64 2]) (by simp [results, Try.results88, go_sem, d0, d1, d2]) rfl ⟨0, 0, [], none, 0, 2, rfl, by omega, by simp, by simp [sizes], fun h => absurd (by decide) h, RdP.nil, ?_⟩
      exact ((g1.setCell (by simp) _).setCell (by simp) _).setCell (by simp) _
    · have hc2 : ¬ (code : Int) = 2 := by rename_i h0; exact ne_of_beq_false h0
      have hf1 : 1 ≤ f := by omega
      refine ⟨⟨f - 1, k2, n2, ks2, A2, c2, by omega, by go_num, hv3.out hc2, hl2, ((hB.set_ 0 _).set_ 1 _).set_ 2 _, ((hZ.far (by simp) _).far (by simp) _).far (by simp) _, (((hr3.setCell (by simp) _).setCell (by simp) _).setCell (by simp) _).mono (fun b hb => .inr hb), ((g1.setCell (by simp) _).setCell (by simp) _).setCell (by simp) _⟩, by simp [intOf]; omega⟩
end Go.Proofs.Ytodkenpmhhbppaa

namespace Go.Proofs.Ytodkenpmhhbppaa
open Go.RowKit
set_option linter.unusedSimpArgs false
set_option linter.unusedVariables false

/-- a valid term that has been drawn -/
def DrawnV (B : Nat) (w : World) (r p q : Nat) (e : Ending) (w' : World) : Prop :=
  ∃ (k n : Int) (ks : List Tm) (A : Option Addr) (c p' : Nat), e = .returned (.agg #[.int .i64 k, .int .i64 n, .slice A ks.length c]) ∧ ks.length ≤ 9223372036854775807 ∧ validT (.mk k n ks) = true ∧ p' ≤ p + q ∧ Fresh w.heap.size w' A ks ∧ Rdr B w' r p' ∧ w.grownBy w' (some r)
set_option maxHeartbeats 4000000 in
set_option maxRecDepth 100000 in
theorem anyV_any (B r p : Nat) (w : World) (hp : p ≤ 900000000) (hB : B ≤ w.heap.size) (hr : Rdr B w r p) : Calls Try.prog 53 #[.pointer (some ⟨r, 0, none⟩)] w (DrawnV B w r p 1024) := by
  have hrl := hr.lt
  go_enter Try.func53, Try.ntmps53
  go_wp2_with (first
    | (go_at_call 98; refine (sLeaf_any _ _ _).mono ?_; rintro e w5 ⟨rfl, hb5⟩; have tok : True := trivial; replace hZ := hZ.keep hb5; have d0 := hZ.at_ (i := 0) rfl; have d1 := hZ.at_ (i := 1) rfl; have d2 := hZ.at_ (i := 2) rfl; have e0 := hZ.frozen 0; have e1 := hZ.frozen 1; have e2 := hZ.frozen 2)
    | (go_at_call 60; refine (sTermValid_any k n ks A c _ (by omega) (hf.rd.alloc _)).mono ?_; rintro e w4 ⟨rfl, hb4⟩; have hX := (Blk.new_ w2 25 #[.int .i64 k, .int .i64 n, .slice A ks.length c] rfl).keep hb4; replace hZ := (hZ.alloc _).keep hb4; have x0 := hX.at_ (i := 0) rfl; have x1 := hX.at_ (i := 1) rfl; have x2 := hX.at_ (i := 2) rfl; have d0 := hZ.at_ (i := 0) rfl; have d1 := hZ.at_ (i := 1) rfl; have d2 := hZ.at_ (i := 2) rfl; have e0 := hZ.frozen 0; have e1 := hZ.frozen 1; have e2 := hZ.frozen 2; have lx := hX.lt; have lz := hZ.lt)
    | (go_at_call 75; refine (draw_any d B r (p + 1) _ (by omega) (by omega) hr1).mono ?_; rintro e w2 ⟨k, n, ks, A, c, p2, rfl, hl2, hs2, hp2, hf, hr2, hg2⟩; replace hZ := hZ.grown hg2 (by simp; omega); have lz2 := hZ.lt; have g2 := grown_trans g1 hg2; have s2 := hg2.size)
    | (go_at_call 76; refine (num_any [3, 4, 2, 3, 1] B r p (w.heap.size + 1) _ (by decide) (by decide) (by omega) (by simp; omega) ((hr.alloc (by omega) _).alloc (by simp; omega) _) (Blk.new_ _ 3 _ (by simp)) (by omega)).mono ?_; rintro e w1 ⟨x, hx, rfl, hr1, hg1⟩; obtain ⟨d, rfl, hd⟩ := any_depth hx; have hkd := kd4 hd; have hZ : Blk w1 w.heap.size #[.int .i64 0, .int .i64 0, .slice none 0 0] := ((Blk.new_ w 25 #[.int .i64 0, .int .i64 0, .slice none 0 0] rfl).alloc _).grown hg1 (by simp; omega); have g1 : w.grownBy w1 (some r) := grown_trans (only_alloc (only_alloc (World.grownBy.refl _ _) _) _) hg1; have s1 := g1.size; have lz1 := hZ.lt))
  · have r4 := (hr2.alloc (by omega) (.cells #[.int .i64 k, .int .i64 n, .slice A ks.length c] 25)).below hb4 (by simp; omega)
    have g4 := only_below (only_alloc g2 (.cells #[.int .i64 k, .int .i64 n, .slice A ks.length c] 25)) hb4
    have f4 := (hf.alloc (.cells #[.int .i64 k, .int .i64 n, .slice A ks.length c] 25)).below hb4
    refine bodyPost_ret (v := .agg #[.int .i64 k, .int .i64 n, .slice A ks.length c]) (by simp [results, Try.results53, go_sem, d0, d1, d2]) rfl ⟨k, n, ks, A, c, p2, rfl, hl2, by assumption, by omega, ?_, ?_, ?_⟩
    · exact (((f4.setCell (by simp; omega) _).setCell (by simp; omega) _).setCell (by simp; omega) _).mono (by omega)
    · exact ((r4.setCell (by simp; omega) _).setCell (by simp; omega) _).setCell (by simp; omega) _
    · exact only_setCell (only_setCell (only_setCell g4 (.inr (by simp)) _) (.inr (by simp)) _) (.inr (by simp)) _
  · have r4 := ((hr2.alloc (by omega) (.cells #[.int .i64 k, .int .i64 n, .slice A ks.length c] 25)).below hb4 (by simp; omega)).below hb5 (by have := hb4.size; simp at this; omega)
    have g4 := only_below (only_below (only_alloc g2 (.cells #[.int .i64 k, .int .i64 n, .slice A ks.length c] 25)) hb4) hb5
    refine bodyPost_ret (v := .agg #[.int .i64 7, .int .i64 0, .slice none 0 0]) (by simp [results, Try.results53, go_sem, d0, d1, d2]) rfl ⟨7, 0, [], none, 0, p2, rfl, by simp, by decide, by omega, Fresh.nil, ?_, ?_⟩
    · exact ((r4.setCell (by simp; omega) _).setCell (by simp; omega) _).setCell (by simp; omega) _
    · exact only_setCell (only_setCell (only_setCell g4 (.inr (by simp)) _) (.inr (by simp)) _) (.inr (by simp)) _
set_option maxHeartbeats 8000000 in
set_option maxRecDepth 100000 in
theorem l3drawV_any (B r p : Nat) (w : World) (hp : p ≤ 890000000) (hB : B ≤ w.heap.size) (hr : Rdr B w r p) : Calls Try.prog 78 #[.pointer (some ⟨r, 0, none⟩)] w (DrawnV B w r p 1030) := by
  have hrl := hr.lt
  have a1 : ∀ w, (Op.stringOp .add ⟨#[40]⟩ (byt plusX)).run Try.prog w = .ok (.string (byt [40, 91, 78, 93, 91, 78, 93, 60, 91, 78, 93, 78, 44, 35, 49, 44, 91, 78, 93, 91, 78, 93, 43, 35, 48, 44, 35, 48, 62])) w := fun w => add_strE (a := [40]) (b := plusX) rfl (by decide) w
  have a2 : ∀ w, (Op.stringOp .add (byt [40, 91, 78, 93, 91, 78, 93, 60, 91, 78, 93, 78, 44, 35, 49, 44, 91, 78, 93, 91, 78, 93, 43, 35, 48, 44, 35, 48, 62]) ⟨#[32, 43, 43, 48, 41]⟩).run Try.prog w = .ok (.string (byt [40, 91, 78, 93, 91, 78, 93, 60, 91, 78, 93, 78, 44, 35, 49, 44, 91, 78, 93, 91, 78, 93, 43, 35, 48, 44, 35, 48, 62, 32, 43, 43, 48, 41])) w := fun w => add_strE (a := [40, 91, 78, 93, 91, 78, 93, 60, 91, 78, 93, 78, 44, 35, 49, 44, 91, 78, 93, 91, 78, 93, 43, 35, 48, 44, 35, 48, 62]) (b := [32, 43, 43, 48, 41]) rfl (by decide) w
  have a3 : ∀ w, (Op.stringOp .add ⟨#[40, 40]⟩ (byt plusX)).run Try.prog w = .ok (.string (byt [40, 40, 91, 78, 93, 91, 78, 93, 60, 91, 78, 93, 78, 44, 35, 49, 44, 91, 78, 93, 91, 78, 93, 43, 35, 48, 44, 35, 48, 62])) w := fun w => add_strE (a := [40, 40]) (b := plusX) rfl (by decide) w
  have a4 : ∀ w, (Op.stringOp .add (byt [40, 40, 91, 78, 93, 91, 78, 93, 60, 91, 78, 93, 78, 44, 35, 49, 44, 91, 78, 93, 91, 78, 93, 43, 35, 48, 44, 35, 48, 62]) ⟨#[32, 43, 43, 48, 41, 32, 43, 48, 41]⟩).run Try.prog w = .ok (.string (byt [40, 40, 91, 78, 93, 91, 78, 93, 60, 91, 78, 93, 78, 44, 35, 49, 44, 91, 78, 93, 91, 78, 93, 43, 35, 48, 44, 35, 48, 62, 32, 43, 43, 48, 41, 32, 43, 48, 41])) w := fun w => add_strE (a := [40, 40, 91, 78, 93, 91, 78, 93, 60, 91, 78, 93, 78, 44, 35, 49, 44, 91, 78, 93, 91, 78, 93, 43, 35, 48, 44, 35, 48, 62]) (b := [32, 43, 43, 48, 41, 32, 43, 48, 41]) rfl (by decide) w
  go_enter Try.func78, Try.ntmps78
  go_wp2_with (first
    | (go_at_call 110; refine (parseTerm_any hgood.out _).mono ?_; rintro e w2 ⟨A2, c2, rfl, hl2, hf2, hb2⟩; have tok2 := trivial)
    | (go_at_call 122; refine (of_any drwsX B r p (w.heap.size + 1) _ (by decide) (by decide) (by omega) (by simp; omega) ((hr.alloc (by omega) _).alloc (by simp; omega) _) (Blk.new_ _ 9 (strs drwsX) (by simp)) (by omega)).mono ?_; rintro e w1 ⟨m, hm, rfl, hr1, hg1⟩; have hm13 : m < drws.length := hm; obtain ⟨k, n, ks, hk⟩ := tm_eta drws[m]; have hgood := hide (drws_good.at_ m (.mk k n ks) drwsX[m] (by rw [List.getElem?_eq_getElem hm13, hk]) (List.getElem?_eq_getElem hm)); have hsm := drws_small (k := k) (n := n) (ks := ks) (hk ▸ List.getElem_mem hm13); clear hk; have hZ : Blk w1 w.heap.size #[.int .i64 0, .int .i64 0, .slice none 0 0] := ((Blk.new_ w 25 #[.int .i64 0, .int .i64 0, .slice none 0 0] rfl).alloc _).grown hg1 (by simp; omega); have g1 : w.grownBy w1 (some r) := grown_trans (only_alloc (only_alloc (World.grownBy.refl _ _) _) _) hg1; have s1 := g1.size; have lz1 := hZ.lt)
    | (go_at_call 123; refine (plus_any _).mono ?_; rintro e w' ⟨rfl, rfl⟩))
  replace hZ := hZ.keep hb2
  have g2 := only_below g1 hb2
  have s2 := hb2.size
  refine (pick_any B r (p + 1) 3 _ (by omega) (by omega) (by simp; omega) ((hr1.below hb2 (by omega)).alloc (by omega) _)).mono ?_
  rintro e w3 ⟨m3, rfl, hm3, hm30, hr3, hg3⟩
  clear hm3 hm30
  have hX := (Blk.new_ w2 25 #[.int .i64 k, .int .i64 n, .slice A2 ks.length c2] rfl).grown hg3 (by simp; omega)
  replace hZ := (hZ.alloc (.cells #[.int .i64 k, .int .i64 n, .slice A2 ks.length c2] 25)).grown hg3 (by simp; omega)
  have g3 := grown_trans (only_alloc g2 (.cells #[.int .i64 k, .int .i64 n, .slice A2 ks.length c2] 25)) hg3
  have s3 := g3.size
  have f3 := (hf2.alloc (.cells #[.int .i64 k, .int .i64 n, .slice A2 ks.length c2] 25)).keep (fun b h1 h2 => hg3.block b h2 (by simp; omega))
  obtain ⟨x0, x1, x2⟩ := hX.three
  have lx := hX.lt
  have lz := hZ.lt
  by_cases h0 : m3 = 0
  · have q0 : ¬ 0 < m3 := by omega
    clear h0
    go_wp2_with (go_at_call 53; refine (anyV_any B r (p + 1 + 1) _ (by omega) (by omega) hr3).mono ?_; rintro e w4 ⟨k4, n4, ks4, A4, c4, p4, rfl, hl4, hs4, hp4, hf4, hr4, hg4⟩; replace hZ := hZ.grown hg4 (by simp; omega); obtain ⟨d0, d1, d2⟩ := hZ.three; have e0 := hZ.frozen 0; have e1 := hZ.frozen 1; have e2 := hZ.frozen 2)
    have g4 := grown_trans g3 hg4
    refine bodyPost_ret (v := .agg #[.int .i64 k4, .int .i64 n4, .slice A4 ks4.length c4]) (by simp [results, Try.results78, go_sem, d0, d1, d2]) rfl ⟨k4, n4, ks4, A4, c4, p4, rfl, hl4, hs4, by omega, ?_, ?_, ?_⟩
    · exact (((hf4.setCell (by simp; omega) _).setCell (by simp; omega) _).setCell (by simp; omega) _).mono (by omega)
    · exact ((hr4.setCell (by simp; omega) _).setCell (by simp; omega) _).setCell (by simp; omega) _
    · exact only_setCell (only_setCell (only_setCell g4 (.inr (by simp)) _) (.inr (by simp)) _) (.inr (by simp)) _
  · have q0 : 0 < m3 := by omega
    clear h0
    obtain ⟨d0, d1, d2⟩ := hZ.three
    have e0 := hZ.frozen 0
    have e1 := hZ.frozen 1
    have e2 := hZ.frozen 2
    go_wp2_with fail
    refine bodyPost_ret (v := .agg #[.int .i64 k, .int .i64 n, .slice A2 ks.length c2]) (by simp [results, Try.results78, go_sem, d0, d1, d2]) rfl ⟨k, n, ks, A2, c2, _, rfl, hl2, hgood.out.2.1, (by omega : p + 1 + 1 ≤ p + 1030), ?_, ?_, ?_⟩
    · exact (((f3.setCell (by simp; omega) _).setCell (by simp; omega) _).setCell (by simp; omega) _).mono (by omega)
    · exact ((hr3.setCell (by simp; omega) _).setCell (by simp; omega) _).setCell (by simp; omega) _
    · exact only_setCell (only_setCell (only_setCell g3 (.inr (by simp)) _) (.inr (by simp)) _) (.inr (by simp)) _
end Go.Proofs.Ytodkenpmhhbppaa
