/-
  Texts of this claim, merged: contracts of the functions that the law reaches. No condition.
-/
import Derived.Test.YtjpgdfndlmipcaaDoorK1
import Derived.Test.YtjpgdfndlmipcaaDoorK2
import Derived.Test.YtjpgdfndlmipcaaDoorK5
import Derived.Test.YtjpgdfndlmipcaaDoorK6
import Derived.Test.YtjpgdfndlmipcaaDoorK7
import Derived.WalkSpells
import Derived.WalkLawsBesides
import Derived.Handed
import Derived.HandedShaped
import Derived.Shelf.Vars

namespace Go.Proofs.YtjpgdfndlmipcaaDoor.Cd
open Go.RowKit
set_option linter.unusedSimpArgs false
set_option linter.unusedVariables false

/-- a code, drawn, in new blocks -/
def DrawnCP (w : World) (e : Ending) (w' : World) : Prop :=
  ∃ (k n : Int) (ks : List Tm) (A : Option Addr) (c : Nat), e = .returned (.agg #[.int .i64 k, .int .i64 n, .slice A ks.length c]) ∧ ks.length ≤ 9223372036854775807 ∧ sizes ks ≤ 5000 ∧ RdP (fun b => w.heap.size ≤ b) w' A 0 ks ∧ Below w.heap.size w w'
set_option maxHeartbeats 4000000 in
set_option maxRecDepth 100000 in
theorem drawCV_any (bs : List Int) (A : Option Addr) (c : Nat) (w : World) (hl : bs.length ≤ 9223372036854775807) (hc : bs.length ≤ c) (hr : RdY w A bs) : Calls Tryd.prog 20 #[.slice A bs.length c] w (DrawnCP w) := by
  go_enter Tryd.func20, Tryd.ntmps20
  go_wp2_with (first
    | (go_at_call 17; have _t := tok2; refine (mutate_any w1.heap.size r p2 k n ks A2 c2 _ (by omega) (by omega) hr2 (by omega) hk2.rd).mono ?_; rintro e w3 ⟨k3, n3, ks3, A3, c3, p3, rfl, hl3, hs3, hp3, hk3, hr3, hg3⟩; have s3 := hg3.size; have g3 := grown_trans hg2 hg3; replace hZ := hZ.grown hg3 (by simp; omega); obtain ⟨d0, d1, d2⟩ := hZ.three; have e0 := hZ.frozen 0; have e1 := hZ.frozen 1; have e2 := hZ.frozen 2)
    | (go_at_call 15; have _t := tok; refine (cdraw_any w1.heap.size r 0 _ (by omega) (Nat.le_refl _) hr1).mono ?_; rintro e w2 ⟨k, n, ks, A2, c2, p2, rfl, hl2, hs2, hp2, hk2, hr2, hg2⟩; have s2 := hg2.size; replace hZ := hZ.grown hg2 (by simp; omega); have tok2 := trivial)
    | (go_at_call 14; refine (open_any bs A c _ hl hc (hr.keeps (.alloc _ _))).mono ?_; rintro e w1 ⟨r, rfl, hr0, hrlt, hr1, hb1⟩; have hZ := (Blk.new_ w 25 #[.int .i64 0, .int .i64 0, .slice none 0 0] rfl).keep hb1; have g1 : Below w.heap.size w w1 := ((Below.refl _ _).alloc (Nat.le_refl _) _).trans (hb1.mono (by simp)); have s1 : w.heap.size + 1 ≤ w1.heap.size := (by have := hb1.size; simpa using this); have hr0' : w.heap.size + 1 ≤ r := (by simpa using hr0); have tok := trivial))
  refine bodyPost_ret (v := .agg #[.int .i64 k3, .int .i64 n3, .slice A3 ks3.length c3]) (by simp [results, Tryd.results20, go_sem, d0, d1, d2]) rfl ⟨k3, n3, ks3, A3, c3, rfl, hl3, by omega, ?_, ?_⟩
  · exact (((hk3.setCell (by simp; omega) _).setCell (by simp; omega) _).setCell (by simp; omega) _).mono (fun b hb => by have h1 := hb.1; omega)
  · exact (((g1.trans (grown_below g3 (by omega) (by omega))).setCell (by simp) _).setCell (by simp) _).setCell (by simp) _
set_option maxHeartbeats 2000000 in
set_option maxRecDepth 100000 in
theorem drawFC_any (bs : List Int) (A : Option Addr) (c : Nat) (w : World) (hl : bs.length ≤ 9223372036854775807) (hc : bs.length ≤ c) (hr : RdY w A bs) : Calls Tryd.prog 9 #[.slice A bs.length c] w (DrawnCP w) := by
  go_enter Tryd.func9, Tryd.ntmps9
  go_wp2_with (go_at_call 20; refine (drawCV_any bs A c _ hl hc (hr.keeps (.alloc _ _))).mono ?_; rintro e w1 ⟨k, n, ks, A1, c1, rfl, hl1, hs1, hr1, hb1⟩; have hZ := (Blk.new_ w 25 #[.int .i64 0, .int .i64 0, .slice none 0 0] rfl).keep hb1; obtain ⟨d0, d1, d2⟩ := hZ.three; have e0 := hZ.frozen 0; have e1 := hZ.frozen 1; have e2 := hZ.frozen 2; have g1 : Below w.heap.size w w1 := ((Below.refl _ _).alloc (Nat.le_refl _) _).trans (hb1.mono (by simp)))
  refine bodyPost_ret (v := .agg #[.int .i64 k, .int .i64 n, .slice A1 ks.length c1]) (by simp [results, Tryd.results9, go_sem, d0, d1, d2]) rfl ⟨k, n, ks, A1, c1, rfl, hl1, hs1, ?_, ?_⟩
  · exact (((hr1.setCell (by simp) _).setCell (by simp) _).setCell (by simp) _).mono (fun b hb => by simp at hb; omega)
  · exact ((g1.setCell (by simp) _).setCell (by simp) _).setCell (by simp) _
end Go.Proofs.YtjpgdfndlmipcaaDoor.Cd

namespace Go.Proofs.YtjpgdfndlmipcaaDoor.Cd
open Go.RowKit
set_option linter.unusedSimpArgs false
set_option linter.unusedVariables false

theorem byt_inj {a b : List UInt8} (h : byt a = byt b) : a = b := by
  have := congrArg (fun x : ByteArray => x.data.toList) h
  simpa [byt] using this
theorem byt_ne {b : List UInt8} (h : b ≠ []) : byt b ≠ ⟨#[]⟩ := fun e => h (byt_inj (b := []) e)
theorem byt_empty (b : List UInt8) : (byt b).toList.isEmpty = b.isEmpty := by simp [byt]
set_option maxHeartbeats 8000000 in
set_option maxRecDepth 100000 in
theorem lawFormatCode_any (bs : List Int) (A : Option Addr) (c : Nat) (w : World) (hl : bs.length ≤ 9223372036854775807) (hc : bs.length ≤ c) (hr : RdY w A bs) (hm : GM w) :
    Calls Tryd.prog 4 #[.slice A bs.length c] w fun e w' => e = .returned (.bool true) ∧ Below w.heap.size w w' := by
  by_cases hbig : 1048576 < bs.length
  · go_enter Tryd.func4, Tryd.ntmps4
    go_wp2_with fail
    go_ret
    exact ⟨rfl, Below.refl _ _⟩
  · go_enter Tryd.func4, Tryd.ntmps4
    go_wp2_with (go_at_call 9; refine (drawFC_any bs A c _ hl hc hr).mono ?_; rintro e w1 ⟨k, n, ks, A1, c1, rfl, hlk, hsk, hrk, hb1⟩)
    refine name_callsN ?_
    intro w2 hw2
    have hX : Blk w2 w1.heap.size #[.int .i64 k, .int .i64 n, .slice A1 ks.length c1] := by rw [hw2]; exact (Blk.new_ _ _ _ rfl)
    have rk : Rd w2 A1 0 ks := by rw [hw2]; exact (hrk.rd.alloc _)
    have gg : Below w.heap.size w w2 := by rw [hw2]; exact (hb1.alloc hb1.size _)
    clear hw2
    obtain ⟨b, hF⟩ := fm_ex (.mk k n ks)
    have hM : sizes ks ≤ 1099511627775 := by omega
    have hm2 := hm.keep gg
    have hlen := hF.len
    obtain ⟨x0, x1, x2⟩ := hX.three
    have hFh := hide hF
    have hnil := hide hF.nil
    have hpos := hide (count_pos (.mk k n ks))
    clear hF
    refine (iFormat_any hFh.out A1 c1 w2 hM hm2 rk).mono ?_
    rintro e w3 ⟨rfl, hb3⟩
    have hX3 := hX.keep hb3
    have rk3 := rk.below hb3
    have gg3 := gg.trans (hb3.mono gg.size)
    clear x0 x1 x2
    have sF := fun (w' : World) (hw' : Below w3.heap.size w3 w') => sFormat_any hFh.out A1 c1 w' hM (rk3.below hw')
    have sI := fun (w' : World) (hw' : Below w3.heap.size w3 w') => iTermValid_any k n ks A1 c1 w' hM (rk3.below hw')
    have sS := fun (w' : World) (hw' : Below w3.heap.size w3 w') => sTermValid_any k n ks A1 c1 w' hM (rk3.below hw')
    have sC := fun (w' : World) (hw' : Below w3.heap.size w3 w') => iCount_any k n ks A1 c1 w' hM (rk3.below hw')
    have r0 := hX3.rule (i := 0) rfl
    have r1 := hX3.rule (i := 1) rfl
    have r2 := hX3.rule (i := 2) rfl
    cases hv : validT (.mk k n ks) with
    | true =>
      have hvh := hide hv
      have hb0 : b ≠ [] := fun e => by have := hnil.out; rw [hv, e] at this; simp at this
      have hbn : (byt b).toList.isEmpty = false := by rw [byt_empty]; cases b with | nil => exact absurd rfl hb0 | cons x y => rfl
      have hp0 : 0 < countT (.mk k n ks) := of_decide_eq_true (by rw [hpos.out]; exact hv)
      have p1 : decide (0 < countT (.mk k n ks)) = true := decide_eq_true hp0
      have sI' := fun w' hw' => by have := sI w' hw'; rwa [hvh.out] at this
      have sS' := fun w' hw' => by have := sS w' hw'; rwa [hvh.out] at this
      obtain ⟨q, hq⟩ : ∃ q, q = countT (.mk k n ks) := ⟨_, rfl⟩
      rw [← hq] at sC p1
      clear hv sI sS hq
      go_wp2_with fail
      refine wp_region_class (fun w' => Below w3.heap.size w3 w') (by kernel_rfl) (by kernel_rfl) (Below.refl _ _).drew ?_
      repeat (first | ((refine quiet_skip (a' := ?_) ?_ ?_ ?_); (rotate_left); (· (simp [Region.wanted, yielded, Go.undef]; done)); (· (simp only [Act.put, List.setIfInBounds_toArray, List.set_cons_zero, List.set_cons_succ]; exact rfl))) | ((refine quiet_one (v := ?_) (a' := ?_) ?_ ?_ ?_ ?_); (rotate_left 2); (· (simp [Region.wanted, yielded, Go.undef]; done)); (· (intro w' hS'; go_simp; try (with_reducible rfl))); (· (simp only [Act.put, List.setIfInBounds_toArray, List.set_cons_zero, List.set_cons_succ]; exact rfl))) | ((refine quiet_below (v := ?_) (a' := ?_) 10 ?_ ?_ ?_ ?_ ?_ ?_); (rotate_left 3); (· (simp [Region.wanted, yielded, Go.undef]; done)); (· (intro w' hS'; go_simp; try (with_reducible rfl))); (· (intro w' hS'; exact sF w' hS')); (· (simp only [Act.put, List.setIfInBounds_toArray, List.set_cons_zero, List.set_cons_succ]; exact rfl))) | ((refine quiet_below (v := ?_) (a' := ?_) 11 ?_ ?_ ?_ ?_ ?_ ?_); (rotate_left 3); (· (simp [Region.wanted, yielded, Go.undef]; done)); (· (intro w' hS'; go_simp; try (with_reducible rfl))); (· (intro w' hS'; exact sI' w' hS')); (· (simp only [Act.put, List.setIfInBounds_toArray, List.set_cons_zero, List.set_cons_succ]; exact rfl))) | ((refine quiet_below (v := ?_) (a' := ?_) 12 ?_ ?_ ?_ ?_ ?_ ?_); (rotate_left 3); (· (simp [Region.wanted, yielded, Go.undef]; done)); (· (intro w' hS'; go_simp; try (with_reducible rfl))); (· (intro w' hS'; exact sS' w' hS')); (· (simp only [Act.put, List.setIfInBounds_toArray, List.set_cons_zero, List.set_cons_succ]; exact rfl))) | ((refine quiet_below (v := ?_) (a' := ?_) 13 ?_ ?_ ?_ ?_ ?_ ?_); (rotate_left 3); (· (simp [Region.wanted, yielded, Go.undef]; done)); (· (intro w' hS'; go_simp; try (with_reducible rfl))); (· (intro w' hS'; exact sC w' hS')); (· (simp only [Act.put, List.setIfInBounds_toArray, List.set_cons_zero, List.set_cons_succ]; exact rfl))))
      refine quiet_nil ?_
      intro w9 hx9
      clear sF sI' sS' sC r0 r1 r2
      go_wp2_with fail
      go_ret
      exact ⟨rfl, gg3.trans (hx9.mono gg3.size)⟩
    | false =>
      have hvh := hide hv
      have hb0 : b = [] := of_decide_eq_true (by rw [hnil.out, hv]; rfl)
      subst hb0
      have hbn : (byt []).toList.isEmpty = true := byt_empty []
      have p1 : decide (0 < countT (.mk k n ks)) = false := by rw [hpos.out]; exact hv
      have sI' := fun w' hw' => by have := sI w' hw'; rwa [hvh.out] at this
      have sS' := fun w' hw' => by have := sS w' hw'; rwa [hvh.out] at this
      obtain ⟨q, hq⟩ : ∃ q, q = countT (.mk k n ks) := ⟨_, rfl⟩
      rw [← hq] at sC p1
      clear hv sI sS hq
      go_wp2_with fail
      refine wp_region_class (fun w' => Below w3.heap.size w3 w') (by kernel_rfl) (by kernel_rfl) (Below.refl _ _).drew ?_
      repeat (first | ((refine quiet_skip (a' := ?_) ?_ ?_ ?_); (rotate_left); (· (simp [Region.wanted, yielded, Go.undef]; done)); (· (simp only [Act.put, List.setIfInBounds_toArray, List.set_cons_zero, List.set_cons_succ]; exact rfl))) | ((refine quiet_one (v := ?_) (a' := ?_) ?_ ?_ ?_ ?_); (rotate_left 2); (· (simp [Region.wanted, yielded, Go.undef]; done)); (· (intro w' hS'; go_simp; try (with_reducible rfl))); (· (simp only [Act.put, List.setIfInBounds_toArray, List.set_cons_zero, List.set_cons_succ]; exact rfl))) | ((refine quiet_below (v := ?_) (a' := ?_) 10 ?_ ?_ ?_ ?_ ?_ ?_); (rotate_left 3); (· (simp [Region.wanted, yielded, Go.undef]; done)); (· (intro w' hS'; go_simp; try (with_reducible rfl))); (· (intro w' hS'; exact sF w' hS')); (· (simp only [Act.put, List.setIfInBounds_toArray, List.set_cons_zero, List.set_cons_succ]; exact rfl))) | ((refine quiet_below (v := ?_) (a' := ?_) 11 ?_ ?_ ?_ ?_ ?_ ?_); (rotate_left 3); (· (simp [Region.wanted, yielded, Go.undef]; done)); (· (intro w' hS'; go_simp; try (with_reducible rfl))); (· (intro w' hS'; exact sI' w' hS')); (· (simp only [Act.put, List.setIfInBounds_toArray, List.set_cons_zero, List.set_cons_succ]; exact rfl))) | ((refine quiet_below (v := ?_) (a' := ?_) 12 ?_ ?_ ?_ ?_ ?_ ?_); (rotate_left 3); (· (simp [Region.wanted, yielded, Go.undef]; done)); (· (intro w' hS'; go_simp; try (with_reducible rfl))); (· (intro w' hS'; exact sS' w' hS')); (· (simp only [Act.put, List.setIfInBounds_toArray, List.set_cons_zero, List.set_cons_succ]; exact rfl))) | ((refine quiet_below (v := ?_) (a' := ?_) 13 ?_ ?_ ?_ ?_ ?_ ?_); (rotate_left 3); (· (simp [Region.wanted, yielded, Go.undef]; done)); (· (intro w' hS'; go_simp; try (with_reducible rfl))); (· (intro w' hS'; exact sC w' hS')); (· (simp only [Act.put, List.setIfInBounds_toArray, List.set_cons_zero, List.set_cons_succ]; exact rfl))))
      refine quiet_nil ?_
      intro w9 hx9
      clear sF sI' sS' sC r0 r1 r2
      go_wp2_with fail
      go_ret
      exact ⟨rfl, gg3.trans (hx9.mono gg3.size)⟩
end Go.Proofs.YtjpgdfndlmipcaaDoor.Cd

namespace Go.Proofs.YtjpgdfndlmipcaaDoor.Cd
open Go.RowKit
set_option linter.unusedSimpArgs false
set_option linter.unusedVariables false

/-- two codes -/
def DrawnCC (w : World) (e : Ending) (w' : World) : Prop :=
  ∃ (k n : Int) (ks : List Tm) (A : Option Addr) (c : Nat) (k' n' : Int) (ks' : List Tm) (A' : Option Addr) (c' : Nat), e = .returned (.tuple #[.agg #[.int .i64 k, .int .i64 n, .slice A ks.length c], .agg #[.int .i64 k', .int .i64 n', .slice A' ks'.length c']]) ∧
    ks.length ≤ 9223372036854775807 ∧ sizes ks ≤ 5000 ∧ ks'.length ≤ 9223372036854775807 ∧ sizes ks' ≤ 5000 ∧ Rd w' A 0 ks ∧ Rd w' A' 0 ks' ∧ Below w.heap.size w w'
set_option maxHeartbeats 16000000 in
set_option maxRecDepth 100000 in
theorem drawCS_any (bs : List Int) (A : Option Addr) (c : Nat) (w : World) (hl : bs.length ≤ 9223372036854775807) (hc : bs.length ≤ c) (hr : RdY w A bs) : Calls Tryd.prog 5 #[.slice A bs.length c] w (DrawnCC w) := by
  go_enter Tryd.func5, Tryd.ntmps5
  go_wp2_with (first
    | (go_at_call 15; refine (cdraw_any w1.heap.size r 0 _ (by omega) (Nat.le_refl _) hr1).mono ?_; rintro e w2 ⟨k, n, ks, A2, c2, p2, rfl, hl2, hs2, hp2, hk2, hr2, hg2⟩; replace hZ := hZ.grown hg2 (by simp; omega); replace hY := hY.grown hg2 (by simp; omega); have lz2 := hZ.lt; have s2 := hg2.size)
    | (go_at_call 14; refine (open_any bs A c _ hl hc ((hr.keeps (.alloc _ _)).keeps (.alloc _ _))).mono ?_; rintro e w1 ⟨r, rfl, hr0, hrlt, hr1, hb1⟩; have hZ := ((Blk.new_ w 25 #[.int .i64 0, .int .i64 0, .slice none 0 0] rfl).alloc (.cells #[.int .i64 0, .int .i64 0, .slice none 0 0] 25)).keep hb1; have hY := (Blk.new_ (n := w.heap.size + 1) (w.alloc (.cells #[.int .i64 0, .int .i64 0, .slice none 0 0] 25)) 25 #[.int .i64 0, .int .i64 0, .slice none 0 0] (by simp)).keep hb1; have g1 : Below w.heap.size w w1 := (((Below.refl _ _).alloc (Nat.le_refl _) _).alloc (by simp) _).trans (hb1.mono (by simp; omega)); have s1 := g1.size; have hr0' : w.heap.size + 2 ≤ r := (by simpa using hr0)))
  refine (pick_any w1.heap.size r p2 2 _ (by omega) (by omega) (by simp; omega) (hr2.alloc (by omega) _)).mono ?_
  rintro e w3 ⟨m, rfl, hm, hm0, hr3, hg3⟩
  clear hm hm0
  have hX := (Blk.new_ w2 25 #[.int .i64 k, .int .i64 n, .slice A2 ks.length c2] rfl).grown hg3 (by simp; omega)
  have g23 : w2.grownBy w3 (some r) := grown_trans (only_alloc (World.grownBy.refl _ _) _) hg3
  replace hZ := hZ.grown g23 (by simp; omega)
  replace hY := hY.grown g23 (by simp; omega)
  have hk3 := hk2.grown g23 (fun b hb e => by injection e with e; omega)
  have g3 := grown_trans hg2 g23
  have s3 : w2.heap.size + 1 ≤ w3.heap.size := by have := hg3.size; simpa using this
  have lx := hX.lt
  by_cases m0 : m = 0
  · subst m0
    obtain ⟨x0, x1, x2⟩ := hX.three
    go_wp2_with fail
    refine wp_region_firstY (fun w' => w'.cell? ⟨w2.heap.size, 0, none⟩ = some (.int .i64 k) ∧ w'.cell? ⟨w2.heap.size, 1, none⟩ = some (.int .i64 n) ∧ w'.cell? ⟨w2.heap.size, 2, none⟩ = some (.slice A2 ks.length c2)) [0, 1] [2, 3] [4] [_, _] [_, _] [_] (by kernel_rfl) (by kernel_rfl) rfl rfl rfl (fun _ _ d _ _ h => by cases d <;> exact h) ⟨hX.drew.at_ rfl, hX.drew.at_ rfl, hX.drew.at_ rfl⟩ ?_
    repeat (first | ((refine takeY_skip (a' := ?_) ?_ ?_ ?_); (rotate_left); (· (simp [Region.wanted, yielded]; done)); (· (simp only [List.getElem_toArray, List.getElem_cons_zero, List.getElem_cons_succ, Act.put, List.setIfInBounds_toArray, List.set_cons_zero, List.set_cons_succ]; exact rfl))) | ((refine takeY_step (v := ?_) (a' := ?_) ?_ ?_ ?_ ?_); (rotate_left 2); (· (simp [Region.wanted, yielded]; done)); (· (intro w' hS'; obtain ⟨s0, s1, s2⟩ := hS'; go_simp; try (with_reducible rfl))); (· (simp only [List.getElem_toArray, List.getElem_cons_zero, List.getElem_cons_succ, Act.put, List.setIfInBounds_toArray, List.set_cons_zero, List.set_cons_succ]; exact rfl))))
    refine takeY_nil (then_cons ?_)
    go_wp2_with (go_at_call 15; refine (cdraw_any w1.heap.size r (p2 + 1) _ (by omega) (by simp; omega) hr3.drew).mono ?_; rintro e wa ⟨ka, na, ksa, Aa, ca, pa, rfl, hla, hsa, hpa, hka, hRa, hga⟩)
    have hxa : w3.grownBy wa (some r) := grown_trans (only_drew (World.grownBy.refl _ _)) hga
    have hXa := hX.grown hxa (by simp; omega)
    refine mid_intro ⟨hXa.at_ rfl, hXa.at_ rfl, hXa.at_ rfl⟩ (then_cons ?_)
    have sa : w3.heap.size ≤ wa.heap.size := hxa.size
    have hZa := hZ.grown hxa (by simp; omega)
    have hYa := hY.grown hxa (by simp; omega)
    have ga := grown_trans g3 hxa
    have hka3 := hk3.grown hxa (fun b hb e => by injection e with e; omega)
    have kka := hka.mono (q := fun b => w1.heap.size ≤ b) (fun b hb => by simp at hb; omega)
    have d0 := hZa.at_ (i := 0) rfl
    have d1 := hZa.at_ (i := 1) rfl
    have d2 := hZa.at_ (i := 2) rfl
    have e0 := hZa.frozen 0
    have e1 := hZa.frozen 1
    have e2 := hZa.frozen 2
    have v0 := hYa.at_ (i := 0) rfl
    have v1 := hYa.at_ (i := 1) rfl
    have v2 := hYa.at_ (i := 2) rfl
    have u0 := hYa.frozen 0
    have u1 := hYa.frozen 1
    have u2 := hYa.frozen 2
    have n1 : w.heap.size ≠ w.heap.size + 1 := by omega
    have n2 : w.heap.size + 1 ≠ w.heap.size := by omega
    go_wp2_with fail
    have hXc := ((hXa.far (p := ⟨w.heap.size, 0, none⟩) (by simp; omega) (.int .i64 k)).far (p := ⟨w.heap.size, 1, none⟩) (by simp; omega) (.int .i64 n)).far (p := ⟨w.heap.size, 2, none⟩) (by simp; omega) (.slice A2 ks.length c2)
    refine mid_intro ⟨hXc.at_ rfl, hXc.at_ rfl, hXc.at_ rfl⟩ (then_nil ?_)
    go_wp2_with fail
    refine bodyPost_ret (v := .tuple #[.agg #[.int .i64 k, .int .i64 n, .slice A2 ks.length c2], .agg #[.int .i64 ka, .int .i64 na, .slice Aa ksa.length ca]]) (by simp [results, Tryd.results5, go_sem, d0, d1, d2, v0, v1, v2, n1, n2]) rfl ⟨k, n, ks, A2, c2, ka, na, ksa, Aa, ca, rfl, hl2, by omega, hla, by omega, ?_, ?_, ?_⟩
    · exact ((((((hka3.setCell (by simp; omega) _).setCell (by simp; omega) _).setCell (by simp; omega) _).setCell (by simp; omega) _).setCell (by simp; omega) _).setCell (by simp; omega) _).rd
    · exact ((((((kka.setCell (by simp; omega) _).setCell (by simp; omega) _).setCell (by simp; omega) _).setCell (by simp; omega) _).setCell (by simp; omega) _).setCell (by simp; omega) _).rd
    · exact ((((((g1.trans (grown_below ga (by omega) (by omega))).setCell (by simp) _).setCell (by simp) _).setCell (by simp) _).setCell (by simp) _).setCell (by simp) _).setCell (by simp) _
  · obtain ⟨x0, x1, x2⟩ := hX.three
    have q0 : ((m : Int) == 0) = false := beq_eq_false_iff_ne.2 (by omega)
    go_wp2_with fail
    refine wp_region_firstY (fun w' => w'.cell? ⟨w2.heap.size, 0, none⟩ = some (.int .i64 k) ∧ w'.cell? ⟨w2.heap.size, 1, none⟩ = some (.int .i64 n) ∧ w'.cell? ⟨w2.heap.size, 2, none⟩ = some (.slice A2 ks.length c2)) [0, 1, 2, 3] [4, 5, 6] [7] [_, _, _, _] [_, _, _] [_] (by kernel_rfl) (by kernel_rfl) rfl rfl rfl (fun _ _ d _ _ h => by cases d <;> exact h) ⟨hX.drew.at_ rfl, hX.drew.at_ rfl, hX.drew.at_ rfl⟩ ?_
    repeat (first | ((refine takeY_skip (a' := ?_) ?_ ?_ ?_); (rotate_left); (· (simp [Region.wanted, yielded]; done)); (· (simp only [List.getElem_toArray, List.getElem_cons_zero, List.getElem_cons_succ, Act.put, List.setIfInBounds_toArray, List.set_cons_zero, List.set_cons_succ]; exact rfl))) | ((refine takeY_step (v := ?_) (a' := ?_) ?_ ?_ ?_ ?_); (rotate_left 2); (· (simp [Region.wanted, yielded]; done)); (· (intro w' hS'; obtain ⟨s0, s1, s2⟩ := hS'; go_simp; try (with_reducible rfl))); (· (simp only [List.getElem_toArray, List.getElem_cons_zero, List.getElem_cons_succ, Act.put, List.setIfInBounds_toArray, List.set_cons_zero, List.set_cons_succ]; exact rfl))))
    refine takeY_nil (then_cons ?_)
    go_wp2_with (go_at_call 17; refine (mutate_any w1.heap.size r (p2 + 1) k n ks A2 c2 _ (by omega) (by simp; omega) hr3.drew (by omega) hk3.drew.rd).mono ?_; rintro e wa ⟨ka, na, ksa, Aa, ca, pa, rfl, hla, hsa, hpa, hka, hRa, hga⟩)
    have hxa : w3.grownBy wa (some r) := grown_trans (only_drew (World.grownBy.refl _ _)) hga
    have hXa := hX.grown hxa (by simp; omega)
    refine mid_intro ⟨hXa.at_ rfl, hXa.at_ rfl, hXa.at_ rfl⟩ (then_cons ?_)
    have sa : w3.heap.size ≤ wa.heap.size := hxa.size
    go_wp2_with (go_at_call 17; refine (mutate_any w1.heap.size r pa ka na ksa Aa ca _ (by omega) (by omega) hRa (by omega) hka.rd).mono ?_; rintro e wb ⟨kb, nb, ksb, Ab, cb, pb, rfl, hlb, hsb, hpb, hkb, hRb, hgb⟩)
    have hxb : w3.grownBy wb (some r) := grown_trans hxa hgb
    have hXb := hX.grown hxb (by simp; omega)
    refine mid_intro ⟨hXb.at_ rfl, hXb.at_ rfl, hXb.at_ rfl⟩ (then_cons ?_)
    have sb := hgb.size
    have hZb := hZ.grown hxb (by simp; omega)
    have hYb := hY.grown hxb (by simp; omega)
    have gb := grown_trans g3 hxb
    have hkb3 := hk3.grown hxb (fun b hb e => by injection e with e; omega)
    have kkb := hkb.mono (q := fun b => w1.heap.size ≤ b) (fun b hb => by have := hb.1; omega)
    have d0 := hZb.at_ (i := 0) rfl
    have d1 := hZb.at_ (i := 1) rfl
    have d2 := hZb.at_ (i := 2) rfl
    have e0 := hZb.frozen 0
    have e1 := hZb.frozen 1
    have e2 := hZb.frozen 2
    have v0 := hYb.at_ (i := 0) rfl
    have v1 := hYb.at_ (i := 1) rfl
    have v2 := hYb.at_ (i := 2) rfl
    have u0 := hYb.frozen 0
    have u1 := hYb.frozen 1
    have u2 := hYb.frozen 2
    have n1 : w.heap.size ≠ w.heap.size + 1 := by omega
    have n2 : w.heap.size + 1 ≠ w.heap.size := by omega
    go_wp2_with fail
    have hXc := ((hXb.far (p := ⟨w.heap.size, 0, none⟩) (by simp; omega) (.int .i64 k)).far (p := ⟨w.heap.size, 1, none⟩) (by simp; omega) (.int .i64 n)).far (p := ⟨w.heap.size, 2, none⟩) (by simp; omega) (.slice A2 ks.length c2)
    refine mid_intro ⟨hXc.at_ rfl, hXc.at_ rfl, hXc.at_ rfl⟩ (then_nil ?_)
    go_wp2_with fail
    refine bodyPost_ret (v := .tuple #[.agg #[.int .i64 k, .int .i64 n, .slice A2 ks.length c2], .agg #[.int .i64 kb, .int .i64 nb, .slice Ab ksb.length cb]]) (by simp [results, Tryd.results5, go_sem, d0, d1, d2, v0, v1, v2, n1, n2]) rfl ⟨k, n, ks, A2, c2, kb, nb, ksb, Ab, cb, rfl, hl2, by omega, hlb, by omega, ?_, ?_, ?_⟩
    · exact ((((((hkb3.setCell (by simp; omega) _).setCell (by simp; omega) _).setCell (by simp; omega) _).setCell (by simp; omega) _).setCell (by simp; omega) _).setCell (by simp; omega) _).rd
    · exact ((((((kkb.setCell (by simp; omega) _).setCell (by simp; omega) _).setCell (by simp; omega) _).setCell (by simp; omega) _).setCell (by simp; omega) _).setCell (by simp; omega) _).rd
    · exact ((((((g1.trans (grown_below gb (by omega) (by omega))).setCell (by simp) _).setCell (by simp) _).setCell (by simp) _).setCell (by simp) _).setCell (by simp) _).setCell (by simp) _
end Go.Proofs.YtjpgdfndlmipcaaDoor.Cd

namespace Go.Proofs.YtjpgdfndlmipcaaDoor
open Go.RowKit
set_option linter.unusedSimpArgs false
set_option linter.unusedVariables false

def szR (left : Int) (m : Nat) : Int := if left < m then -1 else left - m
theorem szR_le (left : Int) (m : Nat) (h0 : 0 ≤ left) : -1 ≤ szR left m ∧ szR left m ≤ left := by unfold szR; split <;> omega
theorem szR_pos {left : Int} {m : Nat} (h : 0 ≤ szR left m) : (m : Int) ≤ left ∧ szR left m = left - m := by unfold szR at *; split <;> simp_all
theorem szR_neg {left : Int} {m : Nat} (h : szR left m < 0) : left < m := by unfold szR at *; split at h <;> omega
theorem szR_no {left : Int} {m : Nat} (h : left < m) : szR left m = -1 := by unfold szR; rw [if_pos h]
theorem szR_yes {left : Int} {m : Nat} (h : m ≤ left) : szR left m = left - m := by unfold szR; rw [if_neg (by omega)]

def sumk : List Tm → Nat | [] => 0 | t :: ts => sizes t.ks + sumk ts
theorem sizes_sumk (ks : List Tm) : sizes ks = ks.length + sumk ks := by
  induction ks with
  | nil => simp [sizes, sumk]
  | cons t ts ih => cases t; simp only [sizes, sumk, Tm.size, Tm.ks, List.length_cons, ih]; omega
theorem sumk_append (a b : List Tm) : sumk (a ++ b) = sumk a + sumk b := by
  induction a with
  | nil => simp [sumk]
  | cons x r ih => simp only [List.cons_append, sumk, ih]; omega
theorem sumk_take (ks : List Tm) (j : Nat) (hj : j < ks.length) : sumk (ks.take (j + 1)) = sumk (ks.take j) + sizes ks[j].ks := by
  rw [List.take_succ_eq_append_getElem hj, sumk_append]; simp [sumk]
theorem sumk_le (ks : List Tm) (j : Nat) : sumk (ks.take j) ≤ sumk ks := by
  have := sumk_append (ks.take j) (ks.drop j); rw [List.take_append_drop] at this; omega

mutual
/-- equal at every level -/
def tmEq : Tm → Tm → Bool
  | .mk k n ks, .mk k' n' ks' => k == k' && n == n' && tmsEq ks ks'
def tmsEq : List Tm → List Tm → Bool
  | [], [] => true
  | t :: ts, u :: us => tmEq t u && tmsEq ts us
  | _, _ => false
end
theorem tmEq_both : (∀ t u, tmEq t u = true ↔ t = u) ∧ (∀ ts us, tmsEq ts us = true ↔ ts = us) := by
  refine Tm.ind2 (fun k n ks ih u => ?_) (fun us => ?_) (fun t ts h1 h2 us => ?_)
  · obtain ⟨k', n', ks'⟩ := u
    simp only [tmEq, Bool.and_eq_true, beq_iff_eq, ih, Tm.mk.injEq, and_assoc]
  · cases us <;> simp [tmsEq]
  · cases us with
    | nil => simp [tmsEq]
    | cons u us => simp only [tmsEq, Bool.and_eq_true, h1, h2, List.cons.injEq]
theorem tmEq_iff {t u : Tm} : tmEq t u = true ↔ t = u := tmEq_both.1 t u
theorem tmsEq_iff {ts us : List Tm} : tmsEq ts us = true ↔ ts = us := tmEq_both.2 ts us
theorem tmEq_self (t : Tm) : tmEq t t = true := tmEq_iff.2 rfl
theorem tmsEq_self (ts : List Tm) : tmsEq ts ts = true := tmsEq_iff.2 rfl
theorem tmsEq_false {ts us : List Tm} (h : ts ≠ us) : tmsEq ts us = false := by
  cases e : tmsEq ts us with
  | false => rfl
  | true => exact absurd (tmsEq_iff.1 e) h

end Go.Proofs.YtjpgdfndlmipcaaDoor

namespace Go.Proofs.YtjpgdfndlmipcaaDoor.Cd
open Go.RowKit
set_option linter.unusedSimpArgs false
set_option linter.unusedVariables false

theorem tmEq_head {k n k' n' : Int} {ks ls : List Tm} (h : ¬ (k = k' ∧ n = n' ∧ ks.length = ls.length)) : tmEq (.mk k n ks) (.mk k' n' ls) = false := by
  cases e : tmEq (.mk k n ks) (.mk k' n' ls) with
  | false => rfl
  | true => have := tmEq_iff.1 e; injection this with h1 h2 h3; exact absurd ⟨h1, h2, by rw [h3]⟩ h
theorem tmEq_kids {k n : Int} {ks ls : List Tm} : tmEq (.mk k n ks) (.mk k n ls) = tmsEq ks ls := by
  by_cases h : ks = ls
  · subst h; rw [tmEq_self, tmsEq_self]
  · rw [tmsEq_false h]
    cases e : tmEq (.mk k n ks) (.mk k n ls) with
    | false => rfl
    | true => have := tmEq_iff.1 e; injection this with h1 h2 h3; exact absurd h3 h

set_option maxHeartbeats 2000000 in
set_option maxRecDepth 100000 in
theorem sSame_any (N : Nat) : ∀ (k n : Int) (ks : List Tm) (A : Option Addr) (c : Nat) (k' n' : Int) (ls : List Tm) (B : Option Addr) (d : Nat) (w : World), sizes ks < N → ks.length ≤ 9223372036854775807 → ls.length ≤ 9223372036854775807 → Rd w A 0 ks → Rd w B 0 ls →
      Calls Tryd.prog 7 #[.agg #[.int .i64 k, .int .i64 n, .slice A ks.length c], .agg #[.int .i64 k', .int .i64 n', .slice B ls.length d]] w fun e w' => e = .returned (.bool (tmEq (.mk k n ks) (.mk k' n' ls))) ∧ Below w.heap.size w w' := by
  induction N with
  | zero => intro k n ks A c k' n' ls B d w hN; exact absurd hN (Nat.not_lt_zero _)
  | succ N ih =>
  intro k n ks A c k' n' ls B d w hN hl hl' hr hr'
  have hb2 : ∀ o o', Below w.heap.size w ((w.alloc o).alloc o') := fun o o' => ((Below.refl _ _).alloc (Nat.le_refl _) _).alloc (by simp) _
  by_cases hk : k = k'
  · subst hk
    by_cases hn : n = n'
    · subst hn
      by_cases hlen : ks.length = ls.length
      · rw [tmEq_kids]
        have q1 : (k != k) = false := by simp
        have q2 : (n != n) = false := by simp
        have q3 : ((ks.length : Int) != (ls.length : Int)) = false := by simp [hlen]
        have hH := hide hlen
        have hle : ls.length ≤ ks.length := by omega
        have hge : ks.length ≤ ls.length := by omega
        clear hlen
        go_enter Tryd.func7, Tryd.ntmps7
        go_wp2_with fail
        go_loopw [5] (fun i wr => ∃ j : Nat, j ≤ ks.length ∧ i = .int .i64 j ∧ Hid (ks.take j = ls.take j) ∧ Blk wr w.heap.size #[.int .i64 k, .int .i64 n, .slice A ks.length c] ∧ Blk wr (w.heap.size + 1) #[.int .i64 k, .int .i64 n, .slice B ls.length d] ∧ Below w.heap.size w wr) (fun i _ => ks.length - (intOf i).toNat)
        case atStart => exact ⟨0, Nat.zero_le _, rfl, hide (by simp), (Blk.new_ _ _ _ rfl).alloc _, Blk.new_ _ _ _ (by simp), hb2 _ _⟩
        case round =>
          obtain ⟨j, hj, rfl, heq, hB1, hB2, hb⟩ := hrel
          have b2 := hB1.at_ (i := 2) rfl
          by_cases hlt : j < ks.length
          · have hlt' : j < ls.length := by omega
            obtain ⟨b, off, k1, n1, ks1, A1, c1, rfl, hkj, hc1, hc2, hc3, hl1, hr1⟩ := (hr.below hb).at_ hlt
            obtain ⟨b2, off2, k2, n2, ks2, A2, c2, rfl, hkj2, hd1, hd2, hd3, hl2, hr2⟩ := (hr'.below hb).at_ hlt'
            have hsz := sizes_le (List.getElem_mem hlt)
            rw [hkj] at hsz
            simp only [Tm.size] at hsz
            have H3 := hide hkj
            have H4 := hide hkj2
            clear hkj hkj2
            go_wp2_with fail
            have r1 := rule_of hc1
            have r2 := rule_of hc2
            have r3 := rule_of hc3
            have r4 := rule_of hd1
            have r5 := rule_of hd2
            have r6 := rule_of hd3
            have r7 := hB1.rule (i := 2) rfl
            have r8 := hB2.rule (i := 2) rfl
            refine wp_region_firstY (fun w' => Below wr.heap.size wr w') [0, 1, 2, 3, 4, 5, 6, 7, 8, 9] [] [10, 11] [_, _, _, _, _, _, _, _, _, _] [] [_, _] (by kernel_rfl) (by kernel_rfl) rfl rfl rfl (fun _ _ d _ _ h => by cases d <;> exact h) (Below.refl _ _).drew ?_
            repeat (first | ((refine takeY_skip (a' := ?_) ?_ ?_ ?_); (rotate_left); (· (simp [Region.wanted, yielded]; done)); (· (simp only [List.getElem_toArray, List.getElem_cons_zero, List.getElem_cons_succ, Act.put, List.setIfInBounds_toArray, List.set_cons_zero, List.set_cons_succ]; exact rfl))) | ((refine takeY_step (v := ?_) (a' := ?_) ?_ ?_ ?_ ?_); (rotate_left 2); (· (simp [Region.wanted, yielded]; done)); (· (intro w' hS'; go_simp; try (with_reducible rfl))); (· (simp only [List.getElem_toArray, List.getElem_cons_zero, List.getElem_cons_succ, Act.put, List.setIfInBounds_toArray, List.set_cons_zero, List.set_cons_succ]; exact rfl))))
            refine takeY_nil (then_nil ?_)
            clear r1 r2 r3 r4 r5 r6 r7 r8
            cases hte : tmEq (.mk k1 n1 ks1) (.mk k2 n2 ks2) with
            | false =>
              have hte' := hide hte
              clear hte
              go_wp2_with (go_at_call 7; refine (ih k1 n1 ks1 A1 c1 k2 n2 ks2 A2 c2 _ (by omega) hl1 hl2 hr1.drew hr2.drew).mono ?_; rw [hte'.out]; rintro e w1 ⟨rfl, hb1⟩)
              go_ret
              refine ⟨ret_bool (tmsEq_false fun e => ?_).symm, hb.drew.trans (hb1.mono (by simpa using hb.size))⟩
              have := hte'.out
              subst e
              rw [← H3.out, ← H4.out, tmEq_self] at this
              cases this
            | true =>
              have hte' := hide hte
              clear hte
              go_wp2_with (go_at_call 7; refine (ih k1 n1 ks1 A1 c1 k2 n2 ks2 A2 c2 _ (by omega) hl1 hl2 hr1.drew hr2.drew).mono ?_; rw [hte'.out]; rintro e w1 ⟨rfl, hb1⟩)
              replace hb1 : Below wr.heap.size wr w1 := (Below.refl _ _).drew.trans hb1
              go_roundw
              case rel => exact ⟨j + 1, by omega, by go_num, hide (by rw [List.take_succ_eq_append_getElem hlt, List.take_succ_eq_append_getElem hlt', heq.out, H3.out, H4.out, tmEq_iff.1 hte'.out]), hB1.keep hb1, hB2.keep hb1, hb.trans (hb1.mono hb.size)⟩
              case measure => simp [intOf]; omega
          · go_wp2_with fail
            go_ret
            have hjl : j = ks.length := by omega
            have h5 := heq.out
            rw [hjl, List.take_length, hH.out, List.take_length] at h5
            exact ⟨ret_bool (tmsEq_iff.2 h5).symm, hb⟩
      · have q1 : (k != k) = false := by simp
        have q2 : (n != n) = false := by simp
        have q3 : ((ks.length : Int) != (ls.length : Int)) = true := by simp; omega
        rw [tmEq_head (by rintro ⟨-, -, h⟩; exact hlen h)]
        clear hlen
        go_enter Tryd.func7, Tryd.ntmps7
        go_wp2_with fail
        go_ret
        exact ⟨rfl, hb2 _ _⟩
    · have q1 : (k != k) = false := by simp
      have q2 : (n != n') = true := by simpa using hn
      rw [tmEq_head (by rintro ⟨-, h, -⟩; exact hn h)]
      clear hn
      go_enter Tryd.func7, Tryd.ntmps7
      go_wp2_with fail
      go_ret
      exact ⟨rfl, hb2 _ _⟩
  · have q1 : (k != k') = true := by simpa using hk
    rw [tmEq_head (by rintro ⟨h, -⟩; exact hk h)]
    clear hk
    go_enter Tryd.func7, Tryd.ntmps7
    go_wp2_with fail
    go_ret
    exact ⟨rfl, hb2 _ _⟩

set_option maxHeartbeats 2000000 in
set_option maxRecDepth 100000 in
theorem iSame_of {N : Nat} (ih : ∀ (ks : List Tm) (A : Option Addr) (c : Nat) (ls : List Tm) (B : Option Addr) (d : Nat) (w : World), sizes ks < N → ks.length ≤ 9223372036854775807 → ls.length ≤ 9223372036854775807 → Rd w A 0 ks → Rd w B 0 ls →
      Calls Tryd.prog 18 #[.slice A ks.length c, .slice B ls.length d, .func (.func 6) #[] #[]] w fun e w' => e = .returned (.bool (tmsEq ks ls)) ∧ Below w.heap.size w w')
    (k n : Int) (ks : List Tm) (A : Option Addr) (c : Nat) (k' n' : Int) (ls : List Tm) (B : Option Addr) (d : Nat) (w : World) (hN : sizes ks < N) (hl : ks.length ≤ 9223372036854775807) (hl' : ls.length ≤ 9223372036854775807) (hr : Rd w A 0 ks) (hr' : Rd w B 0 ls) :
    Calls Tryd.prog 6 #[.agg #[.int .i64 k, .int .i64 n, .slice A ks.length c], .agg #[.int .i64 k', .int .i64 n', .slice B ls.length d]] w fun e w' => e = .returned (.bool (tmEq (.mk k n ks) (.mk k' n' ls))) ∧ Below w.heap.size w w' := by
  have hb2 : ∀ o o', Below w.heap.size w ((w.alloc o).alloc o') := fun o o' => ((Below.refl _ _).alloc (Nat.le_refl _) _).alloc (by simp) _
  by_cases hk : k = k'
  · subst hk
    by_cases hn : n = n'
    · subst hn
      rw [tmEq_kids]
      generalize ht : tmsEq ks ls = b
      have ht' := hide ht
      clear ht
      go_enter Tryd.func6, Tryd.ntmps6
      go_wp2_with (go_at_call 18; refine (ih ks A c ls B d _ hN hl hl' ((hr.alloc _).alloc _) ((hr'.alloc _).alloc _)).mono ?_; rw [ht'.out]; rintro e w1 ⟨rfl, hb1⟩; replace hb1 : Below w.heap.size w w1 := (hb2 _ _).trans (hb1.mono (by simp; omega)))
      go_ret
      exact ⟨rfl, hb1⟩
    · have q2 : (n == n') = false := by simpa using hn
      rw [tmEq_head (by rintro ⟨-, h, -⟩; exact hn h)]
      clear hn
      go_enter Tryd.func6, Tryd.ntmps6
      go_wp2_with fail
      go_ret
      exact ⟨rfl, hb2 _ _⟩
  · have q1 : (k == k') = false := by simpa using hk
    rw [tmEq_head (by rintro ⟨h, -⟩; exact hk h)]
    clear hk
    go_enter Tryd.func6, Tryd.ntmps6
    go_wp2_with fail
    go_ret
    exact ⟨rfl, hb2 _ _⟩

set_option maxHeartbeats 2000000 in
set_option maxRecDepth 100000 in
theorem iSames_any (N : Nat) : ∀ (ks : List Tm) (A : Option Addr) (c : Nat) (ls : List Tm) (B : Option Addr) (d : Nat) (w : World), sizes ks < N → ks.length ≤ 9223372036854775807 → ls.length ≤ 9223372036854775807 → Rd w A 0 ks → Rd w B 0 ls →
      Calls Tryd.prog 18 #[.slice A ks.length c, .slice B ls.length d, .func (.func 6) #[] #[]] w fun e w' => e = .returned (.bool (tmsEq ks ls)) ∧ Below w.heap.size w w' := by
  induction N with
  | zero => intro ks A c ls B d w hN; exact absurd hN (Nat.not_lt_zero _)
  | succ N ih =>
  intro ks A c ls B d w hN hl hl' hr hr'
  have hrun := run_enter Tryd.func6 (by kernel_rfl) (by kernel_rfl)
  by_cases hlen : ks.length = ls.length
  · have hq : ((ks.length : Int) != (ls.length : Int)) = false := by simp [hlen]
    have hH := hide hlen
    have hle : ls.length ≤ ks.length := by omega
    have hge : ks.length ≤ ls.length := by omega
    clear hlen
    go_enter Tryd.func18, Tryd.ntmps18
    go_wp2_with fail
    go_loopw [17] (fun i wr => ∃ j : Nat, j ≤ ks.length ∧ i = .int .i64 j ∧ Hid (ks.take j = ls.take j) ∧ Below w.heap.size w wr) (fun i _ => ks.length - (intOf i).toNat)
    case atStart => exact ⟨0, Nat.zero_le _, rfl, hide (by simp), Below.refl _ _⟩
    case round =>
      obtain ⟨j, hj, rfl, heq, hb⟩ := hrel
      by_cases hlt : j < ks.length
      · have hlt' : j < ls.length := by omega
        obtain ⟨b, off, k1, n1, ks1, A1, c1, rfl, hkj, hc1, hc2, hc3, hl1, hr1⟩ := (hr.below hb).at_ hlt
        obtain ⟨b2, off2, k2, n2, ks2, A2, c2, rfl, hkj2, hd1, hd2, hd3, hl2, hr2⟩ := (hr'.below hb).at_ hlt'
        have hbl := World.block_lt_of_cell? _ _ hc1
        have hbl2 := World.block_lt_of_cell? _ _ hd1
        have hsz := sizes_le (List.getElem_mem hlt)
        rw [hkj] at hsz
        simp only [Tm.size] at hsz
        have H3 := hide hkj
        have H4 := hide hkj2
        clear hkj hkj2
        have hx : ∀ o o', Below wr.heap.size wr ((wr.alloc o).alloc o') := fun o o' => ((Below.refl _ _).alloc (Nat.le_refl _) _).alloc (by simp) _
        cases hte : tmEq (.mk k1 n1 ks1) (.mk k2 n2 ks2) with
        | false =>
          have hte' := hide hte
          clear hte
          go_wp2_with (go_at_call 6; refine (iSame_of ih k1 n1 ks1 A1 c1 k2 n2 ks2 A2 c2 _ (by omega) hl1 hl2 ((hr1.alloc _).alloc _) ((hr2.alloc _).alloc _)).mono ?_; rw [hte'.out]; rintro e w1 ⟨rfl, hb1⟩; replace hb1 : Below wr.heap.size wr w1 := (hx _ _).trans (hb1.mono (by simp; omega)))
          go_ret
          refine ⟨ret_bool (tmsEq_false fun e => ?_).symm, hb.trans (hb1.mono hb.size)⟩
          have := hte'.out
          subst e
          rw [← H3.out, ← H4.out, tmEq_self] at this
          cases this
        | true =>
          have hte' := hide hte
          clear hte
          go_wp2_with (go_at_call 6; refine (iSame_of ih k1 n1 ks1 A1 c1 k2 n2 ks2 A2 c2 _ (by omega) hl1 hl2 ((hr1.alloc _).alloc _) ((hr2.alloc _).alloc _)).mono ?_; rw [hte'.out]; rintro e w1 ⟨rfl, hb1⟩; replace hb1 : Below wr.heap.size wr w1 := (hx _ _).trans (hb1.mono (by simp; omega)))
          go_roundw
          case rel => exact ⟨j + 1, by omega, by go_num, hide (by rw [List.take_succ_eq_append_getElem hlt, List.take_succ_eq_append_getElem hlt', heq.out, H3.out, H4.out, tmEq_iff.1 hte'.out]), hb.trans (hb1.mono hb.size)⟩
          case measure => simp [intOf]; omega
      · go_wp2_with fail
        go_ret
        have hjl : j = ks.length := by omega
        have h5 := heq.out
        rw [hjl, List.take_length, hH.out, List.take_length] at h5
        exact ⟨ret_bool (tmsEq_iff.2 h5).symm, hb⟩
  · have hq : ((ks.length : Int) != (ls.length : Int)) = true := by simp; omega
    rw [tmsEq_false (fun e => hlen (by rw [e]))]
    clear hlen
    go_enter Tryd.func18, Tryd.ntmps18
    go_wp2_with fail
    go_ret
    exact ⟨rfl, Below.refl _ _⟩
theorem iSame_any (k n : Int) (ks : List Tm) (A : Option Addr) (c : Nat) (k' n' : Int) (ls : List Tm) (B : Option Addr) (d : Nat) (w : World) (hl : ks.length ≤ 9223372036854775807) (hl' : ls.length ≤ 9223372036854775807) (hr : Rd w A 0 ks) (hr' : Rd w B 0 ls) :
    Calls Tryd.prog 6 #[.agg #[.int .i64 k, .int .i64 n, .slice A ks.length c], .agg #[.int .i64 k', .int .i64 n', .slice B ls.length d]] w fun e w' => e = .returned (.bool (tmEq (.mk k n ks) (.mk k' n' ls))) ∧ Below w.heap.size w w' :=
  iSame_of (N := sizes ks + 1) (iSames_any _) k n ks A c k' n' ls B d w (Nat.lt_succ_self _) hl hl' hr hr'
end Go.Proofs.YtjpgdfndlmipcaaDoor.Cd

namespace Go.Proofs.YtjpgdfndlmipcaaDoor.Cd
open Go.RowKit
set_option linter.unusedSimpArgs false
set_option linter.unusedVariables false

theorem tmEq_no {t u : Tm} (h : t ≠ u) : tmEq t u = false := by
  cases e : tmEq t u with
  | false => rfl
  | true => exact absurd (tmEq_iff.1 e) h
theorem same_ret {b : Bool} (h : b = true) : Ending.returned (.bool b) = .returned (.bool true) := by rw [h]
theorem byt_toList (b : List UInt8) : (byt b).toList = b := by simp [byt]
theorem same_no {x y : List UInt8} (h : (x = [] ∨ y = []) ∨ false = decide (byt x = byt y)) : ((byt x).toList.isEmpty || (byt y).toList.isEmpty || !(byt x).toList == (byt y).toList) = true := by
  rw [byt_toList, byt_toList]
  rcases h with (rfl | rfl) | h
  · rfl
  · simp
  · have : ¬ x = y := fun e => by rw [e] at h; simp at h
    simp [this]
theorem same_yes {x y : List UInt8} (h : (x = [] ∨ y = []) ∨ true = decide (byt x = byt y)) : ((byt x).toList.isEmpty || (byt y).toList.isEmpty || (byt x).toList == (byt y).toList) = true := by
  rw [byt_toList, byt_toList]
  rcases h with (rfl | rfl) | h
  · rfl
  · simp
  · have : x = y := byt_inj (of_decide_eq_true h.symm)
    simp [this]
set_option maxHeartbeats 8000000 in
set_option maxRecDepth 100000 in
theorem lawCodeSame_any (bs : List Int) (A : Option Addr) (c : Nat) (w : World) (hl : bs.length ≤ 9223372036854775807) (hc : bs.length ≤ c) (hr : RdY w A bs) (hm : GM w) :
    Calls Tryd.prog 3 #[.slice A bs.length c] w fun e w' => e = .returned (.bool true) ∧ Below w.heap.size w w' := by
  by_cases hbig : 1048576 < bs.length
  · go_enter Tryd.func3, Tryd.ntmps3
    go_wp2_with fail
    go_ret
    exact ⟨rfl, Below.refl _ _⟩
  · go_enter Tryd.func3, Tryd.ntmps3
    go_wp2_with (go_at_call 5; refine (drawCS_any bs A c _ hl hc hr).mono ?_; rintro e w1 ⟨k, n, ks, A1, c1, k', n', ks', A2, c2, rfl, hl1, hs1, hl2, hs2, hr1, hr2, hb1⟩)
    refine name_callsN ?_
    intro w2 hw2
    have hX : Blk w2 w1.heap.size #[.int .i64 k, .int .i64 n, .slice A1 ks.length c1] := by rw [hw2]; exact (Blk.new_ _ _ _ rfl).alloc _
    have hY : Blk w2 (w1.heap.size + 1) #[.int .i64 k', .int .i64 n', .slice A2 ks'.length c2] := by rw [hw2]; exact (Blk.new_ _ _ _ (by simp))
    have rk : Rd w2 A1 0 ks := by rw [hw2]; exact (hr1.alloc _).alloc _
    have rk' : Rd w2 A2 0 ks' := by rw [hw2]; exact (hr2.alloc _).alloc _
    have gg : Below w.heap.size w w2 := by rw [hw2]; exact (hb1.alloc hb1.size _).alloc (by have := hb1.size; simp; omega) _
    clear hw2
    have hm2 := hm.keep gg
    obtain ⟨x, hFx⟩ := fm_ex (.mk k n ks)
    obtain ⟨y, T, hFy, hT, hcase⟩ : ∃ y T, Fm (.mk k' n' ks') y ∧ (tmEq (.mk k n ks) (.mk k' n' ks') = T ∧ tmEq (.mk k' n' ks') (.mk k n ks) = T) ∧ ((x = [] ∨ y = []) ∨ T = decide (byt x = byt y)) := by
      by_cases he : Tm.mk k n ks = .mk k' n' ks'
      · refine ⟨x, true, he ▸ hFx, ⟨he ▸ tmEq_self _, he ▸ tmEq_self _⟩, .inr (by simp)⟩
      · obtain ⟨y, hy⟩ := fm_ex (.mk k' n' ks')
        refine ⟨y, false, hy, ⟨tmEq_no he, tmEq_no (fun e => he e.symm)⟩, ?_⟩
        rcases hFx with ⟨_, hx, _⟩ | ⟨_, rfl⟩
        · rcases hy with ⟨_, hy, _⟩ | ⟨_, rfl⟩
          · refine .inr (decide_eq_false fun e => he ?_).symm
            have e2 := byt_inj e
            subst e2
            exact hx.inj hy
          · exact .inl (.inr rfl)
        · exact .inl (.inl rfl)
    have sI := hide (fun (w' : World) (hr : Rd w' A1 0 ks) (hr' : Rd w' A2 0 ks') => by have := iSame_any k n ks A1 c1 k' n' ks' A2 c2 w' hl1 hl2 hr hr'; rwa [hT.1] at this)
    have sJ := hide (fun (w' : World) (hr : Rd w' A1 0 ks) (hr' : Rd w' A2 0 ks') => by have := iSame_any k' n' ks' A2 c2 k n ks A1 c1 w' hl2 hl1 hr' hr; rwa [hT.2] at this)
    have sK := hide (fun (w' : World) (hr : Rd w' A1 0 ks) => by have := iSame_any k n ks A1 c1 k n ks A1 c1 w' hl1 hl1 hr hr; rwa [tmEq_self] at this)
    have sS := hide (fun (w' : World) (hr : Rd w' A1 0 ks) (hr' : Rd w' A2 0 ks') => by have := sSame_any (sizes ks + 1) k n ks A1 c1 k' n' ks' A2 c2 w' (Nat.lt_succ_self _) hl1 hl2 hr hr'; rwa [hT.1] at this)
    have sF := hide (fun (w' : World) (hm : GM w') (hr : Rd w' A1 0 ks) => iFormat_any hFx A1 c1 w' (by omega) hm hr)
    have sG := hide (fun (w' : World) (hm : GM w') (hr : Rd w' A2 0 ks') => iFormat_any hFy A2 c2 w' (by omega) hm hr)
    replace hcase := hide hcase
    clear hT hFx hFy
    obtain ⟨x0, x1, x2⟩ := hX.three
    obtain ⟨y0, y1, y2⟩ := hY.three
    refine (sI.out w2 rk rk').mono ?_
    rintro e w3 ⟨rfl, hb3⟩
    have hX3 := hX.keep hb3
    have hY3 := hY.keep hb3
    have rk3 := rk.below hb3
    have rk3' := rk'.below hb3
    have gg3 := gg.trans (hb3.mono gg.size)
    clear x0 x1 x2 y0 y1 y2
    obtain ⟨x0, x1, x2⟩ := hX3.three
    obtain ⟨y0, y1, y2⟩ := hY3.three
    rcases T with _ | _
    all_goals
      go_wp2_with (first
        | (go_at_call 8; have _t := tokG; refine (sG.out _ hm7 rk7').mono ?_; rintro e w8 ⟨rfl, hb8⟩; have gg8 := gg7.trans (hb8.mono gg7.size))
        | (go_at_call 8; have _t := tokF; refine (sF.out _ hm6 rk6).mono ?_; rintro e w7 ⟨rfl, hb7⟩; have hY7 := hY6.keep hb7; have hm7 := hm6.keep hb7; have rk7' := rk6'.below hb7; have gg7 := gg6.trans (hb7.mono gg6.size); obtain ⟨y70, y71, y72⟩ := hY7.three; have tokG := trivial)
        | (go_at_call 6; have _t := tokK; refine (sK.out _ rk5).mono ?_; rintro e w6 ⟨rfl, hb6⟩; have hX6 := hX5.keep hb6; have hY6 := hY5.keep hb6; have rk6 := rk5.below hb6; have rk6' := rk5'.below hb6; have gg6 := gg5.trans (hb6.mono gg5.size); have hm6 := hm.keep gg6; obtain ⟨x60, x61, x62⟩ := hX6.three; have tokF := trivial)
        | (go_at_call 6; have _t := tokJ; refine (sJ.out _ rk4 rk4').mono ?_; rintro e w5 ⟨rfl, hb5⟩; have hX5 := hX4.keep hb5; have hY5 := hY4.keep hb5; have rk5 := rk4.below hb5; have rk5' := rk4'.below hb5; have gg5 := gg4.trans (hb5.mono gg4.size); obtain ⟨x50, x51, x52⟩ := hX5.three; obtain ⟨y50, y51, y52⟩ := hY5.three; have tokK := trivial)
        | (go_at_call 7; refine (sS.out _ rk3 rk3').mono ?_; rintro e w4 ⟨rfl, hb4⟩; have hX4 := hX3.keep hb4; have hY4 := hY3.keep hb4; have rk4 := rk3.below hb4; have rk4' := rk3'.below hb4; have gg4 := gg3.trans (hb4.mono gg3.size); obtain ⟨x40, x41, x42⟩ := hX4.three; obtain ⟨y40, y41, y42⟩ := hY4.three; have tokJ := trivial))
      all_goals
        go_ret
        exact ⟨same_ret (by first | rfl | exact same_no hcase.out | exact same_yes hcase.out), gg8⟩
end Go.Proofs.YtjpgdfndlmipcaaDoor.Cd

namespace Go.Proofs.YtjpgdfndlmipcaaDoor
open Go.RowKit
set_option linter.unusedSimpArgs false
set_option linter.unusedVariables false

theorem change_and_shaped {H : Type} {enc : TypeId × Value → H} {a : Assume} {C : Checked} {os : Os} {f : FuncId} {fn : Func} {s : ChangeSpec} {conds : List PathCond} {apart fresh handsOn again : Bool} {X : World → Array Value → Prop}
    (hX : ∀ (w w' : World) (args : Array Value), w.heap = w'.heap → X w args → X w' args)
    (own : ownKnob C.prog.godebug = none) (started : os.Started) (noInit : C.prog.inits.idxOf? f = none) (hfn : C.prog.funcs[f]? = some fn)
    (witness : ∃ (w : World) (tape : Tape) (i : Input), w.os = os ∧ (w.forCall tape i).Shaped C.prog ∧ i.vars = [] ∧ Input.okWide C.prog (w.forCall tape i) .any w.heap.size f i ∧
      ((s.pre enc C.prog fn conds apart (w.forCall tape i).memory i.args ∧ X (w.forCall tape i).memory i.args) ∧ sizedMet enc C.prog fn (OpenSpec.ofChange s) apart (w.forCall tape i).memory i.args) ∧ a.holds C.prog (lone (Frame.enter C.prog f i.args .normal) [] (w.forCall tape i)))
    (contract : ∀ (W : World) (base : Nat) (args : Array Value) (ds gs : List (DataW H)) (before : List MemPlace),
      (∀ (j : Nat) t v, fn.params[j]? = some t → args[j]? = some v → Value.okWide C.prog W .any base t v) →
      DataW.Whole enc C.prog fn.params.toList s.vars apart W args.toList ds gs before →
      W.ShapedOpen C.prog → X W args →
      Calls C.prog f args W fun e W' => ∃ v, e = .returned v ∧ s.post enc C.prog fn apart fresh handsOn again W args v W') :
    ReturnsInHanded a C os f .any (fun w args => (s.pre enc C.prog fn conds apart w args ∧ X w args) ∧ sizedMet enc C.prog fn (OpenSpec.ofChange s) apart w args) (s.post enc C.prog fn apart fresh handsOn again) := by
  refine returnsInHanded_of_calls own started noInit witness ?_
  intro w tape i _ hsh _ hok hpre hholds
  obtain ⟨_, _, _, fn', hfn', _, _, _, _, hval⟩ := hok
  obtain rfl : fn' = fn := Option.some.inj (hfn'.symm.trans hfn)
  obtain ⟨⟨⟨ds, gs, before, hw, hc⟩, hx⟩, hz⟩ := hpre
  refine (contract (w.forCall tape i) w.heap.size i.args ds gs before hval (DataW.Whole.of_heap (w' := w.forCall tape i) (by rfl) hw) hsh (hX _ _ _ (by rfl) hx)).mono fun e W' ⟨v, he, hp⟩ => ?_
  subst he
  exact ChangeSpec.post_blind hp
theorem gm_of {w : World} (h : w.ShapedOpen Tryd.prog) : GM w :=
  cell_of_shapedOpen_int (zero := #[.int .i64 0]) (t := 3) h (of_decide_eq_true (by kernel_rfl)) (by kernel_rfl) rfl (by kernel_rfl) (by kernel_rfl) Tryd.underlying3
end Go.Proofs.YtjpgdfndlmipcaaDoor
