/-
  Contracts of the functions that the law reaches, and plain lemmas. No condition.
-/
import Derived.Test.YthgmofdfecioaaaGreatDoorK6
import Derived.Test.YthgmofdfecioaaaGreatDoorK21
namespace Go.Proofs.YthgmofdfecioaaaGreatDoor
set_option linter.unusedSimpArgs false
set_option linter.unusedVariables false
open Go.RowKit
theorem redI_none {find : Tm → Option (List Int)} {f : Nat} {t : Tm} (h : find t = none) : redI find f t = (some t, 0) := by rw [redI.eq_def]; simp only [h]
theorem redI_zero {find : Tm → Option (List Int)} {t : Tm} {p : List Int} (h : find t = some p) : redI find 0 t = (none, 1) := by rw [redI.eq_def]; simp only [h]
theorem redI_large {find : Tm → Option (List Int)} {f : Nat} {t : Tm} {p : List Int} (h : find t = some p) (h2 : ctdI t p = none) : redI find (f + 1) t = (none, 2) := by rw [redI.eq_def]; simp only [h, h2]
theorem redI_step {find : Tm → Option (List Int)} {f : Nat} {t t' : Tm} {p : List Int} (h : find t = some p) (h2 : ctdI t p = some t') : redI find (f + 1) t = redI find f t' := by rw [redI.eq_def]; simp only [h, h2]
/-- a term, the steps, a code -/
def GotN (w : World) (r : Option Tm × Int) (e : Ending) (w' : World) : Prop :=
  ∃ (k n : Int) (ks : List Tm) (A : Option Addr) (c : Nat) (st : Int), r.1.getD (.mk 0 0 []) = .mk k n ks ∧ e = .returned (.tuple #[.agg #[.int .i64 k, .int .i64 n, .slice A ks.length c], .int .i64 st, .int .i64 r.2]) ∧ ks.length ≤ 9223372036854775807 ∧ RdP (fun b => w.heap.size ≤ b) w' A 0 ks ∧ Below w.heap.size w w'
/-- a term, a code -/
def GotM (w : World) (r : Option Tm × Int) (e : Ending) (w' : World) : Prop :=
  ∃ (k n : Int) (ks : List Tm) (A : Option Addr) (c : Nat), r.1.getD (.mk 0 0 []) = .mk k n ks ∧ e = .returned (.tuple #[.agg #[.int .i64 k, .int .i64 n, .slice A ks.length c], .int .i64 r.2]) ∧ ks.length ≤ 9223372036854775807 ∧ RdP (fun b => w.heap.size ≤ b) w' A 0 ks ∧ Below w.heap.size w w'
theorem Fresh.rd' {B : Nat} {w : World} {A : Option Addr} {ks : List Tm} (h : Fresh B w A ks) : RdP (fun b => B ≤ b) w A 0 ks := h.rdp.mono fun b hb => hb.1
set_option maxHeartbeats 8000000 in
set_option maxRecDepth 100000 in
theorem iRedNorm_any (k n : Int) (ks : List Tm) (A : Option Addr) (c : Nat) (fuel : Nat) (w : World) (hv : validT (.mk k n ks) = true) (hf : fuel ≤ 200) (hr : Rd w A 0 ks) :
    Calls Tryz.prog 45 #[.agg #[.int .i64 k, .int .i64 n, .slice A ks.length c], .int .i64 fuel, .func (.func 46) #[] #[]] w (GotN w (redI outP fuel (.mk k n ks))) := by
  have hz := validT_size' hv
  have hv' := hide hv
  have hF : ∀ (args : Array Value) (w : World), (callFunc 46 args).run Tryz.prog w = .ok (.enter 46 args) w := run_enter Tryz.func46 (by kernel_rfl) (by kernel_rfl)
  have q1 : decide ((fuel : Int) ≤ 200) = true := decide_eq_true (by omega)
  clear hv
  go_enter Tryz.func45, Tryz.ntmps45
  go_wp2_with (first
    | (go_at_call 36; refine (within_any _ _ _ _).mono ?_; rintro e w9 ⟨rfl, rfl⟩)
    | (go_at_call 35; refine (iTermValid_any k n ks A c _ (by omega) ((hr.alloc _).alloc _)).mono ?_; rw [hv'.out]; rintro e w1 ⟨rfl, hb1⟩; have hT1 : Blk w1 w.heap.size #[.int .i64 k, .int .i64 n, .slice A ks.length c] := ((Blk.new_ _ 27 _ rfl).alloc _).keep hb1; have hZ1 : Blk w1 (w.heap.size + 1) #[.int .i64 0, .int .i64 0, .slice none 0 0] := (Blk.new_ _ 27 _ (by simp)).keep hb1; have g1 : Below w.heap.size w w1 := (((Below.refl _ _).alloc (Nat.le_refl _) _).alloc (by simp) _).trans (hb1.mono (by simp; omega)); have r1 := ((hr.alloc (.cells #[.int .i64 k, .int .i64 n, .slice A ks.length c] 27)).alloc (.cells #[.int .i64 0, .int .i64 0, .slice none 0 0] 27)).below hb1))
  go_loopw [9] (fun i wr => ∃ (j : Nat) (kj nj : Int) (ksj : List Tm) (Aj : Option Addr) (cj : Nat), j ≤ fuel ∧ i = .int .i64 j ∧ Hid (redI outP (fuel - j) (.mk kj nj ksj) = redI outP fuel (.mk k n ks)) ∧ Hid (validT (.mk kj nj ksj) = true) ∧ Rd wr Aj 0 ksj ∧ Blk wr w.heap.size #[.int .i64 kj, .int .i64 nj, .slice Aj ksj.length cj] ∧ Blk wr (w.heap.size + 1) #[.int .i64 0, .int .i64 0, .slice none 0 0] ∧ Below w.heap.size w wr)
    (fun i _ => fuel - (intOf i).toNat)
  case atStart => exact ⟨0, k, n, ks, A, c, Nat.zero_le _, rfl, hide rfl, hv', r1, hT1, hZ1, g1⟩
  case round =>
    obtain ⟨j, kj, nj, ksj, Aj, cj, hj, rfl, hred, hvj, hrj, hT, hZ, hb⟩ := hrel
    have hzj := validT_size' hvj.out
    obtain ⟨y0, y1, y2⟩ := hT.three
    cases hfind : outP (.mk kj nj ksj) with
    | none =>
      have hfo := hide hfind
      have hres : redI outP fuel (.mk k n ks) = (some (.mk kj nj ksj), 0) := by rw [← hred.out, redI_none hfind]
      rw [hres]
      clear hres hfind
      go_wp2_with (first
        | (go_at_call 73; have _t := tok1; refine (own_any 10000 kj nj ksj Aj cj _ (by omega) (by omega) r1).mono ?_; rintro e w2 ⟨A2, c2, rfl, hl2, hf2, hb2⟩; have hZ2 := hZ1.keep hb2; have g2 := g1.trans (hb2.mono g1.size); obtain ⟨d0, d1, d2⟩ := hZ2.three; have e0 := hZ2.frozen 0; have e1 := hZ2.frozen 1; have e2 := hZ2.frozen 2)
        | (go_at_call 46; refine (outX_any (sizes ksj + 1) 30 kj nj ksj Aj cj _ (by omega) (by omega) (validT_shape hvj.out) (by omega) hrj).mono ?_; rw [hfo.out]; intro e w1 hp1; obtain ⟨A1, m1, c1, rfl, hb1⟩ := hp1.none_; have hT1 := hT.keep hb1; have hZ1 := hZ.keep hb1; have g1 := hb.trans (hb1.mono hb.size); have r1 := hrj.below hb1; obtain ⟨x0, x1, x2⟩ := hT1.three; have tok1 := trivial))
      have lz := hZ1.lt
      refine bodyPost_ret (v := .tuple #[.agg #[.int .i64 kj, .int .i64 nj, .slice A2 ksj.length c2], .int .i64 j, .int .i64 0]) (by simp [results, Tryz.results45, go_sem, d0, d1, d2]) rfl ⟨kj, nj, ksj, A2, c2, j, rfl, rfl, hl2, ?_, ?_⟩
      · exact ((((hf2.rd'.setCell (by simp; omega) _).setCell (by simp; omega) _).setCell (by simp; omega) _)).mono (fun b hb => Nat.le_trans g1.size hb)
      · exact ((g2.setCell (by simp) _).setCell (by simp) _).setCell (by simp) _
    | some p =>
      obtain ⟨ku, nu, us, hat, hxu⟩ := outP_way _ _ hfind
      have hfo := hide hfind
      have hat' := hide hat
      have hxu' := hide hxu
      by_cases hjf : j = fuel
      · subst hjf
        have hres : redI outP j (.mk k n ks) = (none, 1) := by rw [← hred.out, Nat.sub_self, redI_zero hfind]
        rw [hres]
        clear hres hfind hat hxu
        go_wp2_with (go_at_call 46; refine (outX_any (sizes ksj + 1) 30 kj nj ksj Aj cj _ (by omega) (by omega) (validT_shape hvj.out) (by omega) hrj).mono ?_; rw [hfo.out]; intro e w1 hp1; obtain ⟨A1, m1, c1, rfl, hm1, hmc1, hme, hpx, hb1⟩ := hp1.some_; have hT1 := hT.keep hb1; have hZ1 := hZ.keep hb1; have g1 := hb.trans (hb1.mono hb.size); have r1 := hrj.below hb1; have ri := hpx.rdi; subst hme; obtain ⟨x0, x1, x2⟩ := hT1.three; have tok1 := trivial; obtain ⟨d0, d1, d2⟩ := hZ1.three; have e0 := hZ1.frozen 0; have e1 := hZ1.frozen 1; have e2 := hZ1.frozen 2)
        refine bodyPost_ret (v := .tuple #[.agg #[.int .i64 0, .int .i64 0, .slice none 0 0], .int .i64 j, .int .i64 1]) (by simp [results, Tryz.results45, go_sem, d0, d1, d2]) rfl ⟨0, 0, [], none, 0, j, rfl, rfl, by simp, RdP.nil, ?_⟩
        exact ((g1.setCell (by simp) _).setCell (by simp) _).setCell (by simp) _
      · have hjlt : j < fuel := by omega
        have hq : ((j : Int) == (fuel : Int)) = false := by simp; omega
        obtain ⟨f, hfe⟩ : ∃ f, fuel - j = f + 1 := ⟨fuel - j - 1, by omega⟩
        cases hct : ctdI (.mk kj nj ksj) p with
        | none =>
          have hres : redI outP fuel (.mk k n ks) = (none, 2) := by rw [← hred.out, hfe, redI_large hfind hct]
          rw [hres]
          have hct' := hide hct
          clear hres hfind hat hxu hct
          go_wp2_with (first
            | (go_at_call 74; have _t := tok1; refine (iCtd_any kj nj ksj Aj cj p A1 c1 _ hvj.out (by omega) hmc1 hat'.out hxu'.out r1 ri).mono ?_; rw [hct'.out]; intro e w2 hgo; obtain ⟨rfl, hb2⟩ := gotO_none hgo; have hZ2 := hZ1.keep hb2; have g2 := g1.trans (hb2.mono g1.size); obtain ⟨d0, d1, d2⟩ := hZ2.three; have e0 := hZ2.frozen 0; have e1 := hZ2.frozen 1; have e2 := hZ2.frozen 2; have lz := hZ2.lt; have n1 : w.heap.size + 1 ≠ w2.heap.size := (by omega))
            | (go_at_call 46; refine (outX_any (sizes ksj + 1) 30 kj nj ksj Aj cj _ (by omega) (by omega) (validT_shape hvj.out) (by omega) hrj).mono ?_; rw [hfo.out]; intro e w1 hp1; obtain ⟨A1, m1, c1, rfl, hm1, hmc1, hme, hpx, hb1⟩ := hp1.some_; have hT1 := hT.keep hb1; have hZ1 := hZ.keep hb1; have g1 := hb.trans (hb1.mono hb.size); have r1 := hrj.below hb1; have ri := hpx.rdi; subst hme; obtain ⟨x0, x1, x2⟩ := hT1.three; have tok1 := trivial))
          have y := fun (o : Obj) => (((((hZ2.set_ 0 (.int .i64 0)).set_ 1 (.int .i64 0)).set_ 2 (.slice none 0 0)).alloc o : Blk _ _ #[.int .i64 0, .int .i64 0, .slice none 0 0])).three
          refine bodyPost_ret (v := .tuple #[.agg #[.int .i64 0, .int .i64 0, .slice none 0 0], .int .i64 j, .int .i64 2]) (by simp [results, Tryz.results45, go_sem, y]) rfl ⟨0, 0, [], none, 0, j, rfl, rfl, by simp, RdP.nil, ?_⟩
          exact (((g2.setCell (by simp) _).setCell (by simp) _).setCell (by simp) _).alloc (by simp [World.setCell]; exact g2.size) _
        | some t' =>
          obtain ⟨kt, nt, kst⟩ := t'
          have hvt := hide (ctdI_valid hct)
          have hres := hide (show redI outP (fuel - (j + 1)) (.mk kt nt kst) = redI outP fuel (.mk k n ks) by rw [← hred.out, hfe, redI_step hfind hct]; congr 1; omega)
          have hct' := hide hct
          clear hfind hat hxu hct
          go_wp2_with (first
            | (go_at_call 74; have _t := tok1; refine (iCtd_any kj nj ksj Aj cj p A1 c1 _ hvj.out (by omega) hmc1 hat'.out hxu'.out r1 ri).mono ?_; rw [hct'.out]; intro e w2 hgo; obtain ⟨A2, c2, rfl, hl2, hf2, hb2⟩ := gotO_some hgo; have hT2 := hT1.keep hb2; have hZ2 := hZ1.keep hb2; have g2 := g1.trans (hb2.mono g1.size); have e0 := hT2.frozen 0; have e1 := hT2.frozen 1; have e2 := hT2.frozen 2; obtain ⟨d0, d1, d2⟩ := hT2.three; have lz := hT2.lt)
            | (go_at_call 46; refine (outX_any (sizes ksj + 1) 30 kj nj ksj Aj cj _ (by omega) (by omega) (validT_shape hvj.out) (by omega) hrj).mono ?_; rw [hfo.out]; intro e w1 hp1; obtain ⟨A1, m1, c1, rfl, hm1, hmc1, hme, hpx, hb1⟩ := hp1.some_; have hT1 := hT.keep hb1; have hZ1 := hZ.keep hb1; have g1 := hb.trans (hb1.mono hb.size); have r1 := hrj.below hb1; have ri := hpx.rdi; subst hme; obtain ⟨x0, x1, x2⟩ := hT1.three; have tok1 := trivial))
          have lt1 := hT1.lt
          go_roundw
          case rel =>
            refine ⟨j + 1, kt, nt, kst, A2, c2, by omega, by go_num, hres, hvt, ?_, (((hT2.set_ 0 _).set_ 1 _).set_ 2 _).alloc _, (((hZ2.far (by simp) _).far (by simp) _).far (by simp) _).alloc _, (((g2.setCell (by simp) _).setCell (by simp) _).setCell (by simp) _).alloc (by simp [World.setCell]; exact g2.size) _⟩
            exact ((((hf2.rd'.setCell (by simp; omega) _).setCell (by simp; omega) _).setCell (by simp; omega) _).alloc _).rd
          case measure => simp [intOf]; omega
set_option maxHeartbeats 4000000 in
set_option maxRecDepth 100000 in
theorem iNorm_any (k n : Int) (ks : List Tm) (A : Option Addr) (c : Nat) (fuel : Nat) (w : World) (hv : validT (.mk k n ks) = true) (hf : fuel ≤ 200) (hr : Rd w A 0 ks) :
    Calls Tryz.prog 19 #[.agg #[.int .i64 k, .int .i64 n, .slice A ks.length c], .int .i64 fuel] w (GotM w (redI outP fuel (.mk k n ks))) := by
  generalize hre : redI outP fuel (.mk k n ks) = re
  have hR := hide (fun (w : World) (hr : Rd w A 0 ks) => by have := iRedNorm_any k n ks A c fuel w hv hf hr; rwa [hre] at this)
  clear hre hv
  go_enter Tryz.func19, Tryz.ntmps19
  go_wp2_with (go_at_call 45; refine (hR.out _ ((hr.alloc _).alloc _)).mono ?_; rintro e w1 ⟨k1, n1', ks1, A1, c1, st, hk1, rfl, hl1, r1, hb1⟩; have hZ1 : Blk w1 (w.heap.size + 1) #[.int .i64 0, .int .i64 0, .slice none 0 0] := (Blk.new_ _ 27 _ (by simp)).keep hb1; have g1 : Below w.heap.size w w1 := (((Below.refl _ _).alloc (Nat.le_refl _) _).alloc (by simp) _).trans (hb1.mono (by simp; omega)); obtain ⟨d0, d1, d2⟩ := hZ1.three; have e0 := hZ1.frozen 0; have e1 := hZ1.frozen 1; have e2 := hZ1.frozen 2; have lz := hZ1.lt; have n1 : w.heap.size + 1 ≠ w1.heap.size := (by omega))
  have y := fun (o : Obj) => (((((hZ1.set_ 0 (.int .i64 k1)).set_ 1 (.int .i64 n1')).set_ 2 (.slice A1 ks1.length c1)).alloc o : Blk _ _ #[.int .i64 k1, .int .i64 n1', .slice A1 ks1.length c1])).three
  refine bodyPost_ret (v := .tuple #[.agg #[.int .i64 k1, .int .i64 n1', .slice A1 ks1.length c1], .int .i64 re.2]) (by simp [results, Tryz.results19, go_sem, y]) rfl ⟨k1, n1', ks1, A1, c1, hk1, rfl, hl1, ?_, ?_⟩
  · exact ((((r1.setCell (by simp) _).setCell (by simp) _).setCell (by simp) _).alloc _).mono (fun b hb => by simp at hb; omega)
  · exact (((g1.setCell (by simp) _).setCell (by simp) _).setCell (by simp) _).alloc (by simp [World.setCell]; exact g1.size) _
open Go.RowKit
set_option maxHeartbeats 8000000 in
set_option maxRecDepth 100000 in
theorem iRedHeadN_any (k n : Int) (ks : List Tm) (A : Option Addr) (c : Nat) (fuel : Nat) (w : World) (hv : validT (.mk k n ks) = true) (hf : fuel ≤ 200) (hr : Rd w A 0 ks) :
    Calls Tryz.prog 45 #[.agg #[.int .i64 k, .int .i64 n, .slice A ks.length c], .int .i64 fuel, .func (.func 149) #[] #[]] w (GotN w (redI headP fuel (.mk k n ks))) := by
  have hz := validT_size' hv
  have hv' := hide hv
  have hF : ∀ (args : Array Value) (w : World), (callFunc 149 args).run Tryz.prog w = .ok (.enter 149 args) w := run_enter Tryz.func149 (by kernel_rfl) (by kernel_rfl)
  have q1 : decide ((fuel : Int) ≤ 200) = true := decide_eq_true (by omega)
  clear hv
  go_enter Tryz.func45, Tryz.ntmps45
  go_wp2_with (first
    | (go_at_call 36; refine (within_any _ _ _ _).mono ?_; rintro e w9 ⟨rfl, rfl⟩)
    | (go_at_call 35; refine (iTermValid_any k n ks A c _ (by omega) ((hr.alloc _).alloc _)).mono ?_; rw [hv'.out]; rintro e w1 ⟨rfl, hb1⟩; have hT1 : Blk w1 w.heap.size #[.int .i64 k, .int .i64 n, .slice A ks.length c] := ((Blk.new_ _ 27 _ rfl).alloc _).keep hb1; have hZ1 : Blk w1 (w.heap.size + 1) #[.int .i64 0, .int .i64 0, .slice none 0 0] := (Blk.new_ _ 27 _ (by simp)).keep hb1; have g1 : Below w.heap.size w w1 := (((Below.refl _ _).alloc (Nat.le_refl _) _).alloc (by simp) _).trans (hb1.mono (by simp; omega)); have r1 := ((hr.alloc (.cells #[.int .i64 k, .int .i64 n, .slice A ks.length c] 27)).alloc (.cells #[.int .i64 0, .int .i64 0, .slice none 0 0] 27)).below hb1))
  go_loopw [9] (fun i wr => ∃ (j : Nat) (kj nj : Int) (ksj : List Tm) (Aj : Option Addr) (cj : Nat), j ≤ fuel ∧ i = .int .i64 j ∧ Hid (redI headP (fuel - j) (.mk kj nj ksj) = redI headP fuel (.mk k n ks)) ∧ Hid (validT (.mk kj nj ksj) = true) ∧ Rd wr Aj 0 ksj ∧ Blk wr w.heap.size #[.int .i64 kj, .int .i64 nj, .slice Aj ksj.length cj] ∧ Blk wr (w.heap.size + 1) #[.int .i64 0, .int .i64 0, .slice none 0 0] ∧ Below w.heap.size w wr)
    (fun i _ => fuel - (intOf i).toNat)
  case atStart => exact ⟨0, k, n, ks, A, c, Nat.zero_le _, rfl, hide rfl, hv', r1, hT1, hZ1, g1⟩
  case round =>
    obtain ⟨j, kj, nj, ksj, Aj, cj, hj, rfl, hred, hvj, hrj, hT, hZ, hb⟩ := hrel
    have hzj := validT_size' hvj.out
    obtain ⟨y0, y1, y2⟩ := hT.three
    cases hfind : headP (.mk kj nj ksj) with
    | none =>
      have hfo := hide hfind
      have hres : redI headP fuel (.mk k n ks) = (some (.mk kj nj ksj), 0) := by rw [← hred.out, redI_none hfind]
      rw [hres]
      clear hres hfind
      go_wp2_with (first
        | (go_at_call 73; have _t := tok1; refine (own_any 10000 kj nj ksj Aj cj _ (by omega) (by omega) r1).mono ?_; rintro e w2 ⟨A2, c2, rfl, hl2, hf2, hb2⟩; have hZ2 := hZ1.keep hb2; have g2 := g1.trans (hb2.mono g1.size); obtain ⟨d0, d1, d2⟩ := hZ2.three; have e0 := hZ2.frozen 0; have e1 := hZ2.frozen 1; have e2 := hZ2.frozen 2)
        | (go_at_call 149; refine (headX_any (sizes ksj + 1) 30 kj nj ksj Aj cj _ (by omega) (by omega) (validT_shape hvj.out) (by omega) hrj).mono ?_; rw [hfo.out]; intro e w1 hp1; obtain ⟨A1, m1, c1, rfl, hb1⟩ := hp1.none_; have hT1 := hT.keep hb1; have hZ1 := hZ.keep hb1; have g1 := hb.trans (hb1.mono hb.size); have r1 := hrj.below hb1; obtain ⟨x0, x1, x2⟩ := hT1.three; have tok1 := trivial))
      have lz := hZ1.lt
      refine bodyPost_ret (v := .tuple #[.agg #[.int .i64 kj, .int .i64 nj, .slice A2 ksj.length c2], .int .i64 j, .int .i64 0]) (by simp [results, Tryz.results45, go_sem, d0, d1, d2]) rfl ⟨kj, nj, ksj, A2, c2, j, rfl, rfl, hl2, ?_, ?_⟩
      · exact ((((hf2.rd'.setCell (by simp; omega) _).setCell (by simp; omega) _).setCell (by simp; omega) _)).mono (fun b hb => Nat.le_trans g1.size hb)
      · exact ((g2.setCell (by simp) _).setCell (by simp) _).setCell (by simp) _
    | some p =>
      obtain ⟨ku, nu, us, hat, hxu⟩ := headP_way _ _ hfind
      have hfo := hide hfind
      have hat' := hide hat
      have hxu' := hide hxu
      by_cases hjf : j = fuel
      · subst hjf
        have hres : redI headP j (.mk k n ks) = (none, 1) := by rw [← hred.out, Nat.sub_self, redI_zero hfind]
        rw [hres]
        clear hres hfind hat hxu
        go_wp2_with (go_at_call 149; refine (headX_any (sizes ksj + 1) 30 kj nj ksj Aj cj _ (by omega) (by omega) (validT_shape hvj.out) (by omega) hrj).mono ?_; rw [hfo.out]; intro e w1 hp1; obtain ⟨A1, m1, c1, rfl, hm1, hmc1, hme, hpx, hb1⟩ := hp1.some_; have hT1 := hT.keep hb1; have hZ1 := hZ.keep hb1; have g1 := hb.trans (hb1.mono hb.size); have r1 := hrj.below hb1; have ri := hpx.rdi; subst hme; obtain ⟨x0, x1, x2⟩ := hT1.three; have tok1 := trivial; obtain ⟨d0, d1, d2⟩ := hZ1.three; have e0 := hZ1.frozen 0; have e1 := hZ1.frozen 1; have e2 := hZ1.frozen 2)
        refine bodyPost_ret (v := .tuple #[.agg #[.int .i64 0, .int .i64 0, .slice none 0 0], .int .i64 j, .int .i64 1]) (by simp [results, Tryz.results45, go_sem, d0, d1, d2]) rfl ⟨0, 0, [], none, 0, j, rfl, rfl, by simp, RdP.nil, ?_⟩
        exact ((g1.setCell (by simp) _).setCell (by simp) _).setCell (by simp) _
      · have hjlt : j < fuel := by omega
        have hq : ((j : Int) == (fuel : Int)) = false := by simp; omega
        obtain ⟨f, hfe⟩ : ∃ f, fuel - j = f + 1 := ⟨fuel - j - 1, by omega⟩
        cases hct : ctdI (.mk kj nj ksj) p with
        | none =>
          have hres : redI headP fuel (.mk k n ks) = (none, 2) := by rw [← hred.out, hfe, redI_large hfind hct]
          rw [hres]
          have hct' := hide hct
          clear hres hfind hat hxu hct
          go_wp2_with (first
            | (go_at_call 74; have _t := tok1; refine (iCtd_any kj nj ksj Aj cj p A1 c1 _ hvj.out (by omega) hmc1 hat'.out hxu'.out r1 ri).mono ?_; rw [hct'.out]; intro e w2 hgo; obtain ⟨rfl, hb2⟩ := gotO_none hgo; have hZ2 := hZ1.keep hb2; have g2 := g1.trans (hb2.mono g1.size); obtain ⟨d0, d1, d2⟩ := hZ2.three; have e0 := hZ2.frozen 0; have e1 := hZ2.frozen 1; have e2 := hZ2.frozen 2; have lz := hZ2.lt; have n1 : w.heap.size + 1 ≠ w2.heap.size := (by omega))
            | (go_at_call 149; refine (headX_any (sizes ksj + 1) 30 kj nj ksj Aj cj _ (by omega) (by omega) (validT_shape hvj.out) (by omega) hrj).mono ?_; rw [hfo.out]; intro e w1 hp1; obtain ⟨A1, m1, c1, rfl, hm1, hmc1, hme, hpx, hb1⟩ := hp1.some_; have hT1 := hT.keep hb1; have hZ1 := hZ.keep hb1; have g1 := hb.trans (hb1.mono hb.size); have r1 := hrj.below hb1; have ri := hpx.rdi; subst hme; obtain ⟨x0, x1, x2⟩ := hT1.three; have tok1 := trivial))
          have y := fun (o : Obj) => (((((hZ2.set_ 0 (.int .i64 0)).set_ 1 (.int .i64 0)).set_ 2 (.slice none 0 0)).alloc o : Blk _ _ #[.int .i64 0, .int .i64 0, .slice none 0 0])).three
          refine bodyPost_ret (v := .tuple #[.agg #[.int .i64 0, .int .i64 0, .slice none 0 0], .int .i64 j, .int .i64 2]) (by simp [results, Tryz.results45, go_sem, y]) rfl ⟨0, 0, [], none, 0, j, rfl, rfl, by simp, RdP.nil, ?_⟩
          exact (((g2.setCell (by simp) _).setCell (by simp) _).setCell (by simp) _).alloc (by simp [World.setCell]; exact g2.size) _
        | some t' =>
          obtain ⟨kt, nt, kst⟩ := t'
          have hvt := hide (ctdI_valid hct)
          have hres := hide (show redI headP (fuel - (j + 1)) (.mk kt nt kst) = redI headP fuel (.mk k n ks) by rw [← hred.out, hfe, redI_step hfind hct]; congr 1; omega)
          have hct' := hide hct
          clear hfind hat hxu hct
          go_wp2_with (first
            | (go_at_call 74; have _t := tok1; refine (iCtd_any kj nj ksj Aj cj p A1 c1 _ hvj.out (by omega) hmc1 hat'.out hxu'.out r1 ri).mono ?_; rw [hct'.out]; intro e w2 hgo; obtain ⟨A2, c2, rfl, hl2, hf2, hb2⟩ := gotO_some hgo; have hT2 := hT1.keep hb2; have hZ2 := hZ1.keep hb2; have g2 := g1.trans (hb2.mono g1.size); have e0 := hT2.frozen 0; have e1 := hT2.frozen 1; have e2 := hT2.frozen 2; obtain ⟨d0, d1, d2⟩ := hT2.three; have lz := hT2.lt)
            | (go_at_call 149; refine (headX_any (sizes ksj + 1) 30 kj nj ksj Aj cj _ (by omega) (by omega) (validT_shape hvj.out) (by omega) hrj).mono ?_; rw [hfo.out]; intro e w1 hp1; obtain ⟨A1, m1, c1, rfl, hm1, hmc1, hme, hpx, hb1⟩ := hp1.some_; have hT1 := hT.keep hb1; have hZ1 := hZ.keep hb1; have g1 := hb.trans (hb1.mono hb.size); have r1 := hrj.below hb1; have ri := hpx.rdi; subst hme; obtain ⟨x0, x1, x2⟩ := hT1.three; have tok1 := trivial))
          have lt1 := hT1.lt
          go_roundw
          case rel =>
            refine ⟨j + 1, kt, nt, kst, A2, c2, by omega, by go_num, hres, hvt, ?_, (((hT2.set_ 0 _).set_ 1 _).set_ 2 _).alloc _, (((hZ2.far (by simp) _).far (by simp) _).far (by simp) _).alloc _, (((g2.setCell (by simp) _).setCell (by simp) _).setCell (by simp) _).alloc (by simp [World.setCell]; exact g2.size) _⟩
            exact ((((hf2.rd'.setCell (by simp; omega) _).setCell (by simp; omega) _).setCell (by simp; omega) _).alloc _).rd
          case measure => simp [intOf]; omega
set_option maxHeartbeats 4000000 in
set_option maxRecDepth 100000 in
theorem iHeadN_any (k n : Int) (ks : List Tm) (A : Option Addr) (c : Nat) (fuel : Nat) (w : World) (hv : validT (.mk k n ks) = true) (hf : fuel ≤ 200) (hr : Rd w A 0 ks) :
    Calls Tryz.prog 122 #[.agg #[.int .i64 k, .int .i64 n, .slice A ks.length c], .int .i64 fuel] w (GotM w (redI headP fuel (.mk k n ks))) := by
  generalize hre : redI headP fuel (.mk k n ks) = re
  have hR := hide (fun (w : World) (hr : Rd w A 0 ks) => by have := iRedHeadN_any k n ks A c fuel w hv hf hr; rwa [hre] at this)
  clear hre hv
  go_enter Tryz.func122, Tryz.ntmps122
  go_wp2_with (go_at_call 45; refine (hR.out _ ((hr.alloc _).alloc _)).mono ?_; rintro e w1 ⟨k1, n1', ks1, A1, c1, st, hk1, rfl, hl1, r1, hb1⟩; have hZ1 : Blk w1 (w.heap.size + 1) #[.int .i64 0, .int .i64 0, .slice none 0 0] := (Blk.new_ _ 27 _ (by simp)).keep hb1; have g1 : Below w.heap.size w w1 := (((Below.refl _ _).alloc (Nat.le_refl _) _).alloc (by simp) _).trans (hb1.mono (by simp; omega)); obtain ⟨d0, d1, d2⟩ := hZ1.three; have e0 := hZ1.frozen 0; have e1 := hZ1.frozen 1; have e2 := hZ1.frozen 2; have lz := hZ1.lt; have n1 : w.heap.size + 1 ≠ w1.heap.size := (by omega))
  have y := fun (o : Obj) => (((((hZ1.set_ 0 (.int .i64 k1)).set_ 1 (.int .i64 n1')).set_ 2 (.slice A1 ks1.length c1)).alloc o : Blk _ _ #[.int .i64 k1, .int .i64 n1', .slice A1 ks1.length c1])).three
  refine bodyPost_ret (v := .tuple #[.agg #[.int .i64 k1, .int .i64 n1', .slice A1 ks1.length c1], .int .i64 re.2]) (by simp [results, Tryz.results122, go_sem, y]) rfl ⟨k1, n1', ks1, A1, c1, hk1, rfl, hl1, ?_, ?_⟩
  · exact ((((r1.setCell (by simp) _).setCell (by simp) _).setCell (by simp) _).alloc _).mono (fun b hb => by simp at hb; omega)
  · exact (((g1.setCell (by simp) _).setCell (by simp) _).setCell (by simp) _).alloc (by simp [World.setCell]; exact g1.size) _
open Go.RowKit
theorem gotM_at {w : World} {r : Option Tm × Int} {e : Ending} {w' : World} (h : GotM w r e w') {k n c : Int} {ks : List Tm} (h1 : r.1.getD (.mk 0 0 []) = .mk k n ks) (h2 : r.2 = c) :
    ∃ A d, e = .returned (.tuple #[.agg #[.int .i64 k, .int .i64 n, .slice A ks.length d], .int .i64 c]) ∧ ks.length ≤ 9223372036854775807 ∧ Rd w' A 0 ks ∧ Below w.heap.size w w' := by
  obtain ⟨k1, n1, ks1, A, d, hk, rfl, hl, hr, hb⟩ := h
  rw [h1] at hk
  injection hk with a1 a2 a3
  subst a1 a2 a3 h2
  exact ⟨A, d, rfl, hl, hr.rd, hb⟩
set_option maxHeartbeats 8000000 in
set_option maxRecDepth 100000 in
theorem iConv_any (k n : Int) (ks : List Tm) (A : Option Addr) (c : Nat) (k' n' : Int) (ls : List Tm) (B : Option Addr) (d : Nat) (fuel : Nat) (w : World) (hf : fuel ≤ 200) (hv : validT (.mk k n ks) = true) (hv' : validT (.mk k' n' ls) = true) (hr : Rd w A 0 ks) (hr' : Rd w B 0 ls) :
    Calls Tryz.prog 10 #[.agg #[.int .i64 k, .int .i64 n, .slice A ks.length c], .agg #[.int .i64 k', .int .i64 n', .slice B ls.length d], .int .i64 fuel] w fun e w' => e = .returned (.int .i64 (convI fuel (.mk k n ks) (.mk k' n' ls))) ∧ Below w.heap.size w w' := by
  have hz := validT_size' hv
  have hz' := validT_size' hv'
  have hl1 := length_le_sizes ks
  have hl2 := length_le_sizes ls
  have q1 : decide ((fuel : Int) ≤ 200) = true := decide_eq_true (by omega)
  obtain ⟨xk, xn, xs, hx⟩ : ∃ a b l, (redI outP fuel (.mk k n ks)).1.getD (.mk 0 0 []) = .mk a b l := by cases (redI outP fuel (.mk k n ks)).1.getD (.mk 0 0 []) with | mk a b l => exact ⟨a, b, l, rfl⟩
  obtain ⟨yk, yn, ys, hy⟩ : ∃ a b l, (redI outP fuel (.mk k' n' ls)).1.getD (.mk 0 0 []) = .mk a b l := by cases (redI outP fuel (.mk k' n' ls)).1.getD (.mk 0 0 []) with | mk a b l => exact ⟨a, b, l, rfl⟩
  obtain ⟨ca, hca⟩ : ∃ z, (redI outP fuel (.mk k n ks)).2 = z := ⟨_, rfl⟩
  obtain ⟨cb, hcb⟩ : ∃ z, (redI outP fuel (.mk k' n' ls)).2 = z := ⟨_, rfl⟩
  have hN1 := hide (fun (w : World) (hr : Rd w A 0 ks) => (iNorm_any k n ks A c fuel w hv hf hr).mono fun e w' h => gotM_at h hx hca)
  have hN2 := hide (fun (w : World) (hr : Rd w B 0 ls) => (iNorm_any k' n' ls B d fuel w hv' hf hr).mono fun e w' h => gotM_at h hy hcb)
  have hcv : convI fuel (.mk k n ks) (.mk k' n' ls) = if tmEq (.mk k n ks) (.mk k' n' ls) = true then 1 else if ca ≠ 0 ∨ cb ≠ 0 then 3 else if tmEq (.mk xk xn xs) (.mk yk yn ys) = true then 1 else 2 := by rw [convI, hx, hy, hca, hcb]
  rw [hcv]
  have hv1 := hide hv
  have hv2 := hide hv'
  clear hcv hx hy hca hcb hv hv'
  cases hT : tmEq (.mk k n ks) (.mk k' n' ls) with
  | true =>
    rw [if_pos rfl]
    replace hT := hide hT
    go_enter Tryz.func10, Tryz.ntmps10
    go_wp2_with (first
    | (go_at_call 9; have _t := tok2; refine (iSame_any k n ks A c k' n' ls B d _ (by omega) (by omega) (hr.below g2) (hr'.below g2)).mono ?_; rw [hT.out]; rintro e w3 ⟨rfl, hb3⟩; have hX3 := hX2.keep hb3; have hY3 := hY2.keep hb3; have g3 := g2.trans (hb3.mono g2.size); clear x0 x1 x2 y0 y1 y2; obtain ⟨x0, x1, x2⟩ := hX3.three; obtain ⟨y0, y1, y2⟩ := hY3.three; have tok3 := trivial)
    | (go_at_call 36; refine (within_any _ _ _ _).mono ?_; rintro e w9 ⟨rfl, rfl⟩)
    | (go_at_call 35; have _t := tok1; refine (iTermValid_any k' n' ls B d _ (by omega) (hr'.below g1)).mono ?_; rw [hv2.out]; rintro e w2 ⟨rfl, hb2⟩; have hX2 := hX1.keep hb2; have hY2 := hY1.keep hb2; have g2 := g1.trans (hb2.mono g1.size); clear x0 x1 x2 y0 y1 y2; obtain ⟨x0, x1, x2⟩ := hX2.three; obtain ⟨y0, y1, y2⟩ := hY2.three; have tok2 := trivial)
    | (go_at_call 35; refine (iTermValid_any k n ks A c _ (by omega) ((hr.alloc _).alloc _)).mono ?_; rw [hv1.out]; rintro e w1 ⟨rfl, hb1⟩; have hX1 : Blk w1 w.heap.size #[.int .i64 k, .int .i64 n, .slice A ks.length c] := ((Blk.new_ _ 27 _ rfl).alloc _).keep hb1; have hY1 : Blk w1 (w.heap.size + 1) #[.int .i64 k', .int .i64 n', .slice B ls.length d] := (Blk.new_ _ 27 _ (by simp)).keep hb1; have g1 : Below w.heap.size w w1 := (((Below.refl _ _).alloc (Nat.le_refl _) _).alloc (by simp) _).trans (hb1.mono (by simp; omega)); obtain ⟨x0, x1, x2⟩ := hX1.three; obtain ⟨y0, y1, y2⟩ := hY1.three; have tok1 := trivial))
    go_ret
    exact ⟨rfl, g3⟩
  | false =>
    rw [if_neg (by simp)]
    replace hT := hide hT
    by_cases h1 : ca = 0
    · by_cases h2 : cb = 0
      · rw [if_neg (by omega)]
        subst h1 h2
        cases hU : tmEq (.mk xk xn xs) (.mk yk yn ys) with
        | true =>
          rw [if_pos rfl]
          replace hU := hide hU
          go_enter Tryz.func10, Tryz.ntmps10
          go_wp2_with (first
    | (go_at_call 9; have _t := tok5; refine (iSame_any xk xn xs A4 c4 yk yn ys A5 c5 _ hl4 hl5 (r45.alloc _) (r5.alloc _)).mono ?_; rw [hU.out]; rintro e w6 ⟨rfl, hb6⟩; have g6 := (g5.alloc g5.size (.cells #[.int .i64 yk, .int .i64 yn, .slice A5 ys.length c5] 27)).trans (hb6.mono (by have := g5.size; simp; omega)))
    | (go_at_call 19; have _t := tok4; refine (hN2.out _ ((hr'.below g4).alloc _)).mono ?_; rintro e w5 ⟨A5, c5, rfl, hl5, r5, hb5⟩; have hP5 := (Blk.new_ w4 27 #[.int .i64 xk, .int .i64 xn, .slice A4 xs.length c4] rfl).keep hb5; have g5 := (g4.alloc g4.size (.cells #[.int .i64 xk, .int .i64 xn, .slice A4 xs.length c4] 27)).trans (hb5.mono (by have := g4.size; simp; omega)); have r45 := (r4.alloc (.cells #[.int .i64 xk, .int .i64 xn, .slice A4 xs.length c4] 27)).below hb5; obtain ⟨p0, p1, p2⟩ := hP5.three; have lp := hP5.lt; have tok5 := trivial)
    | (go_at_call 19; have _t := tok3; refine (hN1.out _ (hr.below g3)).mono ?_; rintro e w4 ⟨A4, c4, rfl, hl4, r4, hb4⟩; have hY4 := hY3.keep hb4; have g4 := g3.trans (hb4.mono g3.size); clear x0 x1 x2 y0 y1 y2; obtain ⟨y0, y1, y2⟩ := hY4.three; have ly4 := hY4.lt; have tok4 := trivial)
    | (go_at_call 9; have _t := tok2; refine (iSame_any k n ks A c k' n' ls B d _ (by omega) (by omega) (hr.below g2) (hr'.below g2)).mono ?_; rw [hT.out]; rintro e w3 ⟨rfl, hb3⟩; have hX3 := hX2.keep hb3; have hY3 := hY2.keep hb3; have g3 := g2.trans (hb3.mono g2.size); clear x0 x1 x2 y0 y1 y2; obtain ⟨x0, x1, x2⟩ := hX3.three; obtain ⟨y0, y1, y2⟩ := hY3.three; have tok3 := trivial)
    | (go_at_call 36; refine (within_any _ _ _ _).mono ?_; rintro e w9 ⟨rfl, rfl⟩)
    | (go_at_call 35; have _t := tok1; refine (iTermValid_any k' n' ls B d _ (by omega) (hr'.below g1)).mono ?_; rw [hv2.out]; rintro e w2 ⟨rfl, hb2⟩; have hX2 := hX1.keep hb2; have hY2 := hY1.keep hb2; have g2 := g1.trans (hb2.mono g1.size); clear x0 x1 x2 y0 y1 y2; obtain ⟨x0, x1, x2⟩ := hX2.three; obtain ⟨y0, y1, y2⟩ := hY2.three; have tok2 := trivial)
    | (go_at_call 35; refine (iTermValid_any k n ks A c _ (by omega) ((hr.alloc _).alloc _)).mono ?_; rw [hv1.out]; rintro e w1 ⟨rfl, hb1⟩; have hX1 : Blk w1 w.heap.size #[.int .i64 k, .int .i64 n, .slice A ks.length c] := ((Blk.new_ _ 27 _ rfl).alloc _).keep hb1; have hY1 : Blk w1 (w.heap.size + 1) #[.int .i64 k', .int .i64 n', .slice B ls.length d] := (Blk.new_ _ 27 _ (by simp)).keep hb1; have g1 : Below w.heap.size w w1 := (((Below.refl _ _).alloc (Nat.le_refl _) _).alloc (by simp) _).trans (hb1.mono (by simp; omega)); obtain ⟨x0, x1, x2⟩ := hX1.three; obtain ⟨y0, y1, y2⟩ := hY1.three; have tok1 := trivial))
          go_ret
          exact ⟨rfl, g6⟩
        | false =>
          rw [if_neg (by simp)]
          replace hU := hide hU
          go_enter Tryz.func10, Tryz.ntmps10
          go_wp2_with (first
    | (go_at_call 9; have _t := tok5; refine (iSame_any xk xn xs A4 c4 yk yn ys A5 c5 _ hl4 hl5 (r45.alloc _) (r5.alloc _)).mono ?_; rw [hU.out]; rintro e w6 ⟨rfl, hb6⟩; have g6 := (g5.alloc g5.size (.cells #[.int .i64 yk, .int .i64 yn, .slice A5 ys.length c5] 27)).trans (hb6.mono (by have := g5.size; simp; omega)))
    | (go_at_call 19; have _t := tok4; refine (hN2.out _ ((hr'.below g4).alloc _)).mono ?_; rintro e w5 ⟨A5, c5, rfl, hl5, r5, hb5⟩; have hP5 := (Blk.new_ w4 27 #[.int .i64 xk, .int .i64 xn, .slice A4 xs.length c4] rfl).keep hb5; have g5 := (g4.alloc g4.size (.cells #[.int .i64 xk, .int .i64 xn, .slice A4 xs.length c4] 27)).trans (hb5.mono (by have := g4.size; simp; omega)); have r45 := (r4.alloc (.cells #[.int .i64 xk, .int .i64 xn, .slice A4 xs.length c4] 27)).below hb5; obtain ⟨p0, p1, p2⟩ := hP5.three; have lp := hP5.lt; have tok5 := trivial)
    | (go_at_call 19; have _t := tok3; refine (hN1.out _ (hr.below g3)).mono ?_; rintro e w4 ⟨A4, c4, rfl, hl4, r4, hb4⟩; have hY4 := hY3.keep hb4; have g4 := g3.trans (hb4.mono g3.size); clear x0 x1 x2 y0 y1 y2; obtain ⟨y0, y1, y2⟩ := hY4.three; have ly4 := hY4.lt; have tok4 := trivial)
    | (go_at_call 9; have _t := tok2; refine (iSame_any k n ks A c k' n' ls B d _ (by omega) (by omega) (hr.below g2) (hr'.below g2)).mono ?_; rw [hT.out]; rintro e w3 ⟨rfl, hb3⟩; have hX3 := hX2.keep hb3; have hY3 := hY2.keep hb3; have g3 := g2.trans (hb3.mono g2.size); clear x0 x1 x2 y0 y1 y2; obtain ⟨x0, x1, x2⟩ := hX3.three; obtain ⟨y0, y1, y2⟩ := hY3.three; have tok3 := trivial)
    | (go_at_call 36; refine (within_any _ _ _ _).mono ?_; rintro e w9 ⟨rfl, rfl⟩)
    | (go_at_call 35; have _t := tok1; refine (iTermValid_any k' n' ls B d _ (by omega) (hr'.below g1)).mono ?_; rw [hv2.out]; rintro e w2 ⟨rfl, hb2⟩; have hX2 := hX1.keep hb2; have hY2 := hY1.keep hb2; have g2 := g1.trans (hb2.mono g1.size); clear x0 x1 x2 y0 y1 y2; obtain ⟨x0, x1, x2⟩ := hX2.three; obtain ⟨y0, y1, y2⟩ := hY2.three; have tok2 := trivial)
    | (go_at_call 35; refine (iTermValid_any k n ks A c _ (by omega) ((hr.alloc _).alloc _)).mono ?_; rw [hv1.out]; rintro e w1 ⟨rfl, hb1⟩; have hX1 : Blk w1 w.heap.size #[.int .i64 k, .int .i64 n, .slice A ks.length c] := ((Blk.new_ _ 27 _ rfl).alloc _).keep hb1; have hY1 : Blk w1 (w.heap.size + 1) #[.int .i64 k', .int .i64 n', .slice B ls.length d] := (Blk.new_ _ 27 _ (by simp)).keep hb1; have g1 : Below w.heap.size w w1 := (((Below.refl _ _).alloc (Nat.le_refl _) _).alloc (by simp) _).trans (hb1.mono (by simp; omega)); obtain ⟨x0, x1, x2⟩ := hX1.three; obtain ⟨y0, y1, y2⟩ := hY1.three; have tok1 := trivial))
          go_ret
          exact ⟨rfl, g6⟩
      · rw [if_pos (.inr h2)]
        subst h1
        have q2 : (cb != 0) = true := by simpa using h2
        clear h2
        go_enter Tryz.func10, Tryz.ntmps10
        go_wp2_with (first
    | (go_at_call 19; have _t := tok4; refine (hN2.out _ ((hr'.below g4).alloc _)).mono ?_; rintro e w5 ⟨A5, c5, rfl, hl5, r5, hb5⟩; have hP5 := (Blk.new_ w4 27 #[.int .i64 xk, .int .i64 xn, .slice A4 xs.length c4] rfl).keep hb5; have g5 := (g4.alloc g4.size (.cells #[.int .i64 xk, .int .i64 xn, .slice A4 xs.length c4] 27)).trans (hb5.mono (by have := g4.size; simp; omega)); have r45 := (r4.alloc (.cells #[.int .i64 xk, .int .i64 xn, .slice A4 xs.length c4] 27)).below hb5; obtain ⟨p0, p1, p2⟩ := hP5.three; have lp := hP5.lt; have tok5 := trivial)
    | (go_at_call 19; have _t := tok3; refine (hN1.out _ (hr.below g3)).mono ?_; rintro e w4 ⟨A4, c4, rfl, hl4, r4, hb4⟩; have hY4 := hY3.keep hb4; have g4 := g3.trans (hb4.mono g3.size); clear x0 x1 x2 y0 y1 y2; obtain ⟨y0, y1, y2⟩ := hY4.three; have ly4 := hY4.lt; have tok4 := trivial)
    | (go_at_call 9; have _t := tok2; refine (iSame_any k n ks A c k' n' ls B d _ (by omega) (by omega) (hr.below g2) (hr'.below g2)).mono ?_; rw [hT.out]; rintro e w3 ⟨rfl, hb3⟩; have hX3 := hX2.keep hb3; have hY3 := hY2.keep hb3; have g3 := g2.trans (hb3.mono g2.size); clear x0 x1 x2 y0 y1 y2; obtain ⟨x0, x1, x2⟩ := hX3.three; obtain ⟨y0, y1, y2⟩ := hY3.three; have tok3 := trivial)
    | (go_at_call 36; refine (within_any _ _ _ _).mono ?_; rintro e w9 ⟨rfl, rfl⟩)
    | (go_at_call 35; have _t := tok1; refine (iTermValid_any k' n' ls B d _ (by omega) (hr'.below g1)).mono ?_; rw [hv2.out]; rintro e w2 ⟨rfl, hb2⟩; have hX2 := hX1.keep hb2; have hY2 := hY1.keep hb2; have g2 := g1.trans (hb2.mono g1.size); clear x0 x1 x2 y0 y1 y2; obtain ⟨x0, x1, x2⟩ := hX2.three; obtain ⟨y0, y1, y2⟩ := hY2.three; have tok2 := trivial)
    | (go_at_call 35; refine (iTermValid_any k n ks A c _ (by omega) ((hr.alloc _).alloc _)).mono ?_; rw [hv1.out]; rintro e w1 ⟨rfl, hb1⟩; have hX1 : Blk w1 w.heap.size #[.int .i64 k, .int .i64 n, .slice A ks.length c] := ((Blk.new_ _ 27 _ rfl).alloc _).keep hb1; have hY1 : Blk w1 (w.heap.size + 1) #[.int .i64 k', .int .i64 n', .slice B ls.length d] := (Blk.new_ _ 27 _ (by simp)).keep hb1; have g1 : Below w.heap.size w w1 := (((Below.refl _ _).alloc (Nat.le_refl _) _).alloc (by simp) _).trans (hb1.mono (by simp; omega)); obtain ⟨x0, x1, x2⟩ := hX1.three; obtain ⟨y0, y1, y2⟩ := hY1.three; have tok1 := trivial))
        go_ret
        exact ⟨rfl, g5.alloc g5.size _⟩
    · rw [if_pos (.inl h1)]
      have q2 : (ca != 0) = true := by simpa using h1
      clear h1
      go_enter Tryz.func10, Tryz.ntmps10
      go_wp2_with (first
    | (go_at_call 19; have _t := tok4; refine (hN2.out _ ((hr'.below g4).alloc _)).mono ?_; rintro e w5 ⟨A5, c5, rfl, hl5, r5, hb5⟩; have hP5 := (Blk.new_ w4 27 #[.int .i64 xk, .int .i64 xn, .slice A4 xs.length c4] rfl).keep hb5; have g5 := (g4.alloc g4.size (.cells #[.int .i64 xk, .int .i64 xn, .slice A4 xs.length c4] 27)).trans (hb5.mono (by have := g4.size; simp; omega)); have r45 := (r4.alloc (.cells #[.int .i64 xk, .int .i64 xn, .slice A4 xs.length c4] 27)).below hb5; obtain ⟨p0, p1, p2⟩ := hP5.three; have lp := hP5.lt; have tok5 := trivial)
    | (go_at_call 19; have _t := tok3; refine (hN1.out _ (hr.below g3)).mono ?_; rintro e w4 ⟨A4, c4, rfl, hl4, r4, hb4⟩; have hY4 := hY3.keep hb4; have g4 := g3.trans (hb4.mono g3.size); clear x0 x1 x2 y0 y1 y2; obtain ⟨y0, y1, y2⟩ := hY4.three; have ly4 := hY4.lt; have tok4 := trivial)
    | (go_at_call 9; have _t := tok2; refine (iSame_any k n ks A c k' n' ls B d _ (by omega) (by omega) (hr.below g2) (hr'.below g2)).mono ?_; rw [hT.out]; rintro e w3 ⟨rfl, hb3⟩; have hX3 := hX2.keep hb3; have hY3 := hY2.keep hb3; have g3 := g2.trans (hb3.mono g2.size); clear x0 x1 x2 y0 y1 y2; obtain ⟨x0, x1, x2⟩ := hX3.three; obtain ⟨y0, y1, y2⟩ := hY3.three; have tok3 := trivial)
    | (go_at_call 36; refine (within_any _ _ _ _).mono ?_; rintro e w9 ⟨rfl, rfl⟩)
    | (go_at_call 35; have _t := tok1; refine (iTermValid_any k' n' ls B d _ (by omega) (hr'.below g1)).mono ?_; rw [hv2.out]; rintro e w2 ⟨rfl, hb2⟩; have hX2 := hX1.keep hb2; have hY2 := hY1.keep hb2; have g2 := g1.trans (hb2.mono g1.size); clear x0 x1 x2 y0 y1 y2; obtain ⟨x0, x1, x2⟩ := hX2.three; obtain ⟨y0, y1, y2⟩ := hY2.three; have tok2 := trivial)
    | (go_at_call 35; refine (iTermValid_any k n ks A c _ (by omega) ((hr.alloc _).alloc _)).mono ?_; rw [hv1.out]; rintro e w1 ⟨rfl, hb1⟩; have hX1 : Blk w1 w.heap.size #[.int .i64 k, .int .i64 n, .slice A ks.length c] := ((Blk.new_ _ 27 _ rfl).alloc _).keep hb1; have hY1 : Blk w1 (w.heap.size + 1) #[.int .i64 k', .int .i64 n', .slice B ls.length d] := (Blk.new_ _ 27 _ (by simp)).keep hb1; have g1 : Below w.heap.size w w1 := (((Below.refl _ _).alloc (Nat.le_refl _) _).alloc (by simp) _).trans (hb1.mono (by simp; omega)); obtain ⟨x0, x1, x2⟩ := hX1.three; obtain ⟨y0, y1, y2⟩ := hY1.three; have tok1 := trivial))
      go_ret
      exact ⟨rfl, g5.alloc g5.size _⟩
end Go.Proofs.YthgmofdfecioaaaGreatDoor
