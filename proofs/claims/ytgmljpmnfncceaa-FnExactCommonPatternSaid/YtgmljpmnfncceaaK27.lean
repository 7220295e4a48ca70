/-
  Texts that are common to the laws: SCmn2. No condition.
-/
import Derived.Test.YtgmljpmnfncceaaK1
import Derived.Test.YtgmljpmnfncceaaK4
import Derived.Test.YtgmljpmnfncceaaK5
import Derived.Test.YtgmljpmnfncceaaK6
import Derived.Test.YtgmljpmnfncceaaK7
import Derived.Test.YtgmljpmnfncceaaK26
import Derived.Deep.RegionHeld3
import Derived.Deep.DeepCutAuto
import Derived.WalkSpells
import Derived.WalkLawsBesides

namespace Go.Proofs.Ytgmljpmnfncceaa
open Go.RowKit
set_option linter.unusedSimpArgs false
set_option linter.unusedVariables false

theorem cmS_someK {p : Nat → Prop} {w : World} {k n : Int} {ks l r : List Tm} {e : Ending} {w' : World} (h : CmS p w (some (.mk k n ks, (l, r))) e w') :
    ∃ A c L cl R cr, e = .returned (.tuple #[.agg #[.int .i64 k, .int .i64 n, .slice A ks.length c], .slice L l.length cl, .slice R l.length cr, .bool true]) ∧ ks.length ≤ 9223372036854775807 ∧ RdP (fun b => w.heap.size ≤ b) w' A 0 ks ∧ RdP (fun b => p b ∨ w.heap.size ≤ b) w' L 0 l ∧ RdP (fun b => p b ∨ w.heap.size ≤ b) w' R 0 r ∧ Below w.heap.size w w' := h
theorem Fr.setT {w : World} {k n : Int} {ks : List Tm} {A : Option Addr} {c : Nat} {ku nu : Int} {us : List Tm} {U : Option Addr} {cu : Nat} {wx : World} (h : Fr w k n ks A c ku nu us U cu wx) (o : Nat) (u : Value) : Fr w k n ks A c ku nu us U cu (wx.setCell ⟨w.heap.size + 1 + 1 + 1, o, none⟩ u) :=
  h.far (((show Below (w.heap.size + 3) wx wx from (Below.refl (w.heap.size + 3) wx))).setCell (by simp) _)
theorem Blk.rules {wx : World} {g : Nat} {x y z : Value} (h : Blk wx g #[x, y, z]) : (∀ w' : World, Below wx.heap.size wx w' → w'.cell? ⟨g, 0, none⟩ = some x) ∧ (∀ w' : World, Below wx.heap.size wx w' → w'.cell? ⟨g, 1, none⟩ = some y) ∧ (∀ w' : World, Below wx.heap.size wx w' → w'.cell? ⟨g, 2, none⟩ = some z) :=
  ⟨fun _ hb => ((h.keep hb).three).1, fun _ hb => ((h.keep hb).three).2.1, fun _ hb => ((h.keep hb).three).2.2⟩
theorem sizes_takeC {ks : List Tm} {j : Nat} (hj : j < ks.length) : sizes (ks.take (j + 1)) = sizes (ks.take j) + ks[j].size := by
  rw [List.take_succ_eq_append_getElem hj, sizes_append]; simp [sizes]
theorem sizes_take_leC (ks : List Tm) (j : Nat) : sizes (ks.take j) ≤ sizes ks := by
  have := sizes_append (ks.take j) (ks.drop j)
  rw [List.take_append_drop] at this
  omega
theorem name_list {P : Program} {ops : Array Oper} {Q : Exit → Act → World → Prop} {l : List Oper} {a : Act} {w : World} (h : ∀ wx, wx = w → wpList P ops Q l a wx) : wpList P ops Q l a w := h w rfl
theorem by_set3 {W w : World} (h : Below W.heap.size W w) {g : Nat} (hg : W.heap.size ≤ g) (x y z : Value) : Below W.heap.size W (((w.setCell ⟨g, 0, none⟩ x).setCell ⟨g, 1, none⟩ y).setCell ⟨g, 2, none⟩ z) := ((h.setCell hg _).setCell hg _).setCell hg _
theorem RdP.set3 {p : Nat → Prop} {w : World} {A : Option Addr} {ks : List Tm} (h : RdP p w A 0 ks) {g : Nat} (hg : ¬ p g) (x y z : Value) : RdP p (((w.setCell ⟨g, 0, none⟩ x).setCell ⟨g, 1, none⟩ y).setCell ⟨g, 2, none⟩ z) A 0 ks := ((h.setCell hg _).setCell hg _).setCell hg _
set_option maxHeartbeats 16000000 in
set_option maxRecDepth 100000 in
theorem sCommon_any (N : Nat) : ∀ (p : Nat → Prop) (k n : Int) (ks : List Tm) (A : Option Addr) (c : Nat) (ku nu : Int) (us : List Tm) (U : Option Addr) (cu : Nat) (d : Int) (l r : List Tm) (L R : Option Addr) (cl cr m : Nat) (w : World),
    sizes ks < N → validT (.mk k n ks) = true → validT (.mk ku nu us) = true → 0 ≤ d → d + sizes ks ≤ 900 → PrsOk m (l, r) → m + sizes ks + 1 ≤ 100000 → Rd w A 0 ks → Rd w U 0 us → (∀ b, p b → b < w.heap.size) → RdP p w L 0 l → RdP p w R 0 r →
    Calls Try.prog 22 #[.agg #[.int .i64 k, .int .i64 n, .slice A ks.length c], .agg #[.int .i64 ku, .int .i64 nu, .slice U us.length cu], .int .i64 d, .slice L l.length cl, .slice R l.length cr] w
      (CmS p w (cm holeS d (.mk k n ks) (.mk ku nu us) (l, r))) := by
  induction N with
  | zero => intro p k n ks A c ku nu us U cu d l r L R cl cr m w hN; exact absurd hN (Nat.not_lt_zero _)
  | succ N ih =>
  intro p k n ks A c ku nu us U cu d l r L R cl cr m w hN hv hvu hd hdq hst hm hr hru hps hrL hrR
  by_cases hne : ku = k ∧ nu = n ∧ us.length = ks.length
  · obtain ⟨h1, h2, hul⟩ := hne
    have h1 := h1.symm
    have h2 := h2.symm
    subst h1 h2
    have hrl0 : r.length = l.length := hst.1.symm
    have hll : l.length ≤ m := hst.2.1
    have hlen := length_le_sizes ks
    have hlenu := length_le_sizes us
    have hzk := validT_size hv
    have hzu := validT_size hvu
    rw [Tm.size] at hzk hzu
    have hsa : shape 30 (.mk k n ks) = true := by simp only [validT, Bool.and_eq_true] at hv; exact hv.1
    have hsu : shape 30 (.mk k n us) = true := by simp only [validT, Bool.and_eq_true] at hvu; exact hvu.1
    have hvk := hide (fun t (ht : t ∈ ks) => validT_kid hv ht)
    have hvuk := hide (fun t (ht : t ∈ us) => validT_kid hvu ht)
    have hsa' := hide hsa
    have hsu' := hide hsu
    have hv' := hide hv
    have hvu' := hide hvu
    have hst' := hide hst
    have hul' := hide hul
    have hrl' := hide hrl0
    have f3 : ((ks.length : Int) == (us.length : Int)) = true := by rw [hul]; simp
    clear hsa hsu hv hvu hul hrl0
    go_enter Try.func22, Try.ntmps22
    go_wp2_with fail
    go_loopw [15, 16, 17, 18] (fun Lv Rv gv iv wr => ∃ j : Nat, j ≤ ks.length ∧ iv = .int .i64 j ∧ Fr w k n ks A c k n us U cu wr ∧
      ((∃ (os l1 r1 : List Tm) (v : Value) (L1 : Option Addr) (cl1 : Nat) (R1 : Option Addr) (cr1 : Nat), gv = .bool true ∧ cmL holeS k d 0 (ks.take j) (us.take j) (l, r) = some (os, (l1, r1)) ∧ Lv = .slice L1 l1.length cl1 ∧ Rv = .slice R1 l1.length cr1 ∧ Blk wr (w.heap.size + 1 + 1 + 1) #[.int .i64 k, .int .i64 n, v] ∧ PartR (fun _ => False) (w.heap.size + 4) wr v os ∧
          RdP (PB p (w.heap.size + 4) wr v) wr L1 0 l1 ∧ RdP (PB p (w.heap.size + 4) wr v) wr R1 0 r1 ∧ PrsOk (m + sizes (ks.take j)) (l1, r1)) ∨
       (gv = .bool false ∧ cmL holeS k d 0 ks us (l, r) = none ∧ ∃ v, Blk wr (w.heap.size + 1 + 1 + 1) #[.int .i64 k, .int .i64 n, v])))
      (fun _ _ _ iv _ => ks.length - (intOf iv).toNat)
    case atStart =>
      have h4 : Below w.heap.size w ((((w.alloc (.cells #[.int .i64 k, .int .i64 n, .slice A ks.length c] 28)).alloc (.cells #[.int .i64 k, .int .i64 n, .slice U us.length cu] 28)).alloc (.cells #[.int .i64 0, .int .i64 0, .slice none 0 0] 28)).alloc (.cells #[.int .i64 k, .int .i64 n, .slice none 0 0] 28)) := by_alloc (by_alloc (by_alloc (by_alloc (by_refl _) _) _) _) _
      have hp4 : ∀ b, p b → PB p (w.heap.size + 4) ((((w.alloc (.cells #[.int .i64 k, .int .i64 n, .slice A ks.length c] 28)).alloc (.cells #[.int .i64 k, .int .i64 n, .slice U us.length cu] 28)).alloc (.cells #[.int .i64 0, .int .i64 0, .slice none 0 0] 28)).alloc (.cells #[.int .i64 k, .int .i64 n, .slice none 0 0] 28)) (.slice none 0 0) b := fun b hb => ⟨.inl hb, by have := hps b hb; simp; omega, by simp [Value.ownBlock]⟩
      refine ⟨0, Nat.zero_le _, rfl, ⟨(((Blk.new_ _ 28 _ rfl).alloc _).alloc _).alloc _, ((Blk.new_ _ 28 _ (by simp)).alloc _).alloc _, (Blk.new_ _ 28 _ (by simp)).alloc _, h4⟩, .inl ⟨[], l, r, _, L, cl, R, cr, rfl, by simp [cmL], rfl, rfl, Blk.new_ _ 28 _ (by simp), PartR.nil, (hrL.below h4).mono hp4, (hrR.below h4).mono hp4, by simpa [sizes] using hst'.out⟩⟩
    case round =>
      obtain ⟨j, hj, rfl, hF, hrel⟩ := hrel
      rcases hrel with ⟨os, l1, r1, v, L1, cl1, R1, cr1, rfl, hcml0, rfl, rfl, hT, hP, hrL1, hrR1, hprs0⟩ | ⟨rfl, hno, v, hT⟩
      · have hcml := hide hcml0
        have hprs := hide hprs0
        clear hcml0 hprs0
        by_cases hlt : j < ks.length
        · have hB4 := hF.size
          have lT := hT.lt
          obtain ⟨b, off, k', n', ks', A', c', rfl, hkj, hc1, hc2, hc3, hl', hr'⟩ := (hr.below hF.hb).at_ hlt
          obtain ⟨b2', off2, k2, n2, ks2, A2, c2, rfl, hkj2, hd1, hd2, hd3, hl2, hr2⟩ := (hru.below hF.hb).at_ (j := j) (by have := hul'.out; omega)
          have hsz := sizes_takeC hlt
          have hle := sizes_take_leC ks (j + 1)
          have hv1 := hvk.out _ (List.getElem_mem hlt)
          have hv2 := hvuk.out _ (List.getElem_mem (show j < us.length by have := hul'.out; omega))
          rw [hkj] at hsz hv1
          rw [hkj2] at hv2
          simp only [Tm.size] at hsz
          have H1 := hide hv1
          have H2 := hide hv2
          have hpk := hprs.out
          have hcm0 := cmL_take holeS k d hlt hul'.out hcml.out
          rw [hkj, hkj2] at hcm0
          have Hsz := hide hsz
          have hown := hP.own_ge
          have hlos : os.length ≤ 900 := by have := cmL_length holeS k d _ _ 0 _ _ _ (by simp; have := hul'.out; omega) hcml.out; rw [List.length_take] at this; omega
          clear hkj hkj2 hv1 hv2
          have x2 := hF.h0.at_ (i := 2) rfl
          have z2 := hF.h1.at_ (i := 2) rfl
          go_upto_region 10 with fail
          refine name_world ?_
          intro wy hwy
          have By : Below wr.heap.size wr wy := by rw [hwy]; exact by_alloc (by_refl _) _
          have hK : Blk wy wr.heap.size #[.int .i64 0, .int .i64 0, .slice none 0 0] := by rw [hwy]; exact Blk.new_ _ _ _ rfl
          have sy1 : wy.heap.size ≤ wr.heap.size + 1 := by rw [hwy]; simp
          have sy2 : wr.heap.size + 1 ≤ wy.heap.size := by rw [hwy]; simp
          clear hwy x2 z2
          have hFy := hF.below By
          obtain ⟨b0, b2, x2⟩ := hFy.h0.three
          obtain ⟨b0', b2', z2⟩ := hFy.h1.three
          clear b0' b2' b2
          have y0 := Keeps.of_below By _ _ hc1
          have y1 := Keeps.of_below By _ _ hc2
          have y2 := Keeps.of_below By _ _ hc3
          have u0 := Keeps.of_below By _ _ hd1
          have u1 := Keeps.of_below By _ _ hd2
          have u2 := Keeps.of_below By _ _ hd3
          have hun := under_le k j
          have hltu : j < us.length := by have := hul'.out; omega
          have kd1 : IntKind.i64.wrap (d + under k j) = d + under k j := IntWalk.i64_in _ (by omega)
          have kd2 : wrap64 (d + under k j) = d + under k j := IntWalk.wrap64_in _ (by omega)
          obtain ⟨g0, g1, g2⟩ := hF.h0.three
          obtain ⟨g3', g3'', g3⟩ := hF.h1.three
          have hSof := hide (show ∀ w' : World, Below wr.heap.size wr w' → (fun w' => w'.cell? ⟨w.heap.size, 0, none⟩ = some (.int .i64 k) ∧ w'.cell? ⟨w.heap.size, 2, none⟩ = some (.slice (some ⟨b, off, none⟩) ks.length c) ∧ w'.cell? ⟨w.heap.size + 1, 2, none⟩ = some (.slice (some ⟨b2', off2, none⟩) us.length cu) ∧ w'.cell? ⟨b, off + j * 3, none⟩ = some (.int .i64 k') ∧ w'.cell? ⟨b, off + j * 3 + 1, none⟩ = some (.int .i64 n') ∧ w'.cell? ⟨b, off + j * 3 + 2, none⟩ = some (.slice A' ks'.length c') ∧ w'.cell? ⟨b2', off2 + j * 3, none⟩ = some (.int .i64 k2) ∧ w'.cell? ⟨b2', off2 + j * 3 + 1, none⟩ = some (.int .i64 n2) ∧ w'.cell? ⟨b2', off2 + j * 3 + 2, none⟩ = some (.slice A2 ks2.length c2)) w' from fun w' hb => ⟨Keeps.of_below hb _ _ g0, Keeps.of_below hb _ _ g2, Keeps.of_below hb _ _ g3, Keeps.of_below hb _ _ hc1, Keeps.of_below hb _ _ hc2, Keeps.of_below hb _ _ hc3, Keeps.of_below hb _ _ hd1, Keeps.of_below hb _ _ hd2, Keeps.of_below hb _ _ hd3⟩)
          clear hc1 hc2 hc3 hd1 hd2 hd3 g0 g1 g2 g3 g3' g3''
          have hps' : ∀ b, PB p (w.heap.size + 4) wr v b → b < wy.drew.heap.size := fun b hb => by have h1 := hb.2.1; show b < wy.heap.size; omega
          cases hcm : cm holeS (d + under k j) (.mk k' n' ks') (.mk k2 n2 ks2) (l1, r1) with
          | none =>
            have Hcm := hide hcm
            have Hno : Hid (cmL holeS k d 0 ks us (l, r) = none) := by refine hide (cmL_no holeS k d hlt hul'.out ?_); rw [hcm0, hcm]
            clear hcm hcm0
            go_region_held3 (fun w' => w'.cell? ⟨w.heap.size, 0, none⟩ = some (.int .i64 k) ∧ w'.cell? ⟨w.heap.size, 2, none⟩ = some (.slice (some ⟨b, off, none⟩) ks.length c) ∧ w'.cell? ⟨w.heap.size + 1, 2, none⟩ = some (.slice (some ⟨b2', off2, none⟩) us.length cu) ∧ w'.cell? ⟨b, off + j * 3, none⟩ = some (.int .i64 k') ∧ w'.cell? ⟨b, off + j * 3 + 1, none⟩ = some (.int .i64 n') ∧ w'.cell? ⟨b, off + j * 3 + 2, none⟩ = some (.slice A' ks'.length c') ∧ w'.cell? ⟨b2', off2 + j * 3, none⟩ = some (.int .i64 k2) ∧ w'.cell? ⟨b2', off2 + j * 3 + 1, none⟩ = some (.int .i64 n2) ∧ w'.cell? ⟨b2', off2 + j * 3 + 2, none⟩ = some (.slice A2 ks2.length c2)) (((refine hSof.out _ ?_); (first | ((with_reducible (repeat (first | exact Bw1 | exact By | refine by_alloc ?_ _ | refine by_drew ?_))) <;> fail) | ((with_reducible refine by_set3 ?_ ?_ _ _ _); (rotate_left); omega; (with_reducible exact Bw1))))) (first
              | (go_at_call 22; refine (ih (PB p (w.heap.size + 4) wr v) k' n' ks' A' c' k2 n2 ks2 A2 c2 (d + under k j) l1 r1 L1 R1 cl1 cr1 (m + sizes (ks.take j)) _ (by have := Hsz.out; omega) H1.out H2.out (by omega) (by have := Hsz.out; omega) hpk (by have := Hsz.out; omega) (hr'.below (by_drew By)) (hr2.below (by_drew By)) hps' (hrL1.below (by_drew By)) (hrR1.below (by_drew By))).mono ?_; rw [Hcm.out]; intro e w1 hcs; obtain ⟨⟨xv, yv, rfl⟩, hb1⟩ := cmS_none hcs; have G1 : Below wy.heap.size wy w1 := (Below.refl _ _).drew.trans hb1; have Bw1 : Below wr.heap.size wr w1 := By.trans (G1.mono By.size); have hK1 := hK.keep G1; obtain ⟨f0, f1, f2⟩ := hK1.three; have i0 := hK1.frozen 0; have i1 := hK1.frozen 1; have i2 := hK1.frozen 2; have sw1 := Bw1.size; have lk1 := hK1.lt; have hTx := (hT.keep Bw1).at_ (i := 2) rfl)
              | (go_at_call 50; refine (sUnder_any _ _ _).mono ?_; rintro e w' ⟨rfl, rfl⟩))
            go_wp2_with (at_builtin; refine name_list ?_; intro wx hwx; have Bx : Below wr.heap.size wr wx := (by rw [hwx]; exact by_alloc (by_set3 Bw1 (Nat.le_refl _) _ _ _) _); have sx := congrArg (fun w : World => w.heap.size) hwx; (try simp at sx); refine wpList_append_rdW (lo := fun _ => False) (B := w.heap.size + 4) (ts := os) (m := os.length) (q := fun b => wr.heap.size + 1 ≤ b ∧ b < wx.heap.size) (k := 0) (n := 0) (ks := []) (A := none) (c := 0) (hP.below Bx) (by omega) RdP.nil (fun b hb => ⟨.inr (by omega), hb.2, fun e => by have := (hown b e).2; omega⟩) (by simp) rfl (by omega) _ 1 (by rw [hwx]; exact Blk.new_ _ 28 _ (by simp)) rfl _ _ rfl rfl rfl ?_; intro A6 c6 w6 hP6 hb6 hg6 ho6; have hF6 := (hF.below Bx).far (hb6.mono (by omega)); have hT6 := (hT.keep Bx).below hb6 (by omega); have t2 := hT6.at_ (i := 2) rfl; have tz := hT6.frozen 2; have lx6 := hg6.size; clear x2 z2 b0 y0 y1 y2 u0 u1 u2 hSof)
            go_roundw
            case rel => exact ⟨j + 1, hlt, by go_num, hF6.setT _ _, .inr ⟨rfl, Hno.out, _, hT6.set_ 2 _⟩⟩
            case measure => simp [intOf]; omega
          | some res =>
            obtain ⟨⟨ko, no, kso⟩, l2, r2⟩ := res
            have Hcm := hide hcm
            have Hok := hide (cm_ok holeS _ _ _ _ _ _ _ hpk hcm)
            have Hso : Hid (cmL holeS k d 0 (ks.take (j + 1)) (us.take (j + 1)) (l, r) = some (os ++ [.mk ko no kso], (l2, r2))) := by refine hide ?_; rw [hcm0, hcm]
            clear hcm hcm0
            go_region_held3 (fun w' => w'.cell? ⟨w.heap.size, 0, none⟩ = some (.int .i64 k) ∧ w'.cell? ⟨w.heap.size, 2, none⟩ = some (.slice (some ⟨b, off, none⟩) ks.length c) ∧ w'.cell? ⟨w.heap.size + 1, 2, none⟩ = some (.slice (some ⟨b2', off2, none⟩) us.length cu) ∧ w'.cell? ⟨b, off + j * 3, none⟩ = some (.int .i64 k') ∧ w'.cell? ⟨b, off + j * 3 + 1, none⟩ = some (.int .i64 n') ∧ w'.cell? ⟨b, off + j * 3 + 2, none⟩ = some (.slice A' ks'.length c') ∧ w'.cell? ⟨b2', off2 + j * 3, none⟩ = some (.int .i64 k2) ∧ w'.cell? ⟨b2', off2 + j * 3 + 1, none⟩ = some (.int .i64 n2) ∧ w'.cell? ⟨b2', off2 + j * 3 + 2, none⟩ = some (.slice A2 ks2.length c2)) (((refine hSof.out _ ?_); (first | ((with_reducible (repeat (first | exact Bw1 | exact By | refine by_alloc ?_ _ | refine by_drew ?_))) <;> fail) | ((with_reducible refine by_set3 ?_ ?_ _ _ _); (rotate_left); omega; (with_reducible exact Bw1))))) (first
              | (go_at_call 22; refine (ih (PB p (w.heap.size + 4) wr v) k' n' ks' A' c' k2 n2 ks2 A2 c2 (d + under k j) l1 r1 L1 R1 cl1 cr1 (m + sizes (ks.take j)) _ (by have := Hsz.out; omega) H1.out H2.out (by omega) (by have := Hsz.out; omega) hpk (by have := Hsz.out; omega) (hr'.below (by_drew By)) (hr2.below (by_drew By)) hps' (hrL1.below (by_drew By)) (hrR1.below (by_drew By))).mono ?_; rw [Hcm.out]; intro e w1 hcs; obtain ⟨Ao, co, L2, cl2, R2, cr2, rfl, hlo, hko, hL2, hR2, hb1⟩ := cmS_someK hcs; have G1 : Below wy.heap.size wy w1 := (Below.refl _ _).drew.trans hb1; have Bw1 : Below wr.heap.size wr w1 := By.trans (G1.mono By.size); have hK1 := hK.keep G1; obtain ⟨f0, f1, f2⟩ := hK1.three; have i0 := hK1.frozen 0; have i1 := hK1.frozen 1; have i2 := hK1.frozen 2; have sw1 := Bw1.size; have lk1 := hK1.lt; have hTx := (hT.keep Bw1).at_ (i := 2) rfl)
              | (go_at_call 50; refine (sUnder_any _ _ _).mono ?_; rintro e w' ⟨rfl, rfl⟩))
            replace hko : RdP (fun b => wr.heap.size + 1 ≤ b) w1 Ao 0 kso := hko.mono (fun b hb => by have hb : wy.heap.size ≤ b := hb; omega)
            replace hL2 : RdP (fun b => PB p (w.heap.size + 4) wr v b ∨ wr.heap.size + 1 ≤ b) w1 L2 0 l2 := hL2.mono (fun b hb => hb.imp id (fun hb => by have hb : wy.heap.size ≤ b := hb; omega))
            replace hR2 : RdP (fun b => PB p (w.heap.size + 4) wr v b ∨ wr.heap.size + 1 ≤ b) w1 R2 0 r2 := hR2.mono (fun b hb => hb.imp id (fun hb => by have hb : wy.heap.size ≤ b := hb; omega))
            have hng : ¬ (PB p (w.heap.size + 4) wr v wr.heap.size ∨ wr.heap.size + 1 ≤ wr.heap.size) := fun h => h.elim (fun h => by have := h.2.1; omega) (fun h => by omega)
            go_wp2_with (at_builtin; refine name_list ?_; intro wx hwx; have Bx : Below wr.heap.size wr wx := (by rw [hwx]; exact by_alloc (by_set3 Bw1 (Nat.le_refl _) _ _ _) _); have sx := congrArg (fun w : World => w.heap.size) hwx; (try simp at sx); have pL : RdP (fun b => (PB p (w.heap.size + 4) wr v b ∨ wr.heap.size + 1 ≤ b) ∧ b < wx.heap.size) wx L2 0 l2 := (by have h0 := rdp_ltC.2 _ _ _ ((hL2.set3 hng (.int .i64 ko) (.int .i64 no) (.slice Ao kso.length co)).alloc (.cells #[.int .i64 ko, .int .i64 no, .slice Ao kso.length co] 28)); rw [← hwx] at h0; exact h0); have pR : RdP (fun b => (PB p (w.heap.size + 4) wr v b ∨ wr.heap.size + 1 ≤ b) ∧ b < wx.heap.size) wx R2 0 r2 := (by have h0 := rdp_ltC.2 _ _ _ ((hR2.set3 hng (.int .i64 ko) (.int .i64 no) (.slice Ao kso.length co)).alloc (.cells #[.int .i64 ko, .int .i64 no, .slice Ao kso.length co] 28)); rw [← hwx] at h0; exact h0); have pK : RdP (fun b => wr.heap.size + 1 ≤ b ∧ b < wx.heap.size) wx Ao 0 kso := (by have h0 := rdp_ltC.2 _ _ _ ((hko.set3 (fun h => by have h : wr.heap.size + 1 ≤ wr.heap.size := h; omega) (.int .i64 ko) (.int .i64 no) (.slice Ao kso.length co)).alloc (.cells #[.int .i64 ko, .int .i64 no, .slice Ao kso.length co] 28)); rw [← hwx] at h0; exact h0); refine wpList_append_rdW (lo := fun _ => False) (B := w.heap.size + 4) (ts := os) (m := os.length) (q := fun b => wr.heap.size + 1 ≤ b ∧ b < wx.heap.size) (k := ko) (n := no) (ks := kso) (A := Ao) (c := co) (hP.below Bx) (by omega) pK (fun b hb => ⟨.inr (by omega), hb.2, fun e => by have := (hown b e).2; omega⟩) hlo rfl (by omega) _ 1 (by rw [hwx]; exact Blk.new_ _ 28 _ (by simp)) rfl _ _ rfl rfl rfl ?_; intro A6 c6 w6 hP6 hb6 hg6 ho6; have hF6 := (hF.below Bx).far (hb6.mono (by omega)); have hT6 := (hT.keep Bx).below hb6 (by omega); have t2 := hT6.at_ (i := 2) rfl; have tz := hT6.frozen 2; have lx6 := hg6.size; have hap : ∀ b, ((PB p (w.heap.size + 4) wr v b ∨ wr.heap.size + 1 ≤ b) ∧ b < wx.heap.size) → v.ownBlock ≠ some b := fun b hb => hb.1.elim (fun h => h.2.2) (fun h e => by have := (hown b e).2; omega); have hpb : ∀ b, ((PB p (w.heap.size + 4) wr v b ∨ wr.heap.size + 1 ≤ b) ∧ b < wx.heap.size) → PB p (w.heap.size + 4) w6 (.slice A6 (os.length + 1) c6) b := fun b hb => ⟨hb.1.elim (fun h => h.1) (fun h => .inr (by omega)), by have := hb.2; omega, ho6 b hb.2 (hap b hb)⟩; have pL6 := (pL.grown hg6 (fun b hb e => hap b hb e.symm)).mono hpb; have pR6 := (pR.grown hg6 (fun b hb e => hap b hb e.symm)).mono hpb; clear x2 z2 b0 y0 y1 y2 u0 u1 u2 hSof)
            go_roundw
            case rel =>
              have hn3 : ∀ vv, ¬ PB p (w.heap.size + 4) w6 vv (w.heap.size + 1 + 1 + 1) := fun vv h => h.1.elim (fun h => by have := hps _ h; omega) (fun h => by omega)
              have hmono : ∀ b, PB p (w.heap.size + 4) w6 (.slice A6 (os.length + 1) c6) b → PB p (w.heap.size + 4) (w6.setCell ⟨w.heap.size + 1 + 1 + 1, 2, none⟩ (.slice A6 (os.length + 1) c6)) (.slice A6 (os.length + 1) c6) b := fun b hb => ⟨hb.1, by simpa using hb.2.1, hb.2.2⟩
              refine ⟨j + 1, hlt, by go_num, hF6.setT _ _, .inl ⟨os ++ [.mk ko no kso], l2, r2, _, L2, cl2, R2, cr2, rfl, Hso.out, rfl, rfl, hT6.set_ 2 _, hP6.setCell ⟨id, by simp⟩ _, (pL6.setCell (hn3 _) _).mono hmono, (pR6.setCell (hn3 _) _).mono hmono, ?_⟩⟩
              have := Hok.out
              rw [Hsz.out]
              simpa [Tm.size, Nat.add_assoc] using this
            case measure => simp [intOf]; omega
        · have hjl : j = ks.length := by omega
          subst hjl
          have Hc : Hid (cmL holeS k d 0 ks us (l, r) = some (os, (l1, r1))) := by
            refine hide ?_
            have h := hcml.out
            rw [List.take_length, ← hul'.out, List.take_length] at h
            exact h
          have hB4 := hF.size
          have lT := hT.lt
          obtain ⟨Ao, co, rfl, hro⟩ := hP.rd
          have hlos : os.length ≤ 900 := by have := cmL_length holeS k d _ _ 0 _ _ _ hul'.out Hc.out; omega
          have x2 := hF.h0.at_ (i := 2) rfl
          obtain ⟨t0, t1, t2⟩ := hT.three
          obtain ⟨d0, d1, d2⟩ := hF.h2.three
          have e0 := hF.h2.frozen 0
          have e1 := hF.h2.frozen 1
          have e2 := hF.h2.frozen 2
          go_wp2_with fail
          refine bodyPost_ret (v := .tuple #[.agg #[.int .i64 k, .int .i64 n, .slice Ao os.length co], .slice L1 l1.length cl1, .slice R1 l1.length cr1, .bool true]) ?_ rfl ?_
          · simp [results, Try.results22, go_sem, d0, d1, d2]
          · rw [cm_some hul'.out Hc.out]
            have hn : ¬ (False ∨ w.heap.size + 4 ≤ w.heap.size + 1 + 1) := fun h => h.elim id (fun h => by omega)
            have hn2 : ∀ vv, ¬ PB p (w.heap.size + 4) wr vv (w.heap.size + 1 + 1) := fun vv h => h.1.elim (fun h => by have := hps _ h; omega) (fun h => by omega)
            refine cmS_mk ⟨Ao, co, L1, cl1, R1, cr1, rfl, by omega, (hro.set3 hn _ _ _).mono (fun b h => h.elim False.elim (fun h => by omega)), (hrL1.set3 (hn2 _) _ _ _).mono (fun b h => h.1.imp id (fun h => by omega)), (hrR1.set3 (hn2 _) _ _ _).mono (fun b h => h.1.imp id (fun h => by omega)), by_set3 hF.hb (by omega) _ _ _⟩
      · have hcmz := hide (cm_none (H := holeS) (d := d) (n := n) hul'.out hno)
        have hrl : r.length = l.length := hrl'.out
        clear hno
        have hB4 := hF.size
        have x2 := hF.h0.at_ (i := 2) rfl
        by_cases hlt : j < ks.length
        · go_upto_region 14 with fail
          clear x2
          obtain ⟨x0, x1, x2⟩ := hF.h0.three
          obtain ⟨y0, y1, y2⟩ := hF.h1.three
          cases hkp : kpS d 0 (.mk k n ks) with
          | false =>
            have hz : holeOf holeS d (.mk k n ks) (.mk k n us) (l, r) = none := by rw [holeOf, shiftI_down hd hv'.out, hkp]; rfl
            have hz' := hide hz
            have hkp' := hide hkp
            clear hz hkp
            go_wp2_with (go_at_call 51; refine (sBare_any k n ks A c d _ (by omega) hsa'.out (by omega) (hr.below hF.hb)).mono ?_; rw [hkp'.out]; rintro e w1 ⟨rfl, hb1⟩; have hF1 := hF.below hb1; clear x0 x1 x2 y0 y1 y2; obtain ⟨x0, x1, x2⟩ := hF1.h0.three; obtain ⟨y0, y1, y2⟩ := hF1.h1.three; obtain ⟨d0, d1, d2⟩ := hF1.h2.three; have e0 := hF1.h2.frozen 0; have e1 := hF1.h2.frozen 1; have e2 := hF1.h2.frozen 2)
            refine bodyPost_ret (v := (.tuple #[.agg #[.int .i64 0, .int .i64 0, .slice none 0 0], .slice L l.length cl, .slice R l.length cr, .bool false])) ?_ rfl ?_
            · simp [results, Try.results22, go_sem, d0, d1, d2]
            · rw [hcmz.out, hz'.out]
              exact ⟨⟨_, _, rfl⟩, ((hF1.hb.setCell (by simp; omega) _).setCell (by simp; omega) _).setCell (by simp; omega) _⟩
          | true =>
            cases hkq : kpS d 0 (.mk k n us) with
            | false =>
              have hz : holeOf holeS d (.mk k n ks) (.mk k n us) (l, r) = none := by rw [holeOf, shiftI_down hd hvu'.out, hkq, shiftI_down hd hv'.out, hkp]; rfl
              have hz' := hide hz
              have hkp' := hide hkp
              have hkq' := hide hkq
              clear hz hkp hkq
              go_wp2_with (first
                | (go_at_call 51; have _t := tok1; refine (sBare_any k n us U cu d _ (by omega) hsu'.out (by omega) (hru.below hF1.hb)).mono ?_; rw [hkq'.out]; rintro e w2 ⟨rfl, hb2⟩; have hF2 := hF1.below hb2; clear x0 x1 x2 y0 y1 y2; obtain ⟨x0, x1, x2⟩ := hF2.h0.three; obtain ⟨y0, y1, y2⟩ := hF2.h1.three; obtain ⟨d0, d1, d2⟩ := hF2.h2.three; have e0 := hF2.h2.frozen 0; have e1 := hF2.h2.frozen 1; have e2 := hF2.h2.frozen 2)
                | (go_at_call 51; refine (sBare_any k n ks A c d _ (by omega) hsa'.out (by omega) (hr.below hF.hb)).mono ?_; rw [hkp'.out]; rintro e w1 ⟨rfl, hb1⟩; have hF1 := hF.below hb1; clear x0 x1 x2 y0 y1 y2; obtain ⟨x0, x1, x2⟩ := hF1.h0.three; obtain ⟨y0, y1, y2⟩ := hF1.h1.three; have tok1 := trivial))
              refine bodyPost_ret (v := (.tuple #[.agg #[.int .i64 0, .int .i64 0, .slice none 0 0], .slice L l.length cl, .slice R l.length cr, .bool false])) ?_ rfl ?_
              · simp [results, Try.results22, go_sem, d0, d1, d2]
              · rw [hcmz.out, hz'.out]
                exact ⟨⟨_, _, rfl⟩, ((hF2.hb.setCell (by simp; omega) _).setCell (by simp; omega) _).setCell (by simp; omega) _⟩
            | true =>
              have hz : holeOf holeS d (.mk k n ks) (.mk k n us) (l, r) = (match idx2 (shS (-d) 0 (.mk k n ks)) (shS (-d) 0 (.mk k n us)) l r with | some i => some (holeS i, (l, r)) | none => some (holeS l.length, (l ++ [shS (-d) 0 (.mk k n ks)], r ++ [shS (-d) 0 (.mk k n us)]))) := by
                rw [holeOf, shiftI_down hd hvu'.out, hkq, shiftI_down hd hv'.out, hkp]; rfl
              rw [shS, shS] at hz
              obtain ⟨nx, hnx⟩ : ∃ nx, (if k = 1 ∧ 0 ≤ n then n + -d else n) = nx := ⟨_, rfl⟩
              obtain ⟨X, hX⟩ : ∃ X, shSL (-d) k 0 0 ks = X := ⟨_, rfl⟩
              obtain ⟨Y, hY⟩ : ∃ Y, shSL (-d) k 0 0 us = Y := ⟨_, rfl⟩
              rw [hnx, hX, hY] at hz
              have hz' := hide hz
              have hnx' := hide hnx
              have hX' := hide hX
              have hY' := hide hY
              have hkp' := hide hkp
              have hkq' := hide hkq
              clear hz hnx hkp hkq hX hY
              go_wp2_with (first
                | (go_at_call 52; have _t := tok3; refine (sShift_any _ k n us U cu (-d) 0 30 _ (Nat.lt_succ_self _) (by omega) hsu'.out (by omega) (by omega) (by omega) ((hru.below hF3.hb).alloc _)).mono ?_; rw [hnx'.out, hY'.out]; rintro e w4 ⟨A4, c4, rfl, hl4, hf4, hb4⟩; have hF4 := (hF3.alloc (.cells #[.int .i64 k, .int .i64 nx, .slice A3 X.length c3] 28)).below hb4; have hX4 := (Blk.new_ w3 28 #[.int .i64 k, .int .i64 nx, .slice A3 X.length c3] rfl).keep hb4; have rX4 := (rX3.alloc (.cells #[.int .i64 k, .int .i64 nx, .slice A3 X.length c3] 28)).below hb4; have rY4 : RdP (fun b => w.heap.size + 3 ≤ b) w4 A4 0 Y := (Fresh.rdp hf4).mono (fun b hb => by have := hF3.size; simp at hb; omega))
                | (go_at_call 52; have _t := tok2; refine (sShift_any _ k n ks A c (-d) 0 30 _ (Nat.lt_succ_self _) (by omega) hsa'.out (by omega) (by omega) (by omega) (hr.below hF2.hb)).mono ?_; rw [hnx'.out, hX'.out]; rintro e w3 ⟨A3, c3, rfl, hl3, hf3, hb3⟩; have hF3 := hF2.below hb3; have rX3 : RdP (fun b => w.heap.size + 3 ≤ b) w3 A3 0 X := (Fresh.rdp hf3).mono (fun b hb => by have := hF2.size; omega); clear x0 x1 x2 y0 y1 y2; obtain ⟨y0, y1, y2⟩ := hF3.h1.three; have l3 := hF3.size; have l3' : w.heap.size + 1 < w3.heap.size := (by omega); have tok3 := trivial)
                | (go_at_call 51; have _t := tok1; refine (sBare_any k n us U cu d _ (by omega) hsu'.out (by omega) (hru.below hF1.hb)).mono ?_; rw [hkq'.out]; rintro e w2 ⟨rfl, hb2⟩; have hF2 := hF1.below hb2; clear x0 x1 x2 y0 y1 y2; obtain ⟨x0, x1, x2⟩ := hF2.h0.three; obtain ⟨y0, y1, y2⟩ := hF2.h1.three; have tok2 := trivial)
                | (go_at_call 51; refine (sBare_any k n ks A c d _ (by omega) hsa'.out (by omega) (hr.below hF.hb)).mono ?_; rw [hkp'.out]; rintro e w1 ⟨rfl, hb1⟩; have hF1 := hF.below hb1; clear x0 x1 x2 y0 y1 y2; obtain ⟨x0, x1, x2⟩ := hF1.h0.three; obtain ⟨y0, y1, y2⟩ := hF1.h1.three; have tok1 := trivial))
              refine name_world ?_
              intro wx hwx
              have hFx : Fr w k n ks A c k n us U cu wx := by rw [hwx]; exact hF4.alloc _
              have hXx : Blk wx w3.heap.size #[.int .i64 k, .int .i64 nx, .slice A3 X.length c3] := by rw [hwx]; exact hX4.alloc _
              have hYx : Blk wx w4.heap.size #[.int .i64 k, .int .i64 nx, .slice A4 Y.length c4] := by rw [hwx]; exact Blk.new_ _ _ _ rfl
              have rXx : RdP (fun b => w.heap.size + 3 ≤ b) wx A3 0 X := by rw [hwx]; exact rX4.alloc _
              have rYx : RdP (fun b => w.heap.size + 3 ≤ b) wx A4 0 Y := by rw [hwx]; exact rY4.alloc _
              have l3 := hF3.size
              have l4 := hF4.size
              clear hwx y0 y1 y2 hX4 rX4 rY4 hF4 hF3 rX3 hF2 hF1 hF
              go_loopw [22] (fun i wr => ∃ (j : Nat), j ≤ l.length ∧ i = .int .i64 j ∧ (∀ i, i < j → bothAt (.mk k nx X) (.mk k nx Y) l r i = false) ∧ Below wx.heap.size wx wr) (fun i _ => l.length - (intOf i).toNat)
              case atStart => exact ⟨0, Nat.zero_le _, rfl, fun i hi => absurd hi (Nat.not_lt_zero _), Below.refl _ _⟩
              case round =>
                obtain ⟨j, hj, rfl, hall, hbq⟩ := hrel
                have hall' := hide hall
                clear hall
                replace hXx := hXx.keep hbq
                replace hYx := hYx.keep hbq
                replace hFx := hFx.below hbq
                replace rXx := rXx.below hbq
                replace rYx := rYx.below hbq
                have rX := rXx.rd
                have rY := rYx.rd
                have t5 := hbq.size
                have hsz := hFx.size
                have qL := hrL.below hFx.hb
                have qR := hrR.below hFx.hb
                have rdL := qL.rd
                have rdR := qR.rd
                obtain ⟨x0, x1, x2⟩ := hXx.three
                obtain ⟨y0, y1, y2⟩ := hYx.three
                by_cases hlt : j < l.length
                · obtain ⟨b1, o1, k1, n1, ks1, A1, c1, rfl, hk1, v0, v1, v2, hl1, hr1⟩ := rdL.at_ hlt
                  obtain ⟨b2, o2, k2, n2, ks2, A2, c2, rfl, hk2, z0, z1, z2, hl2, hr2⟩ := rdR.at_ (j := j) (by omega)
                  have hba : bothAt (.mk k nx X) (.mk k nx Y) l r j = (tmEq (.mk k1 n1 ks1) (.mk k nx X) && tmEq (.mk k2 n2 ks2) (.mk k nx Y)) := by rw [bothAt, getD_at hlt hk1, getD_at (by omega) hk2]
                  obtain ⟨tq1, ht1⟩ : ∃ tq1, tmEq (.mk k1 n1 ks1) (.mk k nx X) = tq1 := ⟨_, rfl⟩
                  obtain ⟨tq2, ht2⟩ : ∃ tq2, tmEq (.mk k2 n2 ks2) (.mk k nx Y) = tq2 := ⟨_, rfl⟩
                  rw [ht1, ht2] at hba
                  have hba' := hide hba
                  have hlj : (j : Int) < (l.length : Int) := by omega
                  have lX := hXx.lt
                  have lY := hYx.lt
                  have sm1 : ∀ w', Below wr.heap.size wr w' → Calls Try.prog 53 #[.agg #[.int .i64 k1, .int .i64 n1, .slice A1 ks1.length c1], .agg #[.int .i64 k, .int .i64 nx, .slice A3 X.length c3]] w' fun e w'' => e = .returned (.bool tq1) ∧ Below w'.heap.size w' w'' := fun w' hw' => by rw [← ht1]; exact sSame_any _ k1 n1 ks1 A1 c1 k nx X A3 c3 w' (Nat.lt_succ_self _) hl1 hl3 (hr1.below hw') (rX.below hw')
                  have sm2 : ∀ w', Below wr.heap.size wr w' → Calls Try.prog 53 #[.agg #[.int .i64 k2, .int .i64 n2, .slice A2 ks2.length c2], .agg #[.int .i64 k, .int .i64 nx, .slice A4 Y.length c4]] w' fun e w'' => e = .returned (.bool tq2) ∧ Below w'.heap.size w' w'' := fun w' hw' => by rw [← ht2]; exact sSame_any _ k2 n2 ks2 A2 c2 k nx Y A4 c4 w' (Nat.lt_succ_self _) hl2 hl4 (hr2.below hw') (rY.below hw')
                  clear hk1 hk2 hba ht1 ht2
                  cases tq1 with
                  | false =>
                    go_wp2_with fail
                    have y0 := hYx.rule (i := 0) rfl
                    have y1 := hYx.rule (i := 1) rfl
                    have y2 := hYx.rule (i := 2) rfl
                    have x0 := hXx.rule (i := 0) rfl
                    have x1 := hXx.rule (i := 1) rfl
                    have x2 := hXx.rule (i := 2) rfl
                    have v0' := rule_of v0
                    have v1' := rule_of v1
                    have v2' := rule_of v2
                    have z0' := rule_of z0
                    have z1' := rule_of z1
                    have z2' := rule_of z2
                    refine wp_region_class (fun w' => Below wr.heap.size wr w') (by kernel_rfl) (by kernel_rfl) (Below.refl _ _).drew ?_
                    repeat (first | ((refine quiet_skip (a' := ?_) ?_ ?_ ?_); (rotate_left); (· (simp [Region.wanted, yielded]; done)); (· (simp only [List.getElem_toArray, List.getElem_cons_zero, List.getElem_cons_succ, Act.put, List.setIfInBounds_toArray, List.set_cons_zero, List.set_cons_succ]; exact rfl))) | ((refine quiet_one (v := ?_) (a' := ?_) ?_ ?_ ?_ ?_); (rotate_left 2); (· (simp [Region.wanted, yielded]; done)); (· (intro w' hS'; go_simp; try (with_reducible rfl))); (· (simp only [List.getElem_toArray, List.getElem_cons_zero, List.getElem_cons_succ, Act.put, List.setIfInBounds_toArray, List.set_cons_zero, List.set_cons_succ]; exact rfl))) | ((refine quiet_below (v := ?_) (a' := ?_) 53 ?_ ?_ ?_ ?_ ?_ ?_); (rotate_left 3); (· (simp [Region.wanted, yielded]; done)); (· (intro w' hS'; go_simp; try (with_reducible rfl))); (· (intro w' hS'; with_reducible exact sm1 w' hS')); (· (simp only [List.getElem_toArray, List.getElem_cons_zero, List.getElem_cons_succ, Act.put, List.setIfInBounds_toArray, List.set_cons_zero, List.set_cons_succ]; exact rfl))) | ((refine quiet_below (v := ?_) (a' := ?_) 53 ?_ ?_ ?_ ?_ ?_ ?_); (rotate_left 3); (· (simp [Region.wanted, yielded]; done)); (· (intro w' hS'; go_simp; try (with_reducible rfl))); (· (intro w' hS'; with_reducible exact sm2 w' hS')); (· (simp only [List.getElem_toArray, List.getElem_cons_zero, List.getElem_cons_succ, Act.put, List.setIfInBounds_toArray, List.set_cons_zero, List.set_cons_succ]; exact rfl))))
                    refine quiet_nil ?_
                    intro wa hx1
                    clear x0 x1 x2 y0 y1 y2 v0' v1' v2' z0' z1' z2'
                    go_wp2_with fail
                    go_roundw
                    case rel => exact ⟨j + 1, hlt, by go_num, all_succ hall'.out hba'.out, hbq.trans (hx1.mono hbq.size)⟩
                    case measure => simp [intOf]; omega
                  | true =>
                    cases tq2 with
                    | false =>
                      go_wp2_with fail
                      have y0 := hYx.rule (i := 0) rfl
                      have y1 := hYx.rule (i := 1) rfl
                      have y2 := hYx.rule (i := 2) rfl
                      have x0 := hXx.rule (i := 0) rfl
                      have x1 := hXx.rule (i := 1) rfl
                      have x2 := hXx.rule (i := 2) rfl
                      have v0' := rule_of v0
                      have v1' := rule_of v1
                      have v2' := rule_of v2
                      have z0' := rule_of z0
                      have z1' := rule_of z1
                      have z2' := rule_of z2
                      refine wp_region_class (fun w' => Below wr.heap.size wr w') (by kernel_rfl) (by kernel_rfl) (Below.refl _ _).drew ?_
                      repeat (first | ((refine quiet_skip (a' := ?_) ?_ ?_ ?_); (rotate_left); (· (simp [Region.wanted, yielded]; done)); (· (simp only [List.getElem_toArray, List.getElem_cons_zero, List.getElem_cons_succ, Act.put, List.setIfInBounds_toArray, List.set_cons_zero, List.set_cons_succ]; exact rfl))) | ((refine quiet_one (v := ?_) (a' := ?_) ?_ ?_ ?_ ?_); (rotate_left 2); (· (simp [Region.wanted, yielded]; done)); (· (intro w' hS'; go_simp; try (with_reducible rfl))); (· (simp only [List.getElem_toArray, List.getElem_cons_zero, List.getElem_cons_succ, Act.put, List.setIfInBounds_toArray, List.set_cons_zero, List.set_cons_succ]; exact rfl))) | ((refine quiet_below (v := ?_) (a' := ?_) 53 ?_ ?_ ?_ ?_ ?_ ?_); (rotate_left 3); (· (simp [Region.wanted, yielded]; done)); (· (intro w' hS'; go_simp; try (with_reducible rfl))); (· (intro w' hS'; with_reducible exact sm1 w' hS')); (· (simp only [List.getElem_toArray, List.getElem_cons_zero, List.getElem_cons_succ, Act.put, List.setIfInBounds_toArray, List.set_cons_zero, List.set_cons_succ]; exact rfl))) | ((refine quiet_below (v := ?_) (a' := ?_) 53 ?_ ?_ ?_ ?_ ?_ ?_); (rotate_left 3); (· (simp [Region.wanted, yielded]; done)); (· (intro w' hS'; go_simp; try (with_reducible rfl))); (· (intro w' hS'; with_reducible exact sm2 w' hS')); (· (simp only [List.getElem_toArray, List.getElem_cons_zero, List.getElem_cons_succ, Act.put, List.setIfInBounds_toArray, List.set_cons_zero, List.set_cons_succ]; exact rfl))))
                      refine quiet_nil ?_
                      intro wa hx1
                      clear x0 x1 x2 y0 y1 y2 v0' v1' v2' z0' z1' z2'
                      go_wp2_with fail
                      go_roundw
                      case rel => exact ⟨j + 1, hlt, by go_num, all_succ hall'.out hba'.out, hbq.trans (hx1.mono hbq.size)⟩
                      case measure => simp [intOf]; omega
                    | true =>
                      go_wp2_with fail
                      have y0 := hYx.rule (i := 0) rfl
                      have y1 := hYx.rule (i := 1) rfl
                      have y2 := hYx.rule (i := 2) rfl
                      have x0 := hXx.rule (i := 0) rfl
                      have x1 := hXx.rule (i := 1) rfl
                      have x2 := hXx.rule (i := 2) rfl
                      have v0' := rule_of v0
                      have v1' := rule_of v1
                      have v2' := rule_of v2
                      have z0' := rule_of z0
                      have z1' := rule_of z1
                      have z2' := rule_of z2
                      refine wp_region_class (fun w' => Below wr.heap.size wr w') (by kernel_rfl) (by kernel_rfl) (Below.refl _ _).drew ?_
                      repeat (first | ((refine quiet_skip (a' := ?_) ?_ ?_ ?_); (rotate_left); (· (simp [Region.wanted, yielded]; done)); (· (simp only [List.getElem_toArray, List.getElem_cons_zero, List.getElem_cons_succ, Act.put, List.setIfInBounds_toArray, List.set_cons_zero, List.set_cons_succ]; exact rfl))) | ((refine quiet_one (v := ?_) (a' := ?_) ?_ ?_ ?_ ?_); (rotate_left 2); (· (simp [Region.wanted, yielded]; done)); (· (intro w' hS'; go_simp; try (with_reducible rfl))); (· (simp only [List.getElem_toArray, List.getElem_cons_zero, List.getElem_cons_succ, Act.put, List.setIfInBounds_toArray, List.set_cons_zero, List.set_cons_succ]; exact rfl))) | ((refine quiet_below (v := ?_) (a' := ?_) 53 ?_ ?_ ?_ ?_ ?_ ?_); (rotate_left 3); (· (simp [Region.wanted, yielded]; done)); (· (intro w' hS'; go_simp; try (with_reducible rfl))); (· (intro w' hS'; with_reducible exact sm1 w' hS')); (· (simp only [List.getElem_toArray, List.getElem_cons_zero, List.getElem_cons_succ, Act.put, List.setIfInBounds_toArray, List.set_cons_zero, List.set_cons_succ]; exact rfl))) | ((refine quiet_below (v := ?_) (a' := ?_) 53 ?_ ?_ ?_ ?_ ?_ ?_); (rotate_left 3); (· (simp [Region.wanted, yielded]; done)); (· (intro w' hS'; go_simp; try (with_reducible rfl))); (· (intro w' hS'; with_reducible exact sm2 w' hS')); (· (simp only [List.getElem_toArray, List.getElem_cons_zero, List.getElem_cons_succ, Act.put, List.setIfInBounds_toArray, List.set_cons_zero, List.set_cons_succ]; exact rfl))))
                      refine quiet_nil ?_
                      intro wa hx1
                      clear x0 x1 x2 y0 y1 y2 v0' v1' v2' z0' z1' z2'
                      have hF9 := hFx.below hx1
                      go_wp2_with (go_at_call 54; refine (sLeaf_any _ _ _).mono ?_; rintro e w9 ⟨rfl, hb9⟩; replace hF9 := hF9.below hb9; obtain ⟨d0, d1, d2⟩ := hF9.h2.three; have e0 := hF9.h2.frozen 0; have e1 := hF9.h2.frozen 1; have e2 := hF9.h2.frozen 2)
                      have hi2 := idx2_some (x := .mk k nx X) (y := .mk k nx Y) (l := l) (r := r) hrl hall'.out hlt hba'.out
                      have qL9 := (qL.below hx1).below hb9
                      have qR9 := (qR.below hx1).below hb9
                      refine bodyPost_ret (v := .tuple #[.agg #[.int .i64 1, .int .i64 (100 + j), .slice none 0 0], .slice (some ⟨b1, o1, none⟩) l.length cl, .slice (some ⟨b2, o2, none⟩) l.length cr, .bool true]) ?_ rfl ?_
                      · simp [results, Try.results22, go_sem, d0, d1, d2]
                      · rw [hcmz.out, hz'.out, hi2]
                        have hnp : ¬ p (w.heap.size + 1 + 1) := fun h => by have := hps _ h; omega
                        refine cmS_mk ⟨none, 0, _, _, _, _, rfl, by simp, RdP.nil, ?_, ?_, ((hF9.hb.setCell (by simp; omega) _).setCell (by simp; omega) _).setCell (by simp; omega) _⟩
                        · exact (((qL9.setCell hnp _).setCell hnp _).setCell hnp _).mono (fun b h => .inl h)
                        · exact (((qR9.setCell hnp _).setCell hnp _).setCell hnp _).mono (fun b h => .inl h)
                · have hjl : j = l.length := by omega
                  subst hjl
                  have hi2 := hide (idx2_none (x := .mk k nx X) (y := .mk k nx Y) (l := l) (r := r) hrl hall'.out)
                  clear hall'
                  go_wp2_with fail
                  have lWd : wr.drew.heap.size = wr.heap.size := rfl
                  obtain ⟨x0, x1, x2⟩ := hXx.three
                  have hSof := hide (show ∀ w' : World, Below wr.heap.size wr w' → (fun w' => w'.cell? ⟨w3.heap.size, 0, none⟩ = some (.int .i64 k) ∧ w'.cell? ⟨w3.heap.size, 1, none⟩ = some (.int .i64 nx) ∧ w'.cell? ⟨w3.heap.size, 2, none⟩ = some (.slice A3 X.length c3)) w' from fun w' hb => ⟨Keeps.of_below hb _ _ x0, Keeps.of_below hb _ _ x1, Keeps.of_below hb _ _ x2⟩)
                  have hbs := hFx.size
                  go_cut [23] (fun s wz => ∃ A6 c6, s = .slice A6 (l.length + 1) c6 ∧ RdP (fun b => p b ∨ w.heap.size + 3 ≤ b) wz A6 0 (l ++ [.mk k nx X]) ∧ Below wr.heap.size wr wz)
                  case first =>
                    go_region_held3 (fun w' => w'.cell? ⟨w3.heap.size, 0, none⟩ = some (.int .i64 k) ∧ w'.cell? ⟨w3.heap.size, 1, none⟩ = some (.int .i64 nx) ∧ w'.cell? ⟨w3.heap.size, 2, none⟩ = some (.slice A3 X.length c3)) (((refine hSof.out _ ?_); ((with_reducible (repeat (first | exact B6 | exact B5 | exact by_refl _ | refine by_alloc ?_ _ | refine by_drew ?_))) <;> fail))) (first
                      | (refine name_step ?_; intro wx hwx; have _t := tk1; have Bx : Below wr.heap.size wr wx := (by rw [hwx]; with_reducible (repeat (first | exact B6 | exact B5 | exact by_refl _ | refine by_alloc ?_ _ | refine by_drew ?_))); have hPx : PartR (fun b => p b ∨ (w.heap.size + 3 ≤ b ∧ b < wr.heap.size)) g wx (.slice A5 l.length c5) l := (by rw [hwx]; with_reducible (repeat (first | exact hP5 | refine PartR.alloc ?_ _ | refine PartR.drew ?_))); have ho := hPx.own_ge; have lgx : g ≤ wx.heap.size := (by have h5 : w5.heap.size ≤ wx.heap.size := (by rw [hwx]; first | exact Nat.le_refl _ | (simp; done)); omega); refine step_append_rdW (q := fun b => w.heap.size + 3 ≤ b ∧ b < wr.heap.size) (k := k) (n := nx) (ks := X) (A := A3) (c := c3) hPx lgx ((rdp_ltC.2 _ _ _ rXx).below Bx) (fun b hb => ⟨.inl (.inr hb), by have := Bx.size; omega, fun e => by have := (ho b e).1; omega⟩) hl3 rfl (by omega) _ 1 (by rw [hwx]; first | exact hR | exact Blk.new_ _ 28 _ rfl) rfl _ _ rfl rfl rfl ?_; intro A6 c6 w6 hP6 hb6 hg6 ho6; have B6 : Below wr.heap.size wr w6 := Bx.trans (hb6.mono lg); clear hwx Bx hPx ho ho6)
                      | (refine name_step ?_; intro wx hwx; have Bx : Below wr.heap.size wr wx := (by rw [hwx]; with_reducible (repeat (first | exact B6 | exact B5 | exact by_refl _ | refine by_alloc ?_ _ | refine by_drew ?_))); (first | (refine (fun (hE : EmpR wx (wr.heap.size)) => ?_) ?_; rotate_left; (rw [hwx]; ((repeat (first | ((with_reducible refine EmpR.new _ ?_); (first | rfl | (simp [lWd] <;> fail))) | (with_reducible refine EmpR.drew ?_) | (with_reducible refine EmpR.alloc ?_ _))) <;> fail)); obtain ⟨g, hgd⟩ : ∃ g, g = wr.heap.size := ⟨_, rfl⟩) | (refine (fun (hE : EmpR wx (wr.heap.size + 1)) => ?_) ?_; rotate_left; (rw [hwx]; ((repeat (first | ((with_reducible refine EmpR.new _ ?_); (first | rfl | (simp [lWd] <;> fail))) | (with_reducible refine EmpR.drew ?_) | (with_reducible refine EmpR.alloc ?_ _))) <;> fail)); obtain ⟨g, hgd⟩ : ∃ g, g = wr.heap.size + 1 := ⟨_, rfl⟩)); (first | (refine (fun (hRx : Blk wx (wr.heap.size) #[.int .i64 k, .int .i64 nx, .slice A3 X.length c3]) => ?_) ?_; rotate_left; (rw [hwx]; ((repeat (first | ((with_reducible refine Blk.new_ _ 28 _ ?_); (first | rfl | (simp [lWd] <;> fail))) | (with_reducible refine Blk.drew ?_) | (with_reducible refine Blk.alloc ?_ _))) <;> fail))) | (refine (fun (hRx : Blk wx (wr.heap.size + 1) #[.int .i64 k, .int .i64 nx, .slice A3 X.length c3]) => ?_) ?_; rotate_left; (rw [hwx]; ((repeat (first | ((with_reducible refine Blk.new_ _ 28 _ ?_); (first | rfl | (simp [lWd] <;> fail))) | (with_reducible refine Blk.drew ?_) | (with_reducible refine Blk.alloc ?_ _))) <;> fail))) | skip); have lE := hE.lt; refine step_append_listR (p := (fun b => p b ∨ (w.heap.size + 3 ≤ b ∧ b < wr.heap.size))) (l := l) (m := l.length) hE (qL.below Bx |>.mono (fun b hb => .inl hb)) (fun b hb => by have h2 := Bx.size; rcases hb with hb | hb; (have := hps b hb; exact ⟨by omega, by omega⟩); exact ⟨by omega, by omega⟩) rfl (by omega) rfl _ _ rfl rfl rfl ?_; intro A5 c5 w5 hP5 hg5; have B5 : Below wr.heap.size wr w5 := by_grown Bx hg5 (by omega); (try (have hR := hRx.grown hg5 (fun e => absurd (Option.some.inj e) (by omega)))); (try clear hRx); clear hwx Bx; replace hP5 : PartR (fun b => p b ∨ (w.heap.size + 3 ≤ b ∧ b < wr.heap.size)) g w5 (.slice A5 l.length c5) l := (by rw [hgd]; exact hP5); have lg : wr.heap.size ≤ g := (by omega); have s5 := B5.size; have lg5 := hg5.size; have tk1 := trivial))
                    all_goals
                      go_wp2_with fail
                      go_meet
                      obtain ⟨A9, c9, e9, hr9⟩ := hP6.rd
                      injection e9 with e1 e2 e3
                      subst e1
                      exact ⟨A6, c6, rfl, hr9.mono (fun b hb => by rcases hb with (hb | hb) | hb; exact .inl hb; exact .inr hb.1; exact .inr (by omega)), B6⟩
                  case rest =>
                    obtain ⟨A23, c23, rfl, r23, hb23⟩ := hcut
                    rename_i wy
                    replace hFx := hFx.below hb23
                    replace qR := qR.below hb23
                    replace rYx := rYx.below hb23
                    replace hYx := hYx.keep hb23
                    clear hSof x0 x1 x2 y0 y1 y2 lWd qL rX rY rXx hXx hbs hbq t5
                    have lwy := hb23.size
                    go_wp2_with fail
                    have lWd : wc.drew.heap.size = wc.heap.size := rfl
                    obtain ⟨x0, x1, x2⟩ := hYx.three
                    have hSof := hide (show ∀ w' : World, Below wc.heap.size wc w' → (fun w' => w'.cell? ⟨w4.heap.size, 0, none⟩ = some (.int .i64 k) ∧ w'.cell? ⟨w4.heap.size, 1, none⟩ = some (.int .i64 nx) ∧ w'.cell? ⟨w4.heap.size, 2, none⟩ = some (.slice A4 Y.length c4)) w' from fun w' hb => ⟨Keeps.of_below hb _ _ x0, Keeps.of_below hb _ _ x1, Keeps.of_below hb _ _ x2⟩)
                    have hbs := hFx.size
                    go_cut [24] (fun s wz => ∃ A6 c6, s = .slice A6 (l.length + 1) c6 ∧ RdP (fun b => p b ∨ w.heap.size + 3 ≤ b) wz A6 0 (r ++ [.mk k nx Y]) ∧ Below wc.heap.size wc wz)
                    case first =>
                      go_region_held3 (fun w' => w'.cell? ⟨w4.heap.size, 0, none⟩ = some (.int .i64 k) ∧ w'.cell? ⟨w4.heap.size, 1, none⟩ = some (.int .i64 nx) ∧ w'.cell? ⟨w4.heap.size, 2, none⟩ = some (.slice A4 Y.length c4)) (((refine hSof.out _ ?_); ((with_reducible (repeat (first | exact B6 | exact B5 | exact by_refl _ | refine by_alloc ?_ _ | refine by_drew ?_))) <;> fail))) (first
                        | (refine name_step ?_; intro wx hwx; have _t := tk1; have Bx : Below wc.heap.size wc wx := (by rw [hwx]; with_reducible (repeat (first | exact B6 | exact B5 | exact by_refl _ | refine by_alloc ?_ _ | refine by_drew ?_))); have hPx : PartR (fun b => p b ∨ (w.heap.size + 3 ≤ b ∧ b < wc.heap.size)) g wx (.slice A5 l.length c5) r := (by rw [hwx]; with_reducible (repeat (first | exact hP5 | refine PartR.alloc ?_ _ | refine PartR.drew ?_))); have ho := hPx.own_ge; have lgx : g ≤ wx.heap.size := (by have h5 : w5.heap.size ≤ wx.heap.size := (by rw [hwx]; first | exact Nat.le_refl _ | (simp; done)); omega); refine step_append_rdW (q := fun b => w.heap.size + 3 ≤ b ∧ b < wc.heap.size) (k := k) (n := nx) (ks := Y) (A := A4) (c := c4) hPx lgx ((rdp_ltC.2 _ _ _ rYx).below Bx) (fun b hb => ⟨.inl (.inr hb), by have := Bx.size; omega, fun e => by have := (ho b e).1; omega⟩) hl4 hrl (by omega) _ 1 (by rw [hwx]; first | exact hR | exact Blk.new_ _ 28 _ rfl) rfl _ _ rfl rfl rfl ?_; intro A6 c6 w6 hP6 hb6 hg6 ho6; have B6 : Below wc.heap.size wc w6 := Bx.trans (hb6.mono lg); clear hwx Bx hPx ho ho6)
                        | (refine name_step ?_; intro wx hwx; have Bx : Below wc.heap.size wc wx := (by rw [hwx]; with_reducible (repeat (first | exact B6 | exact B5 | exact by_refl _ | refine by_alloc ?_ _ | refine by_drew ?_))); (first | (refine (fun (hE : EmpR wx (wc.heap.size)) => ?_) ?_; rotate_left; (rw [hwx]; ((repeat (first | ((with_reducible refine EmpR.new _ ?_); (first | rfl | (simp [lWd] <;> fail))) | (with_reducible refine EmpR.drew ?_) | (with_reducible refine EmpR.alloc ?_ _))) <;> fail)); obtain ⟨g, hgd⟩ : ∃ g, g = wc.heap.size := ⟨_, rfl⟩) | (refine (fun (hE : EmpR wx (wc.heap.size + 1)) => ?_) ?_; rotate_left; (rw [hwx]; ((repeat (first | ((with_reducible refine EmpR.new _ ?_); (first | rfl | (simp [lWd] <;> fail))) | (with_reducible refine EmpR.drew ?_) | (with_reducible refine EmpR.alloc ?_ _))) <;> fail)); obtain ⟨g, hgd⟩ : ∃ g, g = wc.heap.size + 1 := ⟨_, rfl⟩)); (first | (refine (fun (hRx : Blk wx (wc.heap.size) #[.int .i64 k, .int .i64 nx, .slice A4 Y.length c4]) => ?_) ?_; rotate_left; (rw [hwx]; ((repeat (first | ((with_reducible refine Blk.new_ _ 28 _ ?_); (first | rfl | (simp [lWd] <;> fail))) | (with_reducible refine Blk.drew ?_) | (with_reducible refine Blk.alloc ?_ _))) <;> fail))) | (refine (fun (hRx : Blk wx (wc.heap.size + 1) #[.int .i64 k, .int .i64 nx, .slice A4 Y.length c4]) => ?_) ?_; rotate_left; (rw [hwx]; ((repeat (first | ((with_reducible refine Blk.new_ _ 28 _ ?_); (first | rfl | (simp [lWd] <;> fail))) | (with_reducible refine Blk.drew ?_) | (with_reducible refine Blk.alloc ?_ _))) <;> fail))) | skip); have lE := hE.lt; refine step_append_listR (p := (fun b => p b ∨ (w.heap.size + 3 ≤ b ∧ b < wc.heap.size))) (l := r) (m := l.length) hE (qR.below Bx |>.mono (fun b hb => .inl hb)) (fun b hb => by have h2 := Bx.size; rcases hb with hb | hb; (have := hps b hb; exact ⟨by omega, by omega⟩); exact ⟨by omega, by omega⟩) hrl (by omega) rfl _ _ rfl rfl rfl ?_; intro A5 c5 w5 hP5 hg5; have B5 : Below wc.heap.size wc w5 := by_grown Bx hg5 (by omega); (try (have hR := hRx.grown hg5 (fun e => absurd (Option.some.inj e) (by omega)))); (try clear hRx); clear hwx Bx; replace hP5 : PartR (fun b => p b ∨ (w.heap.size + 3 ≤ b ∧ b < wc.heap.size)) g w5 (.slice A5 l.length c5) r := (by rw [hgd]; exact hP5); have lg : wc.heap.size ≤ g := (by omega); have s5 := B5.size; have lg5 := hg5.size; have tk1 := trivial))
                      all_goals
                        go_wp2_with fail
                        go_meet
                        obtain ⟨A9, c9, e9, hr9⟩ := hP6.rd
                        injection e9 with e1 e2 e3
                        subst e1
                        exact ⟨A6, c6, rfl, hr9.mono (fun b hb => by rcases hb with (hb | hb) | hb; exact .inl hb; exact .inr hb.1; exact .inr (by omega)), B6⟩
                    case rest =>
                      obtain ⟨A24, c24, rfl, r24, hb24⟩ := hcut
                      have hF9 := hFx.below hb24
                      have q23 := r23.below hb24
                      clear hSof x0 x1 x2
                      go_wp2_with (go_at_call 54; refine (sLeaf_any _ _ _).mono ?_; rintro e w9 ⟨rfl, hb9⟩; have hF10 := hF9.below hb9; obtain ⟨d0, d1, d2⟩ := hF10.h2.three; have e0 := hF10.h2.frozen 0; have e1 := hF10.h2.frozen 1; have e2 := hF10.h2.frozen 2)
                      have p23 := q23.below hb9
                      have p24 := r24.below hb9
                      have hnp : ¬ (p (w.heap.size + 1 + 1) ∨ w.heap.size + 3 ≤ w.heap.size + 1 + 1) := fun h => h.elim (fun h => by have := hps _ h; omega) (fun h => by omega)
                      refine bodyPost_ret (v := .tuple #[.agg #[.int .i64 1, .int .i64 (100 + l.length), .slice none 0 0], .slice A23 (l.length + 1) c23, .slice A24 (l.length + 1) c24, .bool true]) ?_ rfl ?_
                      · simp [results, Try.results22, go_sem, d0, d1, d2]
                      · rw [hcmz.out, hz'.out, hi2.out]
                        refine cmS_mk ⟨none, 0, A23, c23, A24, c24, by simp, by simp, RdP.nil, ?_, ?_, ((hF10.hb.setCell (by simp; omega) _).setCell (by simp; omega) _).setCell (by simp; omega) _⟩
                        · exact (((p23.setCell hnp _).setCell hnp _).setCell hnp _).mono (fun b h => h.imp id (fun h => by omega))
                        · exact (((p24.setCell hnp _).setCell hnp _).setCell hnp _).mono (fun b h => h.imp id (fun h => by omega))
        · have hlt' : ¬ ((j : Int) < (ks.length : Int)) := by omega
          go_upto_region 14 with fail
          clear x2
          obtain ⟨x0, x1, x2⟩ := hF.h0.three
          obtain ⟨y0, y1, y2⟩ := hF.h1.three
          cases hkp : kpS d 0 (.mk k n ks) with
          | false =>
            have hz : holeOf holeS d (.mk k n ks) (.mk k n us) (l, r) = none := by rw [holeOf, shiftI_down hd hv'.out, hkp]; rfl
            have hz' := hide hz
            have hkp' := hide hkp
            clear hz hkp
            go_wp2_with (go_at_call 51; refine (sBare_any k n ks A c d _ (by omega) hsa'.out (by omega) (hr.below hF.hb)).mono ?_; rw [hkp'.out]; rintro e w1 ⟨rfl, hb1⟩; have hF1 := hF.below hb1; clear x0 x1 x2 y0 y1 y2; obtain ⟨x0, x1, x2⟩ := hF1.h0.three; obtain ⟨y0, y1, y2⟩ := hF1.h1.three; obtain ⟨d0, d1, d2⟩ := hF1.h2.three; have e0 := hF1.h2.frozen 0; have e1 := hF1.h2.frozen 1; have e2 := hF1.h2.frozen 2)
            refine bodyPost_ret (v := (.tuple #[.agg #[.int .i64 0, .int .i64 0, .slice none 0 0], .slice L l.length cl, .slice R l.length cr, .bool false])) ?_ rfl ?_
            · simp [results, Try.results22, go_sem, d0, d1, d2]
            · rw [hcmz.out, hz'.out]
              exact ⟨⟨_, _, rfl⟩, ((hF1.hb.setCell (by simp; omega) _).setCell (by simp; omega) _).setCell (by simp; omega) _⟩
          | true =>
            cases hkq : kpS d 0 (.mk k n us) with
            | false =>
              have hz : holeOf holeS d (.mk k n ks) (.mk k n us) (l, r) = none := by rw [holeOf, shiftI_down hd hvu'.out, hkq, shiftI_down hd hv'.out, hkp]; rfl
              have hz' := hide hz
              have hkp' := hide hkp
              have hkq' := hide hkq
              clear hz hkp hkq
              go_wp2_with (first
                | (go_at_call 51; have _t := tok1; refine (sBare_any k n us U cu d _ (by omega) hsu'.out (by omega) (hru.below hF1.hb)).mono ?_; rw [hkq'.out]; rintro e w2 ⟨rfl, hb2⟩; have hF2 := hF1.below hb2; clear x0 x1 x2 y0 y1 y2; obtain ⟨x0, x1, x2⟩ := hF2.h0.three; obtain ⟨y0, y1, y2⟩ := hF2.h1.three; obtain ⟨d0, d1, d2⟩ := hF2.h2.three; have e0 := hF2.h2.frozen 0; have e1 := hF2.h2.frozen 1; have e2 := hF2.h2.frozen 2)
                | (go_at_call 51; refine (sBare_any k n ks A c d _ (by omega) hsa'.out (by omega) (hr.below hF.hb)).mono ?_; rw [hkp'.out]; rintro e w1 ⟨rfl, hb1⟩; have hF1 := hF.below hb1; clear x0 x1 x2 y0 y1 y2; obtain ⟨x0, x1, x2⟩ := hF1.h0.three; obtain ⟨y0, y1, y2⟩ := hF1.h1.three; have tok1 := trivial))
              refine bodyPost_ret (v := (.tuple #[.agg #[.int .i64 0, .int .i64 0, .slice none 0 0], .slice L l.length cl, .slice R l.length cr, .bool false])) ?_ rfl ?_
              · simp [results, Try.results22, go_sem, d0, d1, d2]
              · rw [hcmz.out, hz'.out]
                exact ⟨⟨_, _, rfl⟩, ((hF2.hb.setCell (by simp; omega) _).setCell (by simp; omega) _).setCell (by simp; omega) _⟩
            | true =>
              have hz : holeOf holeS d (.mk k n ks) (.mk k n us) (l, r) = (match idx2 (shS (-d) 0 (.mk k n ks)) (shS (-d) 0 (.mk k n us)) l r with | some i => some (holeS i, (l, r)) | none => some (holeS l.length, (l ++ [shS (-d) 0 (.mk k n ks)], r ++ [shS (-d) 0 (.mk k n us)]))) := by
                rw [holeOf, shiftI_down hd hvu'.out, hkq, shiftI_down hd hv'.out, hkp]; rfl
              rw [shS, shS] at hz
              obtain ⟨nx, hnx⟩ : ∃ nx, (if k = 1 ∧ 0 ≤ n then n + -d else n) = nx := ⟨_, rfl⟩
              obtain ⟨X, hX⟩ : ∃ X, shSL (-d) k 0 0 ks = X := ⟨_, rfl⟩
              obtain ⟨Y, hY⟩ : ∃ Y, shSL (-d) k 0 0 us = Y := ⟨_, rfl⟩
              rw [hnx, hX, hY] at hz
              have hz' := hide hz
              have hnx' := hide hnx
              have hX' := hide hX
              have hY' := hide hY
              have hkp' := hide hkp
              have hkq' := hide hkq
              clear hz hnx hkp hkq hX hY
              go_wp2_with (first
                | (go_at_call 52; have _t := tok3; refine (sShift_any _ k n us U cu (-d) 0 30 _ (Nat.lt_succ_self _) (by omega) hsu'.out (by omega) (by omega) (by omega) ((hru.below hF3.hb).alloc _)).mono ?_; rw [hnx'.out, hY'.out]; rintro e w4 ⟨A4, c4, rfl, hl4, hf4, hb4⟩; have hF4 := (hF3.alloc (.cells #[.int .i64 k, .int .i64 nx, .slice A3 X.length c3] 28)).below hb4; have hX4 := (Blk.new_ w3 28 #[.int .i64 k, .int .i64 nx, .slice A3 X.length c3] rfl).keep hb4; have rX4 := (rX3.alloc (.cells #[.int .i64 k, .int .i64 nx, .slice A3 X.length c3] 28)).below hb4; have rY4 : RdP (fun b => w.heap.size + 3 ≤ b) w4 A4 0 Y := (Fresh.rdp hf4).mono (fun b hb => by have := hF3.size; simp at hb; omega))
                | (go_at_call 52; have _t := tok2; refine (sShift_any _ k n ks A c (-d) 0 30 _ (Nat.lt_succ_self _) (by omega) hsa'.out (by omega) (by omega) (by omega) (hr.below hF2.hb)).mono ?_; rw [hnx'.out, hX'.out]; rintro e w3 ⟨A3, c3, rfl, hl3, hf3, hb3⟩; have hF3 := hF2.below hb3; have rX3 : RdP (fun b => w.heap.size + 3 ≤ b) w3 A3 0 X := (Fresh.rdp hf3).mono (fun b hb => by have := hF2.size; omega); clear x0 x1 x2 y0 y1 y2; obtain ⟨y0, y1, y2⟩ := hF3.h1.three; have l3 := hF3.size; have l3' : w.heap.size + 1 < w3.heap.size := (by omega); have tok3 := trivial)
                | (go_at_call 51; have _t := tok1; refine (sBare_any k n us U cu d _ (by omega) hsu'.out (by omega) (hru.below hF1.hb)).mono ?_; rw [hkq'.out]; rintro e w2 ⟨rfl, hb2⟩; have hF2 := hF1.below hb2; clear x0 x1 x2 y0 y1 y2; obtain ⟨x0, x1, x2⟩ := hF2.h0.three; obtain ⟨y0, y1, y2⟩ := hF2.h1.three; have tok2 := trivial)
                | (go_at_call 51; refine (sBare_any k n ks A c d _ (by omega) hsa'.out (by omega) (hr.below hF.hb)).mono ?_; rw [hkp'.out]; rintro e w1 ⟨rfl, hb1⟩; have hF1 := hF.below hb1; clear x0 x1 x2 y0 y1 y2; obtain ⟨x0, x1, x2⟩ := hF1.h0.three; obtain ⟨y0, y1, y2⟩ := hF1.h1.three; have tok1 := trivial))
              refine name_world ?_
              intro wx hwx
              have hFx : Fr w k n ks A c k n us U cu wx := by rw [hwx]; exact hF4.alloc _
              have hXx : Blk wx w3.heap.size #[.int .i64 k, .int .i64 nx, .slice A3 X.length c3] := by rw [hwx]; exact hX4.alloc _
              have hYx : Blk wx w4.heap.size #[.int .i64 k, .int .i64 nx, .slice A4 Y.length c4] := by rw [hwx]; exact Blk.new_ _ _ _ rfl
              have rXx : RdP (fun b => w.heap.size + 3 ≤ b) wx A3 0 X := by rw [hwx]; exact rX4.alloc _
              have rYx : RdP (fun b => w.heap.size + 3 ≤ b) wx A4 0 Y := by rw [hwx]; exact rY4.alloc _
              have l3 := hF3.size
              have l4 := hF4.size
              clear hwx y0 y1 y2 hX4 rX4 rY4 hF4 hF3 rX3 hF2 hF1 hF
              go_loopw [22] (fun i wr => ∃ (j : Nat), j ≤ l.length ∧ i = .int .i64 j ∧ (∀ i, i < j → bothAt (.mk k nx X) (.mk k nx Y) l r i = false) ∧ Below wx.heap.size wx wr) (fun i _ => l.length - (intOf i).toNat)
              case atStart => exact ⟨0, Nat.zero_le _, rfl, fun i hi => absurd hi (Nat.not_lt_zero _), Below.refl _ _⟩
              case round =>
                obtain ⟨j, hj, rfl, hall, hbq⟩ := hrel
                have hall' := hide hall
                clear hall
                replace hXx := hXx.keep hbq
                replace hYx := hYx.keep hbq
                replace hFx := hFx.below hbq
                replace rXx := rXx.below hbq
                replace rYx := rYx.below hbq
                have rX := rXx.rd
                have rY := rYx.rd
                have t5 := hbq.size
                have hsz := hFx.size
                have qL := hrL.below hFx.hb
                have qR := hrR.below hFx.hb
                have rdL := qL.rd
                have rdR := qR.rd
                obtain ⟨x0, x1, x2⟩ := hXx.three
                obtain ⟨y0, y1, y2⟩ := hYx.three
                by_cases hlt : j < l.length
                · obtain ⟨b1, o1, k1, n1, ks1, A1, c1, rfl, hk1, v0, v1, v2, hl1, hr1⟩ := rdL.at_ hlt
                  obtain ⟨b2, o2, k2, n2, ks2, A2, c2, rfl, hk2, z0, z1, z2, hl2, hr2⟩ := rdR.at_ (j := j) (by omega)
                  have hba : bothAt (.mk k nx X) (.mk k nx Y) l r j = (tmEq (.mk k1 n1 ks1) (.mk k nx X) && tmEq (.mk k2 n2 ks2) (.mk k nx Y)) := by rw [bothAt, getD_at hlt hk1, getD_at (by omega) hk2]
                  obtain ⟨tq1, ht1⟩ : ∃ tq1, tmEq (.mk k1 n1 ks1) (.mk k nx X) = tq1 := ⟨_, rfl⟩
                  obtain ⟨tq2, ht2⟩ : ∃ tq2, tmEq (.mk k2 n2 ks2) (.mk k nx Y) = tq2 := ⟨_, rfl⟩
                  rw [ht1, ht2] at hba
                  have hba' := hide hba
                  have hlj : (j : Int) < (l.length : Int) := by omega
                  have lX := hXx.lt
                  have lY := hYx.lt
                  have sm1 : ∀ w', Below wr.heap.size wr w' → Calls Try.prog 53 #[.agg #[.int .i64 k1, .int .i64 n1, .slice A1 ks1.length c1], .agg #[.int .i64 k, .int .i64 nx, .slice A3 X.length c3]] w' fun e w'' => e = .returned (.bool tq1) ∧ Below w'.heap.size w' w'' := fun w' hw' => by rw [← ht1]; exact sSame_any _ k1 n1 ks1 A1 c1 k nx X A3 c3 w' (Nat.lt_succ_self _) hl1 hl3 (hr1.below hw') (rX.below hw')
                  have sm2 : ∀ w', Below wr.heap.size wr w' → Calls Try.prog 53 #[.agg #[.int .i64 k2, .int .i64 n2, .slice A2 ks2.length c2], .agg #[.int .i64 k, .int .i64 nx, .slice A4 Y.length c4]] w' fun e w'' => e = .returned (.bool tq2) ∧ Below w'.heap.size w' w'' := fun w' hw' => by rw [← ht2]; exact sSame_any _ k2 n2 ks2 A2 c2 k nx Y A4 c4 w' (Nat.lt_succ_self _) hl2 hl4 (hr2.below hw') (rY.below hw')
                  clear hk1 hk2 hba ht1 ht2
                  cases tq1 with
                  | false =>
                    go_wp2_with fail
                    have y0 := hYx.rule (i := 0) rfl
                    have y1 := hYx.rule (i := 1) rfl
                    have y2 := hYx.rule (i := 2) rfl
                    have x0 := hXx.rule (i := 0) rfl
                    have x1 := hXx.rule (i := 1) rfl
                    have x2 := hXx.rule (i := 2) rfl
                    have v0' := rule_of v0
                    have v1' := rule_of v1
                    have v2' := rule_of v2
                    have z0' := rule_of z0
                    have z1' := rule_of z1
                    have z2' := rule_of z2
                    refine wp_region_class (fun w' => Below wr.heap.size wr w') (by kernel_rfl) (by kernel_rfl) (Below.refl _ _).drew ?_
                    repeat (first | ((refine quiet_skip (a' := ?_) ?_ ?_ ?_); (rotate_left); (· (simp [Region.wanted, yielded]; done)); (· (simp only [List.getElem_toArray, List.getElem_cons_zero, List.getElem_cons_succ, Act.put, List.setIfInBounds_toArray, List.set_cons_zero, List.set_cons_succ]; exact rfl))) | ((refine quiet_one (v := ?_) (a' := ?_) ?_ ?_ ?_ ?_); (rotate_left 2); (· (simp [Region.wanted, yielded]; done)); (· (intro w' hS'; go_simp; try (with_reducible rfl))); (· (simp only [List.getElem_toArray, List.getElem_cons_zero, List.getElem_cons_succ, Act.put, List.setIfInBounds_toArray, List.set_cons_zero, List.set_cons_succ]; exact rfl))) | ((refine quiet_below (v := ?_) (a' := ?_) 53 ?_ ?_ ?_ ?_ ?_ ?_); (rotate_left 3); (· (simp [Region.wanted, yielded]; done)); (· (intro w' hS'; go_simp; try (with_reducible rfl))); (· (intro w' hS'; with_reducible exact sm1 w' hS')); (· (simp only [List.getElem_toArray, List.getElem_cons_zero, List.getElem_cons_succ, Act.put, List.setIfInBounds_toArray, List.set_cons_zero, List.set_cons_succ]; exact rfl))) | ((refine quiet_below (v := ?_) (a' := ?_) 53 ?_ ?_ ?_ ?_ ?_ ?_); (rotate_left 3); (· (simp [Region.wanted, yielded]; done)); (· (intro w' hS'; go_simp; try (with_reducible rfl))); (· (intro w' hS'; with_reducible exact sm2 w' hS')); (· (simp only [List.getElem_toArray, List.getElem_cons_zero, List.getElem_cons_succ, Act.put, List.setIfInBounds_toArray, List.set_cons_zero, List.set_cons_succ]; exact rfl))))
                    refine quiet_nil ?_
                    intro wa hx1
                    clear x0 x1 x2 y0 y1 y2 v0' v1' v2' z0' z1' z2'
                    go_wp2_with fail
                    go_roundw
                    case rel => exact ⟨j + 1, hlt, by go_num, all_succ hall'.out hba'.out, hbq.trans (hx1.mono hbq.size)⟩
                    case measure => simp [intOf]; omega
                  | true =>
                    cases tq2 with
                    | false =>
                      go_wp2_with fail
                      have y0 := hYx.rule (i := 0) rfl
                      have y1 := hYx.rule (i := 1) rfl
                      have y2 := hYx.rule (i := 2) rfl
                      have x0 := hXx.rule (i := 0) rfl
                      have x1 := hXx.rule (i := 1) rfl
                      have x2 := hXx.rule (i := 2) rfl
                      have v0' := rule_of v0
                      have v1' := rule_of v1
                      have v2' := rule_of v2
                      have z0' := rule_of z0
                      have z1' := rule_of z1
                      have z2' := rule_of z2
                      refine wp_region_class (fun w' => Below wr.heap.size wr w') (by kernel_rfl) (by kernel_rfl) (Below.refl _ _).drew ?_
                      repeat (first | ((refine quiet_skip (a' := ?_) ?_ ?_ ?_); (rotate_left); (· (simp [Region.wanted, yielded]; done)); (· (simp only [List.getElem_toArray, List.getElem_cons_zero, List.getElem_cons_succ, Act.put, List.setIfInBounds_toArray, List.set_cons_zero, List.set_cons_succ]; exact rfl))) | ((refine quiet_one (v := ?_) (a' := ?_) ?_ ?_ ?_ ?_); (rotate_left 2); (· (simp [Region.wanted, yielded]; done)); (· (intro w' hS'; go_simp; try (with_reducible rfl))); (· (simp only [List.getElem_toArray, List.getElem_cons_zero, List.getElem_cons_succ, Act.put, List.setIfInBounds_toArray, List.set_cons_zero, List.set_cons_succ]; exact rfl))) | ((refine quiet_below (v := ?_) (a' := ?_) 53 ?_ ?_ ?_ ?_ ?_ ?_); (rotate_left 3); (· (simp [Region.wanted, yielded]; done)); (· (intro w' hS'; go_simp; try (with_reducible rfl))); (· (intro w' hS'; with_reducible exact sm1 w' hS')); (· (simp only [List.getElem_toArray, List.getElem_cons_zero, List.getElem_cons_succ, Act.put, List.setIfInBounds_toArray, List.set_cons_zero, List.set_cons_succ]; exact rfl))) | ((refine quiet_below (v := ?_) (a' := ?_) 53 ?_ ?_ ?_ ?_ ?_ ?_); (rotate_left 3); (· (simp [Region.wanted, yielded]; done)); (· (intro w' hS'; go_simp; try (with_reducible rfl))); (· (intro w' hS'; with_reducible exact sm2 w' hS')); (· (simp only [List.getElem_toArray, List.getElem_cons_zero, List.getElem_cons_succ, Act.put, List.setIfInBounds_toArray, List.set_cons_zero, List.set_cons_succ]; exact rfl))))
                      refine quiet_nil ?_
                      intro wa hx1
                      clear x0 x1 x2 y0 y1 y2 v0' v1' v2' z0' z1' z2'
                      go_wp2_with fail
                      go_roundw
                      case rel => exact ⟨j + 1, hlt, by go_num, all_succ hall'.out hba'.out, hbq.trans (hx1.mono hbq.size)⟩
                      case measure => simp [intOf]; omega
                    | true =>
                      go_wp2_with fail
                      have y0 := hYx.rule (i := 0) rfl
                      have y1 := hYx.rule (i := 1) rfl
                      have y2 := hYx.rule (i := 2) rfl
                      have x0 := hXx.rule (i := 0) rfl
                      have x1 := hXx.rule (i := 1) rfl
                      have x2 := hXx.rule (i := 2) rfl
                      have v0' := rule_of v0
                      have v1' := rule_of v1
                      have v2' := rule_of v2
                      have z0' := rule_of z0
                      have z1' := rule_of z1
                      have z2' := rule_of z2
                      refine wp_region_class (fun w' => Below wr.heap.size wr w') (by kernel_rfl) (by kernel_rfl) (Below.refl _ _).drew ?_
                      repeat (first | ((refine quiet_skip (a' := ?_) ?_ ?_ ?_); (rotate_left); (· (simp [Region.wanted, yielded]; done)); (· (simp only [List.getElem_toArray, List.getElem_cons_zero, List.getElem_cons_succ, Act.put, List.setIfInBounds_toArray, List.set_cons_zero, List.set_cons_succ]; exact rfl))) | ((refine quiet_one (v := ?_) (a' := ?_) ?_ ?_ ?_ ?_); (rotate_left 2); (· (simp [Region.wanted, yielded]; done)); (· (intro w' hS'; go_simp; try (with_reducible rfl))); (· (simp only [List.getElem_toArray, List.getElem_cons_zero, List.getElem_cons_succ, Act.put, List.setIfInBounds_toArray, List.set_cons_zero, List.set_cons_succ]; exact rfl))) | ((refine quiet_below (v := ?_) (a' := ?_) 53 ?_ ?_ ?_ ?_ ?_ ?_); (rotate_left 3); (· (simp [Region.wanted, yielded]; done)); (· (intro w' hS'; go_simp; try (with_reducible rfl))); (· (intro w' hS'; with_reducible exact sm1 w' hS')); (· (simp only [List.getElem_toArray, List.getElem_cons_zero, List.getElem_cons_succ, Act.put, List.setIfInBounds_toArray, List.set_cons_zero, List.set_cons_succ]; exact rfl))) | ((refine quiet_below (v := ?_) (a' := ?_) 53 ?_ ?_ ?_ ?_ ?_ ?_); (rotate_left 3); (· (simp [Region.wanted, yielded]; done)); (· (intro w' hS'; go_simp; try (with_reducible rfl))); (· (intro w' hS'; with_reducible exact sm2 w' hS')); (· (simp only [List.getElem_toArray, List.getElem_cons_zero, List.getElem_cons_succ, Act.put, List.setIfInBounds_toArray, List.set_cons_zero, List.set_cons_succ]; exact rfl))))
                      refine quiet_nil ?_
                      intro wa hx1
                      clear x0 x1 x2 y0 y1 y2 v0' v1' v2' z0' z1' z2'
                      have hF9 := hFx.below hx1
                      go_wp2_with (go_at_call 54; refine (sLeaf_any _ _ _).mono ?_; rintro e w9 ⟨rfl, hb9⟩; replace hF9 := hF9.below hb9; obtain ⟨d0, d1, d2⟩ := hF9.h2.three; have e0 := hF9.h2.frozen 0; have e1 := hF9.h2.frozen 1; have e2 := hF9.h2.frozen 2)
                      have hi2 := idx2_some (x := .mk k nx X) (y := .mk k nx Y) (l := l) (r := r) hrl hall'.out hlt hba'.out
                      have qL9 := (qL.below hx1).below hb9
                      have qR9 := (qR.below hx1).below hb9
                      refine bodyPost_ret (v := .tuple #[.agg #[.int .i64 1, .int .i64 (100 + j), .slice none 0 0], .slice (some ⟨b1, o1, none⟩) l.length cl, .slice (some ⟨b2, o2, none⟩) l.length cr, .bool true]) ?_ rfl ?_
                      · simp [results, Try.results22, go_sem, d0, d1, d2]
                      · rw [hcmz.out, hz'.out, hi2]
                        have hnp : ¬ p (w.heap.size + 1 + 1) := fun h => by have := hps _ h; omega
                        refine cmS_mk ⟨none, 0, _, _, _, _, rfl, by simp, RdP.nil, ?_, ?_, ((hF9.hb.setCell (by simp; omega) _).setCell (by simp; omega) _).setCell (by simp; omega) _⟩
                        · exact (((qL9.setCell hnp _).setCell hnp _).setCell hnp _).mono (fun b h => .inl h)
                        · exact (((qR9.setCell hnp _).setCell hnp _).setCell hnp _).mono (fun b h => .inl h)
                · have hjl : j = l.length := by omega
                  subst hjl
                  have hi2 := hide (idx2_none (x := .mk k nx X) (y := .mk k nx Y) (l := l) (r := r) hrl hall'.out)
                  clear hall'
                  go_wp2_with fail
                  have lWd : wr.drew.heap.size = wr.heap.size := rfl
                  obtain ⟨x0, x1, x2⟩ := hXx.three
                  have hSof := hide (show ∀ w' : World, Below wr.heap.size wr w' → (fun w' => w'.cell? ⟨w3.heap.size, 0, none⟩ = some (.int .i64 k) ∧ w'.cell? ⟨w3.heap.size, 1, none⟩ = some (.int .i64 nx) ∧ w'.cell? ⟨w3.heap.size, 2, none⟩ = some (.slice A3 X.length c3)) w' from fun w' hb => ⟨Keeps.of_below hb _ _ x0, Keeps.of_below hb _ _ x1, Keeps.of_below hb _ _ x2⟩)
                  have hbs := hFx.size
                  go_cut [23] (fun s wz => ∃ A6 c6, s = .slice A6 (l.length + 1) c6 ∧ RdP (fun b => p b ∨ w.heap.size + 3 ≤ b) wz A6 0 (l ++ [.mk k nx X]) ∧ Below wr.heap.size wr wz)
                  case first =>
                    go_region_held3 (fun w' => w'.cell? ⟨w3.heap.size, 0, none⟩ = some (.int .i64 k) ∧ w'.cell? ⟨w3.heap.size, 1, none⟩ = some (.int .i64 nx) ∧ w'.cell? ⟨w3.heap.size, 2, none⟩ = some (.slice A3 X.length c3)) (((refine hSof.out _ ?_); ((with_reducible (repeat (first | exact B6 | exact B5 | exact by_refl _ | refine by_alloc ?_ _ | refine by_drew ?_))) <;> fail))) (first
                      | (refine name_step ?_; intro wx hwx; have _t := tk1; have Bx : Below wr.heap.size wr wx := (by rw [hwx]; with_reducible (repeat (first | exact B6 | exact B5 | exact by_refl _ | refine by_alloc ?_ _ | refine by_drew ?_))); have hPx : PartR (fun b => p b ∨ (w.heap.size + 3 ≤ b ∧ b < wr.heap.size)) g wx (.slice A5 l.length c5) l := (by rw [hwx]; with_reducible (repeat (first | exact hP5 | refine PartR.alloc ?_ _ | refine PartR.drew ?_))); have ho := hPx.own_ge; have lgx : g ≤ wx.heap.size := (by have h5 : w5.heap.size ≤ wx.heap.size := (by rw [hwx]; first | exact Nat.le_refl _ | (simp; done)); omega); refine step_append_rdW (q := fun b => w.heap.size + 3 ≤ b ∧ b < wr.heap.size) (k := k) (n := nx) (ks := X) (A := A3) (c := c3) hPx lgx ((rdp_ltC.2 _ _ _ rXx).below Bx) (fun b hb => ⟨.inl (.inr hb), by have := Bx.size; omega, fun e => by have := (ho b e).1; omega⟩) hl3 rfl (by omega) _ 1 (by rw [hwx]; first | exact hR | exact Blk.new_ _ 28 _ rfl) rfl _ _ rfl rfl rfl ?_; intro A6 c6 w6 hP6 hb6 hg6 ho6; have B6 : Below wr.heap.size wr w6 := Bx.trans (hb6.mono lg); clear hwx Bx hPx ho ho6)
                      | (refine name_step ?_; intro wx hwx; have Bx : Below wr.heap.size wr wx := (by rw [hwx]; with_reducible (repeat (first | exact B6 | exact B5 | exact by_refl _ | refine by_alloc ?_ _ | refine by_drew ?_))); (first | (refine (fun (hE : EmpR wx (wr.heap.size)) => ?_) ?_; rotate_left; (rw [hwx]; ((repeat (first | ((with_reducible refine EmpR.new _ ?_); (first | rfl | (simp [lWd] <;> fail))) | (with_reducible refine EmpR.drew ?_) | (with_reducible refine EmpR.alloc ?_ _))) <;> fail)); obtain ⟨g, hgd⟩ : ∃ g, g = wr.heap.size := ⟨_, rfl⟩) | (refine (fun (hE : EmpR wx (wr.heap.size + 1)) => ?_) ?_; rotate_left; (rw [hwx]; ((repeat (first | ((with_reducible refine EmpR.new _ ?_); (first | rfl | (simp [lWd] <;> fail))) | (with_reducible refine EmpR.drew ?_) | (with_reducible refine EmpR.alloc ?_ _))) <;> fail)); obtain ⟨g, hgd⟩ : ∃ g, g = wr.heap.size + 1 := ⟨_, rfl⟩)); (first | (refine (fun (hRx : Blk wx (wr.heap.size) #[.int .i64 k, .int .i64 nx, .slice A3 X.length c3]) => ?_) ?_; rotate_left; (rw [hwx]; ((repeat (first | ((with_reducible refine Blk.new_ _ 28 _ ?_); (first | rfl | (simp [lWd] <;> fail))) | (with_reducible refine Blk.drew ?_) | (with_reducible refine Blk.alloc ?_ _))) <;> fail))) | (refine (fun (hRx : Blk wx (wr.heap.size + 1) #[.int .i64 k, .int .i64 nx, .slice A3 X.length c3]) => ?_) ?_; rotate_left; (rw [hwx]; ((repeat (first | ((with_reducible refine Blk.new_ _ 28 _ ?_); (first | rfl | (simp [lWd] <;> fail))) | (with_reducible refine Blk.drew ?_) | (with_reducible refine Blk.alloc ?_ _))) <;> fail))) | skip); have lE := hE.lt; refine step_append_listR (p := (fun b => p b ∨ (w.heap.size + 3 ≤ b ∧ b < wr.heap.size))) (l := l) (m := l.length) hE (qL.below Bx |>.mono (fun b hb => .inl hb)) (fun b hb => by have h2 := Bx.size; rcases hb with hb | hb; (have := hps b hb; exact ⟨by omega, by omega⟩); exact ⟨by omega, by omega⟩) rfl (by omega) rfl _ _ rfl rfl rfl ?_; intro A5 c5 w5 hP5 hg5; have B5 : Below wr.heap.size wr w5 := by_grown Bx hg5 (by omega); (try (have hR := hRx.grown hg5 (fun e => absurd (Option.some.inj e) (by omega)))); (try clear hRx); clear hwx Bx; replace hP5 : PartR (fun b => p b ∨ (w.heap.size + 3 ≤ b ∧ b < wr.heap.size)) g w5 (.slice A5 l.length c5) l := (by rw [hgd]; exact hP5); have lg : wr.heap.size ≤ g := (by omega); have s5 := B5.size; have lg5 := hg5.size; have tk1 := trivial))
                    all_goals
                      go_wp2_with fail
                      go_meet
                      obtain ⟨A9, c9, e9, hr9⟩ := hP6.rd
                      injection e9 with e1 e2 e3
                      subst e1
                      exact ⟨A6, c6, rfl, hr9.mono (fun b hb => by rcases hb with (hb | hb) | hb; exact .inl hb; exact .inr hb.1; exact .inr (by omega)), B6⟩
                  case rest =>
                    obtain ⟨A23, c23, rfl, r23, hb23⟩ := hcut
                    rename_i wy
                    replace hFx := hFx.below hb23
                    replace qR := qR.below hb23
                    replace rYx := rYx.below hb23
                    replace hYx := hYx.keep hb23
                    clear hSof x0 x1 x2 y0 y1 y2 lWd qL rX rY rXx hXx hbs hbq t5
                    have lwy := hb23.size
                    go_wp2_with fail
                    have lWd : wc.drew.heap.size = wc.heap.size := rfl
                    obtain ⟨x0, x1, x2⟩ := hYx.three
                    have hSof := hide (show ∀ w' : World, Below wc.heap.size wc w' → (fun w' => w'.cell? ⟨w4.heap.size, 0, none⟩ = some (.int .i64 k) ∧ w'.cell? ⟨w4.heap.size, 1, none⟩ = some (.int .i64 nx) ∧ w'.cell? ⟨w4.heap.size, 2, none⟩ = some (.slice A4 Y.length c4)) w' from fun w' hb => ⟨Keeps.of_below hb _ _ x0, Keeps.of_below hb _ _ x1, Keeps.of_below hb _ _ x2⟩)
                    have hbs := hFx.size
                    go_cut [24] (fun s wz => ∃ A6 c6, s = .slice A6 (l.length + 1) c6 ∧ RdP (fun b => p b ∨ w.heap.size + 3 ≤ b) wz A6 0 (r ++ [.mk k nx Y]) ∧ Below wc.heap.size wc wz)
                    case first =>
                      go_region_held3 (fun w' => w'.cell? ⟨w4.heap.size, 0, none⟩ = some (.int .i64 k) ∧ w'.cell? ⟨w4.heap.size, 1, none⟩ = some (.int .i64 nx) ∧ w'.cell? ⟨w4.heap.size, 2, none⟩ = some (.slice A4 Y.length c4)) (((refine hSof.out _ ?_); ((with_reducible (repeat (first | exact B6 | exact B5 | exact by_refl _ | refine by_alloc ?_ _ | refine by_drew ?_))) <;> fail))) (first
                        | (refine name_step ?_; intro wx hwx; have _t := tk1; have Bx : Below wc.heap.size wc wx := (by rw [hwx]; with_reducible (repeat (first | exact B6 | exact B5 | exact by_refl _ | refine by_alloc ?_ _ | refine by_drew ?_))); have hPx : PartR (fun b => p b ∨ (w.heap.size + 3 ≤ b ∧ b < wc.heap.size)) g wx (.slice A5 l.length c5) r := (by rw [hwx]; with_reducible (repeat (first | exact hP5 | refine PartR.alloc ?_ _ | refine PartR.drew ?_))); have ho := hPx.own_ge; have lgx : g ≤ wx.heap.size := (by have h5 : w5.heap.size ≤ wx.heap.size := (by rw [hwx]; first | exact Nat.le_refl _ | (simp; done)); omega); refine step_append_rdW (q := fun b => w.heap.size + 3 ≤ b ∧ b < wc.heap.size) (k := k) (n := nx) (ks := Y) (A := A4) (c := c4) hPx lgx ((rdp_ltC.2 _ _ _ rYx).below Bx) (fun b hb => ⟨.inl (.inr hb), by have := Bx.size; omega, fun e => by have := (ho b e).1; omega⟩) hl4 hrl (by omega) _ 1 (by rw [hwx]; first | exact hR | exact Blk.new_ _ 28 _ rfl) rfl _ _ rfl rfl rfl ?_; intro A6 c6 w6 hP6 hb6 hg6 ho6; have B6 : Below wc.heap.size wc w6 := Bx.trans (hb6.mono lg); clear hwx Bx hPx ho ho6)
                        | (refine name_step ?_; intro wx hwx; have Bx : Below wc.heap.size wc wx := (by rw [hwx]; with_reducible (repeat (first | exact B6 | exact B5 | exact by_refl _ | refine by_alloc ?_ _ | refine by_drew ?_))); (first | (refine (fun (hE : EmpR wx (wc.heap.size)) => ?_) ?_; rotate_left; (rw [hwx]; ((repeat (first | ((with_reducible refine EmpR.new _ ?_); (first | rfl | (simp [lWd] <;> fail))) | (with_reducible refine EmpR.drew ?_) | (with_reducible refine EmpR.alloc ?_ _))) <;> fail)); obtain ⟨g, hgd⟩ : ∃ g, g = wc.heap.size := ⟨_, rfl⟩) | (refine (fun (hE : EmpR wx (wc.heap.size + 1)) => ?_) ?_; rotate_left; (rw [hwx]; ((repeat (first | ((with_reducible refine EmpR.new _ ?_); (first | rfl | (simp [lWd] <;> fail))) | (with_reducible refine EmpR.drew ?_) | (with_reducible refine EmpR.alloc ?_ _))) <;> fail)); obtain ⟨g, hgd⟩ : ∃ g, g = wc.heap.size + 1 := ⟨_, rfl⟩)); (first | (refine (fun (hRx : Blk wx (wc.heap.size) #[.int .i64 k, .int .i64 nx, .slice A4 Y.length c4]) => ?_) ?_; rotate_left; (rw [hwx]; ((repeat (first | ((with_reducible refine Blk.new_ _ 28 _ ?_); (first | rfl | (simp [lWd] <;> fail))) | (with_reducible refine Blk.drew ?_) | (with_reducible refine Blk.alloc ?_ _))) <;> fail))) | (refine (fun (hRx : Blk wx (wc.heap.size + 1) #[.int .i64 k, .int .i64 nx, .slice A4 Y.length c4]) => ?_) ?_; rotate_left; (rw [hwx]; ((repeat (first | ((with_reducible refine Blk.new_ _ 28 _ ?_); (first | rfl | (simp [lWd] <;> fail))) | (with_reducible refine Blk.drew ?_) | (with_reducible refine Blk.alloc ?_ _))) <;> fail))) | skip); have lE := hE.lt; refine step_append_listR (p := (fun b => p b ∨ (w.heap.size + 3 ≤ b ∧ b < wc.heap.size))) (l := r) (m := l.length) hE (qR.below Bx |>.mono (fun b hb => .inl hb)) (fun b hb => by have h2 := Bx.size; rcases hb with hb | hb; (have := hps b hb; exact ⟨by omega, by omega⟩); exact ⟨by omega, by omega⟩) hrl (by omega) rfl _ _ rfl rfl rfl ?_; intro A5 c5 w5 hP5 hg5; have B5 : Below wc.heap.size wc w5 := by_grown Bx hg5 (by omega); (try (have hR := hRx.grown hg5 (fun e => absurd (Option.some.inj e) (by omega)))); (try clear hRx); clear hwx Bx; replace hP5 : PartR (fun b => p b ∨ (w.heap.size + 3 ≤ b ∧ b < wc.heap.size)) g w5 (.slice A5 l.length c5) r := (by rw [hgd]; exact hP5); have lg : wc.heap.size ≤ g := (by omega); have s5 := B5.size; have lg5 := hg5.size; have tk1 := trivial))
                      all_goals
                        go_wp2_with fail
                        go_meet
                        obtain ⟨A9, c9, e9, hr9⟩ := hP6.rd
                        injection e9 with e1 e2 e3
                        subst e1
                        exact ⟨A6, c6, rfl, hr9.mono (fun b hb => by rcases hb with (hb | hb) | hb; exact .inl hb; exact .inr hb.1; exact .inr (by omega)), B6⟩
                    case rest =>
                      obtain ⟨A24, c24, rfl, r24, hb24⟩ := hcut
                      have hF9 := hFx.below hb24
                      have q23 := r23.below hb24
                      clear hSof x0 x1 x2
                      go_wp2_with (go_at_call 54; refine (sLeaf_any _ _ _).mono ?_; rintro e w9 ⟨rfl, hb9⟩; have hF10 := hF9.below hb9; obtain ⟨d0, d1, d2⟩ := hF10.h2.three; have e0 := hF10.h2.frozen 0; have e1 := hF10.h2.frozen 1; have e2 := hF10.h2.frozen 2)
                      have p23 := q23.below hb9
                      have p24 := r24.below hb9
                      have hnp : ¬ (p (w.heap.size + 1 + 1) ∨ w.heap.size + 3 ≤ w.heap.size + 1 + 1) := fun h => h.elim (fun h => by have := hps _ h; omega) (fun h => by omega)
                      refine bodyPost_ret (v := .tuple #[.agg #[.int .i64 1, .int .i64 (100 + l.length), .slice none 0 0], .slice A23 (l.length + 1) c23, .slice A24 (l.length + 1) c24, .bool true]) ?_ rfl ?_
                      · simp [results, Try.results22, go_sem, d0, d1, d2]
                      · rw [hcmz.out, hz'.out, hi2.out]
                        refine cmS_mk ⟨none, 0, A23, c23, A24, c24, by simp, by simp, RdP.nil, ?_, ?_, ((hF10.hb.setCell (by simp; omega) _).setCell (by simp; omega) _).setCell (by simp; omega) _⟩
                        · exact (((p23.setCell hnp _).setCell hnp _).setCell hnp _).mono (fun b h => h.imp id (fun h => by omega))
                        · exact (((p24.setCell hnp _).setCell hnp _).setCell hnp _).mono (fun b h => h.imp id (fun h => by omega))
  · exact sCommon_neg p k n ks A c ku nu us U cu d l r L R cl cr m w hv hvu hd hdq hst hm hr hru hps hrL hrR hne
end Go.Proofs.Ytgmljpmnfncceaa
