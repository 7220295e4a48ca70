/-
 Contracts of the functions that the law reaches, and plain lemmas. No condition.
-/
import Derived.Test.YtddkehjdjfmhmaaK7
import Derived.Test.YtddkehjdjfmhmaaK17
import Derived.Test.YtddkehjdjfmhmaaK18
import Derived.Deep.RegionHeld3
import Derived.Deep.DeepCutAuto
namespace Go.Proofs.Ytddkehjdjfmhmaa
set_option linter.unusedSimpArgs false
set_option linter.unusedVariables false
open Go.RowKit
theorem rdx_cons3 {p : Nat → Prop} {w : World} {k n : Int} {ks : List Tm} {A : Option Addr} {c : Nat} {ts : List Tm} {ys : List Value} (hl : ks.length ≤ 9223372036854775807) (hr : RdP p w A 0 ks) (hx : RdX p w ts ys) : RdX p w (.mk k n ks :: ts) (.int .i64 k :: .int .i64 n :: .slice A ks.length c :: ys) := ⟨A, c, ys, rfl, hl, hr, hx⟩
theorem name_calls3 {P : Program} {f : FuncId} {args : Array Value} {w : World} {Q : Ending → World → Prop} (h : ∀ wx, wx = w → Calls P f args wx Q) : Calls P f args w Q := h w rfl
theorem bw_alloc {W w : World} (h : Below W.heap.size W w) (o : Obj) : Below W.heap.size W (w.alloc o) := h.alloc h.size o
theorem bw_drew {W w : World} (h : Below W.heap.size W w) : Below W.heap.size W w.drew := h.drew
theorem bw_refl (W : World) : Below W.heap.size W W := Below.refl _ _
theorem bw_set3 {W w : World} (h : Below W.heap.size W w) {g : Nat} (hg : W.heap.size ≤ g) (x y z : Value) : Below W.heap.size W (((w.setCell ⟨g, 0, none⟩ x).setCell ⟨g, 1, none⟩ y).setCell ⟨g, 2, none⟩ z) := ((h.setCell hg _).setCell hg _).setCell hg _
theorem kp_cell {W w : World} (h : Below W.heap.size W w) {b o : Nat} {v : Value} (hc : W.cell? ⟨b, o, none⟩ = some v) : w.cell? ⟨b, o, none⟩ = some v := Keeps.of_below h _ _ hc
set_option maxHeartbeats 8000000 in
set_option maxRecDepth 100000 in
theorem contract3 : Contract3 := by
 intro n n8 t0 t1 t2 m A c w hM hr
 obtain ⟨b0, off0, k0, n0, ks0, A0, c0, hA0, hk0, p0, q0, r0, hl0, hr0⟩ := hr.at_ (j := 0) (by simp)
 have hk0 : t0 = .mk k0 n0 ks0 := hk0
 obtain ⟨b1, off1, k1, n1, ks1, A1, c1, hA1, hk1, p1, q1, r1, hl1, hr1⟩ := hr.at_ (j := 1) (by simp)
 have hk1 : t1 = .mk k1 n1 ks1 := hk1
 obtain ⟨b2, off2, k2, n2, ks2, A2, c2, hA2, hk2, p2, q2, r2, hl2, hr2⟩ := hr.at_ (j := 2) (by simp)
 have hk2 : t2 = .mk k2 n2 ks2 := hk2
 obtain ⟨b3, off3, k3, n3, ks3, A3, c3, hA3, hk3, p3, q3, r3, hl3, hr3⟩ := hr.at_ (j := 3) (by simp)
 injection hk3 with h1 h2 h3
 subst h1 h2 h3
 obtain ⟨bm, offm, km, nm, ksm, Am, cm, hAm, hkm, pm, qm, rm, hlm, hrm⟩ := hr3.at_ (j := 0) (by simp)
 have hkm : m = .mk km nm ksm := hkm
 subst hk0 hk1 hk2 hkm hA0 hAm
 injection hA1 with hA1
 injection hA1 with h1 h2
 subst h1 h2
 injection hA2 with hA2
 injection hA2 with h1 h2
 subst h1 h2
 injection hA3 with hA3
 injection hA3 with h1 h2
 subst h1 h2
 simp only [Nat.reduceMul, Nat.zero_mul, Nat.add_zero] at p0 q0 r0 p1 q1 r1 p2 q2 r2 p3 q3 r3 pm qm rm
 have hsz : sizes ks0 + sizes ks1 + sizes ks2 + sizes ksm ≤ 400 := by simp only [sizes, Tm.size] at hM; omega
 have hrd := hide (show rdx 9 [.mk k0 n0 ks0, .mk k1 n1 ks1, .mk k2 n2 ks2, .mk 8 n8 [.mk km nm ksm]] = 3 from rfl)
 go_enter Try.func95, Try.ntmps95
 go_wp2_with (go_at_call 64; refine (sRedex_any 9 n [.mk k0 n0 ks0, .mk k1 n1 ks1, .mk k2 n2 ks2, .mk 8 n8 [.mk km nm ksm]] _ c _ (by simp) rfl ((hr.alloc _).alloc _)).mono ?_; rw [hrd.out]; rintro e w1 ⟨rfl, hb1⟩; have hB : Blk w1 w.heap.size #[.int .i64 9, .int .i64 n, .slice (some ⟨b0, off0, none⟩) ([.mk k0 n0 ks0, .mk k1 n1 ks1, .mk k2 n2 ks2, .mk 8 n8 [.mk km nm ksm]] : List Tm).length c] := ((Blk.new_ w 25 _ rfl).alloc _).keep hb1; have hZ : Blk w1 (w.heap.size + 1) #[.int .i64 0, .int .i64 0, .slice none 0 0] := (Blk.new_ _ 25 _ (by simp)).keep hb1; have g1 : Below w.heap.size w w1 := (((Below.refl _ _).alloc (Nat.le_refl _) _).alloc (by simp) _).trans (hb1.mono (by simp; omega)); have s1 := hZ.lt; have K1 := Keeps.of_below g1; have x2 := hB.at_ (i := 2) rfl; replace p0 := K1 _ _ p0; replace q0 := K1 _ _ q0; replace r0 := K1 _ _ r0; replace p1 := K1 _ _ p1; replace q1 := K1 _ _ q1; replace r1 := K1 _ _ r1; replace p2 := K1 _ _ p2; replace q2 := K1 _ _ q2; replace r2 := K1 _ _ r2; replace p3 := K1 _ _ p3; replace q3 := K1 _ _ q3; replace r3 := K1 _ _ r3; replace pm := K1 _ _ pm; replace qm := K1 _ _ qm; replace rm := K1 _ _ rm;  have tok := trivial)
 refine name_world ?_
 intro W hW
 have hBW : Blk W w.heap.size #[.int .i64 9, .int .i64 n, .slice (some ⟨b0, off0, none⟩) ([.mk k0 n0 ks0, .mk k1 n1 ks1, .mk k2 n2 ks2, .mk 8 n8 [.mk km nm ksm]] : List Tm).length c] := by rw [hW]; exact hB.alloc _
 have hZW : Blk W (w.heap.size + 1) #[.int .i64 0, .int .i64 0, .slice none 0 0] := by rw [hW]; exact hZ.alloc _
 have hTW : Blk W w1.heap.size #[.int .i64 km, .int .i64 nm, .slice Am ksm.length cm] := by rw [hW]; exact Blk.new_ _ _ _ rfl
 have gW : Below w.heap.size w W := by rw [hW]; exact g1.alloc g1.size _
 have KW := Keeps.of_below gW
 have sW := gW.size
 have lt1 := hTW.lt
 have ls1 := hZW.lt
 have sD : W.drew.heap.size = W.heap.size := rfl
 have x2 := hBW.at_ (i := 2) rfl
 obtain ⟨m0, m1, m2⟩ := hTW.three
 have kw : Keeps w1 W := by rw [hW]; exact Keeps.alloc _ _
 replace p0 := kw _ _ p0
 replace r0 := kw _ _ r0
 replace p1 := kw _ _ p1
 replace r1 := kw _ _ r1
 replace p2 := kw _ _ p2
 replace r2 := kw _ _ r2
 have q0' := kw _ _ q0
 have q1' := kw _ _ q1
 have q2' := kw _ _ q2
 clear q0 q1 q2 hW
 have e0 := hr0.below gW
 have e1 := hr1.below gW
 have e2 := hr2.below gW
 have em := hrm.below gW
 have lWd : W.drew.heap.size = W.heap.size := rfl
 have hSof := hide (show ∀ w' : World, Below W.heap.size W w' → (fun w' => w'.cell? ⟨w.heap.size, 2, none⟩ = some (.slice (some ⟨b0, off0, none⟩) ([.mk k0 n0 ks0, .mk k1 n1 ks1, .mk k2 n2 ks2, .mk 8 n8 [.mk km nm ksm]] : List Tm).length c) ∧ w'.cell? ⟨b0, off0, none⟩ = some (.int .i64 k0) ∧ w'.cell? ⟨b0, off0 + 1, none⟩ = some (.int .i64 n0) ∧ w'.cell? ⟨b0, off0 + 2, none⟩ = some (.slice A0 ks0.length c0) ∧ w'.cell? ⟨b0, off0 + 3, none⟩ = some (.int .i64 k1) ∧ w'.cell? ⟨b0, off0 + 3 + 1, none⟩ = some (.int .i64 n1) ∧ w'.cell? ⟨b0, off0 + 3 + 2, none⟩ = some (.slice A1 ks1.length c1) ∧ w'.cell? ⟨b0, off0 + 6, none⟩ = some (.int .i64 k2) ∧ w'.cell? ⟨b0, off0 + 6 + 1, none⟩ = some (.int .i64 n2) ∧ w'.cell? ⟨b0, off0 + 6 + 2, none⟩ = some (.slice A2 ks2.length c2) ∧ w'.cell? ⟨w1.heap.size, 0, none⟩ = some (.int .i64 km) ∧ w'.cell? ⟨w1.heap.size, 1, none⟩ = some (.int .i64 nm) ∧ w'.cell? ⟨w1.heap.size, 2, none⟩ = some (.slice Am ksm.length cm)) w' from fun w' hb => ⟨kp_cell hb x2, kp_cell hb p0, kp_cell hb q0', kp_cell hb r0, kp_cell hb p1, kp_cell hb q1', kp_cell hb r1, kp_cell hb p2, kp_cell hb q2', kp_cell hb r2, kp_cell hb m0, kp_cell hb m1, kp_cell hb m2⟩)
 go_cut [4] (fun s4 wx => ∃ (g4 : Nat) (A9 : Option Addr) (c9 : Nat), s4 = .pointer (some ⟨g4, 0, none⟩) ∧ Blk wx g4 #[.int .i64 9, .int .i64 0, .slice A9 4 c9] ∧ RdP (fun b => W.heap.size ≤ b) wx A9 0 [.mk k0 n0 ks0, .mk k1 n1 ks1, .mk k2 n2 ks2, .mk km nm ksm] ∧ Below W.heap.size W wx ∧ W.heap.size ≤ g4)
 case first =>
  go_region_held3 (fun w' => w'.cell? ⟨w.heap.size, 2, none⟩ = some (.slice (some ⟨b0, off0, none⟩) ([.mk k0 n0 ks0, .mk k1 n1 ks1, .mk k2 n2 ks2, .mk 8 n8 [.mk km nm ksm]] : List Tm).length c) ∧ w'.cell? ⟨b0, off0, none⟩ = some (.int .i64 k0) ∧ w'.cell? ⟨b0, off0 + 1, none⟩ = some (.int .i64 n0) ∧ w'.cell? ⟨b0, off0 + 2, none⟩ = some (.slice A0 ks0.length c0) ∧ w'.cell? ⟨b0, off0 + 3, none⟩ = some (.int .i64 k1) ∧ w'.cell? ⟨b0, off0 + 3 + 1, none⟩ = some (.int .i64 n1) ∧ w'.cell? ⟨b0, off0 + 3 + 2, none⟩ = some (.slice A1 ks1.length c1) ∧ w'.cell? ⟨b0, off0 + 6, none⟩ = some (.int .i64 k2) ∧ w'.cell? ⟨b0, off0 + 6 + 1, none⟩ = some (.int .i64 n2) ∧ w'.cell? ⟨b0, off0 + 6 + 2, none⟩ = some (.slice A2 ks2.length c2) ∧ w'.cell? ⟨w1.heap.size, 0, none⟩ = some (.int .i64 km) ∧ w'.cell? ⟨w1.heap.size, 1, none⟩ = some (.int .i64 nm) ∧ w'.cell? ⟨w1.heap.size, 2, none⟩ = some (.slice Am ksm.length cm)) (((refine hSof.out _ ?_); (first | ((with_reducible (repeat (first | exact B7 | exact B6 | exact B5 | exact B4 | exact B3 | exact bw_refl _ | refine bw_alloc ?_ _ | refine bw_drew ?_))) <;> fail) | ((with_reducible refine bw_set3 ?_ ?_ _ _ _); (rotate_left); omega; (with_reducible (repeat (first | exact B7 | exact B6 | exact B5 | exact B4 | exact B3 | exact bw_refl _ | refine bw_alloc ?_ _ | refine bw_drew ?_))))))) (first
   | (go_at_call 46; have _t := tk6; refine name_calls3 ?_; intro wx7 hwx; have Bx : Below W.heap.size W wx7 := (by rw [hwx]; with_reducible (repeat (first | exact B7 | exact B6 | exact B5 | exact B4 | exact B3 | exact bw_refl _ | refine bw_alloc ?_ _ | refine bw_drew ?_))); have f0x : RdP (fun b => wx3.heap.size ≤ b ∧ b < w3.heap.size) wx7 B0 0 ks0 := (by rw [hwx]; with_reducible (repeat (first | exact f0 | refine RdP.alloc ?_ _ | refine RdP.drew ?_))); have f1x : RdP (fun b => wx4.heap.size ≤ b ∧ b < w4.heap.size) wx7 B1 0 ks1 := (by rw [hwx]; with_reducible (repeat (first | exact f1 | refine RdP.alloc ?_ _ | refine RdP.drew ?_))); have f2x : RdP (fun b => wx5.heap.size ≤ b ∧ b < w5.heap.size) wx7 B2 0 ks2 := (by rw [hwx]; with_reducible (repeat (first | exact f2 | refine RdP.alloc ?_ _ | refine RdP.drew ?_))); have fmx : RdP (fun b => wx6.heap.size ≤ b ∧ b < w6.heap.size) wx7 Bm 0 ksm := (by rw [hwx]; with_reducible (repeat (first | exact fm | refine RdP.alloc ?_ _ | refine RdP.drew ?_))); have sx7 := congrArg (fun w : World => w.heap.size) hwx; (try simp [lWd] at sx7); (first | (refine (fun (hQx : Blk wx7 (W.heap.size) #[.int .i64 0, .int .i64 0, .slice none 0 0]) => ?_) ?_; rotate_left; (rw [hwx]; ((repeat (first | with_reducible exact hQ | ((with_reducible refine Blk.new_ _ 25 _ ?_); (first | rfl | (simp [lWd] <;> fail))) | (with_reducible refine Blk.drew ?_) | (with_reducible refine Blk.alloc ?_ _))) <;> fail))) | (refine (fun (hQx : Blk wx7 (w3.heap.size) #[.int .i64 0, .int .i64 0, .slice none 0 0]) => ?_) ?_; rotate_left; (rw [hwx]; ((repeat (first | with_reducible exact hQ | ((with_reducible refine Blk.new_ _ 25 _ ?_); (first | rfl | (simp [lWd] <;> fail))) | (with_reducible refine Blk.drew ?_) | (with_reducible refine Blk.alloc ?_ _))) <;> fail))) | (refine (fun (hQx : Blk wx7 (w4.heap.size) #[.int .i64 0, .int .i64 0, .slice none 0 0]) => ?_) ?_; rotate_left; (rw [hwx]; ((repeat (first | with_reducible exact hQ | ((with_reducible refine Blk.new_ _ 25 _ ?_); (first | rfl | (simp [lWd] <;> fail))) | (with_reducible refine Blk.drew ?_) | (with_reducible refine Blk.alloc ?_ _))) <;> fail))) | (refine (fun (hQx : Blk wx7 (w5.heap.size) #[.int .i64 0, .int .i64 0, .slice none 0 0]) => ?_) ?_; rotate_left; (rw [hwx]; ((repeat (first | with_reducible exact hQ | ((with_reducible refine Blk.new_ _ 25 _ ?_); (first | rfl | (simp [lWd] <;> fail))) | (with_reducible refine Blk.drew ?_) | (with_reducible refine Blk.alloc ?_ _))) <;> fail))) | (refine (fun (hQx : Blk wx7 (w6.heap.size) #[.int .i64 0, .int .i64 0, .slice none 0 0]) => ?_) ?_; rotate_left; (rw [hwx]; ((repeat (first | with_reducible exact hQ | ((with_reducible refine Blk.new_ _ 25 _ ?_); (first | rfl | (simp [lWd] <;> fail))) | (with_reducible refine Blk.drew ?_) | (with_reducible refine Blk.alloc ?_ _))) <;> fail))) | (refine (fun (hQx : Blk wx7 (w6.heap.size + 1) #[.int .i64 0, .int .i64 0, .slice none 0 0]) => ?_) ?_; rotate_left; (rw [hwx]; ((repeat (first | with_reducible exact hQ | ((with_reducible refine Blk.new_ _ 25 _ ?_); (first | rfl | (simp [lWd] <;> fail))) | (with_reducible refine Blk.drew ?_) | (with_reducible refine Blk.alloc ?_ _))) <;> fail))) | skip); refine (l1NodeR_any (p := (fun b => (wx3.heap.size ≤ b ∧ b < w3.heap.size) ∨ (wx4.heap.size ≤ b ∧ b < w4.heap.size) ∨ (wx5.heap.size ≤ b ∧ b < w5.heap.size) ∨ (wx6.heap.size ≤ b ∧ b < w6.heap.size))) (us := [.mk k0 n0 ks0, .mk k1 n1 ks1, .mk k2 n2 ks2, .mk km nm ksm]) 9 (rdx_cons3 hl0 (f0x.mono (fun b hb => by omega)) (rdx_cons3 hl1 (f1x.mono (fun b hb => by omega)) (rdx_cons3 hl2 (f2x.mono (fun b hb => by omega)) (rdx_cons3 hlm (fmx.mono (fun b hb => by omega)) rfl)))) (fun b hb => by omega) (by simp) _ 4 (by rw [hwx]; first | exact Blk.new_ _ 25 _ rfl | exact Blk.new_ _ 25 _ (by simp) | exact (Blk.new_ _ 25 _ rfl).alloc _)).mono ?_; clear hwx; rintro e w7 ⟨B9, d9, rfl, hl9, hr9, hb7⟩; have B7 : Below W.heap.size W w7 := Bx.trans (hb7.mono Bx.size); replace hr9 : RdP (fun b => ((wx3.heap.size ≤ b ∧ b < w3.heap.size) ∨ (wx4.heap.size ≤ b ∧ b < w4.heap.size) ∨ (wx5.heap.size ≤ b ∧ b < w5.heap.size) ∨ (wx6.heap.size ≤ b ∧ b < w6.heap.size)) ∨ wx7.heap.size ≤ b) w7 B9 0 [.mk k0 n0 ks0, .mk k1 n1 ks1, .mk k2 n2 ks2, .mk km nm ksm] := hr9; (try clear hQ); (try (have hQ := hQx.keep hb7)); (try clear hQx); (try (obtain ⟨q0, q1, q2⟩ := hQ.three)); (try (have z0 := hQ.frozen 0)); (try (have z1 := hQ.frozen 1)); (try (have z2 := hQ.frozen 2)); (try (have lq := hQ.lt)); have y7 := hb7.size; have v7 := B7.size; clear Bx f0x f1x f2x fmx)
   | (go_at_call 42; have _t := tk5; refine name_calls3 ?_; intro wx6 hwx; have Bx : Below W.heap.size W wx6 := (by rw [hwx]; with_reducible (repeat (first | exact B7 | exact B6 | exact B5 | exact B4 | exact B3 | exact bw_refl _ | refine bw_alloc ?_ _ | refine bw_drew ?_))); have f0x : RdP (fun b => wx3.heap.size ≤ b ∧ b < w3.heap.size) wx6 B0 0 ks0 := (by rw [hwx]; with_reducible (repeat (first | exact f0 | refine RdP.alloc ?_ _ | refine RdP.drew ?_))); have f1x : RdP (fun b => wx4.heap.size ≤ b ∧ b < w4.heap.size) wx6 B1 0 ks1 := (by rw [hwx]; with_reducible (repeat (first | exact f1 | refine RdP.alloc ?_ _ | refine RdP.drew ?_))); have f2x : RdP (fun b => wx5.heap.size ≤ b ∧ b < w5.heap.size) wx6 B2 0 ks2 := (by rw [hwx]; with_reducible (repeat (first | exact f2 | refine RdP.alloc ?_ _ | refine RdP.drew ?_))); have sx6 := congrArg (fun w : World => w.heap.size) hwx; (try simp [lWd] at sx6); (first | (refine (fun (hQx : Blk wx6 (W.heap.size) #[.int .i64 0, .int .i64 0, .slice none 0 0]) => ?_) ?_; rotate_left; (rw [hwx]; ((repeat (first | with_reducible exact hQ | ((with_reducible refine Blk.new_ _ 25 _ ?_); (first | rfl | (simp [lWd] <;> fail))) | (with_reducible refine Blk.drew ?_) | (with_reducible refine Blk.alloc ?_ _))) <;> fail))) | (refine (fun (hQx : Blk wx6 (w3.heap.size) #[.int .i64 0, .int .i64 0, .slice none 0 0]) => ?_) ?_; rotate_left; (rw [hwx]; ((repeat (first | with_reducible exact hQ | ((with_reducible refine Blk.new_ _ 25 _ ?_); (first | rfl | (simp [lWd] <;> fail))) | (with_reducible refine Blk.drew ?_) | (with_reducible refine Blk.alloc ?_ _))) <;> fail))) | (refine (fun (hQx : Blk wx6 (w4.heap.size) #[.int .i64 0, .int .i64 0, .slice none 0 0]) => ?_) ?_; rotate_left; (rw [hwx]; ((repeat (first | with_reducible exact hQ | ((with_reducible refine Blk.new_ _ 25 _ ?_); (first | rfl | (simp [lWd] <;> fail))) | (with_reducible refine Blk.drew ?_) | (with_reducible refine Blk.alloc ?_ _))) <;> fail))) | (refine (fun (hQx : Blk wx6 (w5.heap.size) #[.int .i64 0, .int .i64 0, .slice none 0 0]) => ?_) ?_; rotate_left; (rw [hwx]; ((repeat (first | with_reducible exact hQ | ((with_reducible refine Blk.new_ _ 25 _ ?_); (first | rfl | (simp [lWd] <;> fail))) | (with_reducible refine Blk.drew ?_) | (with_reducible refine Blk.alloc ?_ _))) <;> fail))) | skip); refine (sCopy_any _ km nm ksm Am cm _ (Nat.lt_succ_self _) (by omega) (em.keeps (Keeps.of_below Bx))).mono ?_; clear hwx; rintro e w6 ⟨Bm, dm, rfl, hlm', hfm, hb6⟩; have B6 : Below W.heap.size W w6 := Bx.trans (hb6.mono Bx.size); have fm : RdP (fun b => wx6.heap.size ≤ b ∧ b < w6.heap.size) w6 Bm 0 ksm := Fresh.rdp hfm; replace f0 := f0x.below hb6; clear f0x; replace f1 := f1x.below hb6; clear f1x; replace f2 := f2x.below hb6; clear f2x; (try clear hQ); (try (have hQ := hQx.keep hb6)); (try clear hQx); (try (obtain ⟨q0, q1, q2⟩ := hQ.three)); (try (have z0 := hQ.frozen 0)); (try (have z1 := hQ.frozen 1)); (try (have z2 := hQ.frozen 2)); (try (have lq := hQ.lt)); have y6 := hb6.size; have v6 := B6.size; clear Bx; have tk6 := trivial)
   | (go_at_call 42; have _t := tk4; refine name_calls3 ?_; intro wx5 hwx; have Bx : Below W.heap.size W wx5 := (by rw [hwx]; with_reducible (repeat (first | exact B7 | exact B6 | exact B5 | exact B4 | exact B3 | exact bw_refl _ | refine bw_alloc ?_ _ | refine bw_drew ?_))); have f0x : RdP (fun b => wx3.heap.size ≤ b ∧ b < w3.heap.size) wx5 B0 0 ks0 := (by rw [hwx]; with_reducible (repeat (first | exact f0 | refine RdP.alloc ?_ _ | refine RdP.drew ?_))); have f1x : RdP (fun b => wx4.heap.size ≤ b ∧ b < w4.heap.size) wx5 B1 0 ks1 := (by rw [hwx]; with_reducible (repeat (first | exact f1 | refine RdP.alloc ?_ _ | refine RdP.drew ?_))); have sx5 := congrArg (fun w : World => w.heap.size) hwx; (try simp [lWd] at sx5); (first | (refine (fun (hQx : Blk wx5 (W.heap.size) #[.int .i64 0, .int .i64 0, .slice none 0 0]) => ?_) ?_; rotate_left; (rw [hwx]; ((repeat (first | with_reducible exact hQ | ((with_reducible refine Blk.new_ _ 25 _ ?_); (first | rfl | (simp [lWd] <;> fail))) | (with_reducible refine Blk.drew ?_) | (with_reducible refine Blk.alloc ?_ _))) <;> fail))) | (refine (fun (hQx : Blk wx5 (w3.heap.size) #[.int .i64 0, .int .i64 0, .slice none 0 0]) => ?_) ?_; rotate_left; (rw [hwx]; ((repeat (first | with_reducible exact hQ | ((with_reducible refine Blk.new_ _ 25 _ ?_); (first | rfl | (simp [lWd] <;> fail))) | (with_reducible refine Blk.drew ?_) | (with_reducible refine Blk.alloc ?_ _))) <;> fail))) | (refine (fun (hQx : Blk wx5 (w4.heap.size) #[.int .i64 0, .int .i64 0, .slice none 0 0]) => ?_) ?_; rotate_left; (rw [hwx]; ((repeat (first | with_reducible exact hQ | ((with_reducible refine Blk.new_ _ 25 _ ?_); (first | rfl | (simp [lWd] <;> fail))) | (with_reducible refine Blk.drew ?_) | (with_reducible refine Blk.alloc ?_ _))) <;> fail))) | skip); refine (sCopy_any _ k2 n2 ks2 A2 c2 _ (Nat.lt_succ_self _) (by omega) (e2.keeps (Keeps.of_below Bx))).mono ?_; clear hwx; rintro e w5 ⟨B2, d2, rfl, hl2', hf2, hb5⟩; have B5 : Below W.heap.size W w5 := Bx.trans (hb5.mono Bx.size); have f2 : RdP (fun b => wx5.heap.size ≤ b ∧ b < w5.heap.size) w5 B2 0 ks2 := Fresh.rdp hf2; replace f0 := f0x.below hb5; clear f0x; replace f1 := f1x.below hb5; clear f1x; (try clear hQ); (try (have hQ := hQx.keep hb5)); (try clear hQx); (try (obtain ⟨q0, q1, q2⟩ := hQ.three)); (try (have z0 := hQ.frozen 0)); (try (have z1 := hQ.frozen 1)); (try (have z2 := hQ.frozen 2)); (try (have lq := hQ.lt)); have y5 := hb5.size; have v5 := B5.size; clear Bx; have tk5 := trivial)
   | (go_at_call 42; have _t := tk3; refine name_calls3 ?_; intro wx4 hwx; have Bx : Below W.heap.size W wx4 := (by rw [hwx]; with_reducible (repeat (first | exact B7 | exact B6 | exact B5 | exact B4 | exact B3 | exact bw_refl _ | refine bw_alloc ?_ _ | refine bw_drew ?_))); have f0x : RdP (fun b => wx3.heap.size ≤ b ∧ b < w3.heap.size) wx4 B0 0 ks0 := (by rw [hwx]; with_reducible (repeat (first | exact f0 | refine RdP.alloc ?_ _ | refine RdP.drew ?_))); have sx4 := congrArg (fun w : World => w.heap.size) hwx; (try simp [lWd] at sx4); (first | (refine (fun (hQx : Blk wx4 (W.heap.size) #[.int .i64 0, .int .i64 0, .slice none 0 0]) => ?_) ?_; rotate_left; (rw [hwx]; ((repeat (first | with_reducible exact hQ | ((with_reducible refine Blk.new_ _ 25 _ ?_); (first | rfl | (simp [lWd] <;> fail))) | (with_reducible refine Blk.drew ?_) | (with_reducible refine Blk.alloc ?_ _))) <;> fail))) | (refine (fun (hQx : Blk wx4 (w3.heap.size) #[.int .i64 0, .int .i64 0, .slice none 0 0]) => ?_) ?_; rotate_left; (rw [hwx]; ((repeat (first | with_reducible exact hQ | ((with_reducible refine Blk.new_ _ 25 _ ?_); (first | rfl | (simp [lWd] <;> fail))) | (with_reducible refine Blk.drew ?_) | (with_reducible refine Blk.alloc ?_ _))) <;> fail))) | skip); refine (sCopy_any _ k1 n1 ks1 A1 c1 _ (Nat.lt_succ_self _) (by omega) (e1.keeps (Keeps.of_below Bx))).mono ?_; clear hwx; rintro e w4 ⟨B1, d1, rfl, hl1', hf1, hb4⟩; have B4 : Below W.heap.size W w4 := Bx.trans (hb4.mono Bx.size); have f1 : RdP (fun b => wx4.heap.size ≤ b ∧ b < w4.heap.size) w4 B1 0 ks1 := Fresh.rdp hf1; replace f0 := f0x.below hb4; clear f0x; (try clear hQ); (try (have hQ := hQx.keep hb4)); (try clear hQx); (try (obtain ⟨q0, q1, q2⟩ := hQ.three)); (try (have z0 := hQ.frozen 0)); (try (have z1 := hQ.frozen 1)); (try (have z2 := hQ.frozen 2)); (try (have lq := hQ.lt)); have y4 := hb4.size; have v4 := B4.size; clear Bx; have tk4 := trivial)
   | (go_at_call 42; refine name_calls3 ?_; intro wx3 hwx; have Bx : Below W.heap.size W wx3 := (by rw [hwx]; with_reducible (repeat (first | exact B7 | exact B6 | exact B5 | exact B4 | exact B3 | exact bw_refl _ | refine bw_alloc ?_ _ | refine bw_drew ?_))); have sx3 := congrArg (fun w : World => w.heap.size) hwx; (try simp [lWd] at sx3); (first | (refine (fun (hQx : Blk wx3 (W.heap.size) #[.int .i64 0, .int .i64 0, .slice none 0 0]) => ?_) ?_; rotate_left; (rw [hwx]; ((repeat (first | with_reducible exact hQ | ((with_reducible refine Blk.new_ _ 25 _ ?_); (first | rfl | (simp [lWd] <;> fail))) | (with_reducible refine Blk.drew ?_) | (with_reducible refine Blk.alloc ?_ _))) <;> fail))) | skip); refine (sCopy_any _ k0 n0 ks0 A0 c0 _ (Nat.lt_succ_self _) (by omega) (e0.keeps (Keeps.of_below Bx))).mono ?_; clear hwx; rintro e w3 ⟨B0, d0, rfl, hl0', hf0, hb3⟩; have B3 : Below W.heap.size W w3 := Bx.trans (hb3.mono Bx.size); have f0 : RdP (fun b => wx3.heap.size ≤ b ∧ b < w3.heap.size) w3 B0 0 ks0 := Fresh.rdp hf0; (try clear hQ); (try (have hQ := hQx.keep hb3)); (try clear hQx); (try (obtain ⟨q0, q1, q2⟩ := hQ.three)); (try (have z0 := hQ.frozen 0)); (try (have z1 := hQ.frozen 1)); (try (have z2 := hQ.frozen 2)); (try (have lq := hQ.lt)); have y3 := hb3.size; have v3 := B3.size; clear Bx; have tk3 := trivial))
  all_goals
   go_wp2_with fail
   go_meet
   exact ⟨_, B9, d9, rfl, (by first | exact ((hQ.set_ 0 _).set_ 1 _).set_ 2 _ | exact Blk.new_ _ 25 _ rfl), (by first | exact (hr9.alloc _).mono (fun b hb => by omega) | exact (((hr9.setCell (by simp; omega) _).setCell (by simp; omega) _).setCell (by simp; omega) _).mono (fun b hb => by omega)), (by first | exact bw_alloc B7 _ | exact bw_set3 B7 (by omega) _ _ _), by omega⟩
 case rest =>
  obtain ⟨g4, A9, c9, rfl, hT4, hk9, Bc, lg4⟩ := hcut
  have X2 := rule_of (kp_cell Bc x2)
  have P2 := rule_of (kp_cell Bc p2)
  have Q2 := rule_of (kp_cell Bc q2')
  have R2 := rule_of (kp_cell Bc r2)
  have M0 := rule_of (kp_cell Bc m0)
  have M1 := rule_of (kp_cell Bc m1)
  have M2 := rule_of (kp_cell Bc m2)
  have T0 := hT4.rule (i := 0) rfl
  have T1 := hT4.rule (i := 1) rfl
  have T2 := hT4.rule (i := 2) rfl
  have Z0 := hide hSof
  clear hSof x2 p0 q0' r0 p1 q1' r1 p2 q2' r2 m0 m1 m2 p3 q3 r3 pm qm rm
  go_wp2_with fail
  refine wp_region_firstY (fun w' => Below wc.heap.size wc w') [0, 1, 2, 3, 5, 9] [4, 6, 7, 8, 10, 11] [12] [_, _, _, _, _, _] [_, _, _, _, _, _] [_] (by kernel_rfl) (by kernel_rfl) rfl rfl rfl (fun _ _ d _ _ h => by cases d <;> exact h) (Below.refl _ _).drew ?_
  repeat ((first | ((refine takeY_skip (a' := ?_) ?_ ?_ ?_); (rotate_left); (· (simp [Region.wanted, yielded]; done))) | ((refine takeY_step (v := ?_) (a' := ?_) ?_ ?_ ?_ ?_); (rotate_left 2); (· (simp [Region.wanted, yielded]; done)); (· (intro w' hS'; go_simp; try (with_reducible rfl))))); (· (simp only [List.getElem_toArray, List.getElem_cons_zero, List.getElem_cons_succ, Act.put, List.setIfInBounds_toArray, List.set_cons_zero, List.set_cons_succ]; exact rfl)))
  refine takeY_nil (then_cons ?_)
  go_wp2_with (go_at_call 42; refine (sCopy_any _ k2 n2 ks2 A2 c2 _ (Nat.lt_succ_self _) (by omega) (e2.keeps (Keeps.of_below (bw_drew Bc)))).mono ?_; rintro e u4 ⟨D4, h4, rfl, hl4', hf4, hb4⟩; have C4 : Below W.heap.size W u4 := (bw_drew Bc).trans (hb4.mono (bw_drew Bc).size); have f4 : RdP (fun b => W.heap.size ≤ b) u4 D4 0 ks2 := (Fresh.rdp hf4).mono (fun b hb => Nat.le_trans (bw_drew Bc).size hb.1))
  have G4 : Below wc.heap.size wc u4 := (Below.refl _ _).drew.trans hb4
  have k9 := hk9.drew.below hb4
  refine mid_intro G4 (then_cons ?_)
  go_wp2_with (go_at_call 42; refine (sCopy_any _ km nm ksm Am cm _ (Nat.lt_succ_self _) (by omega) (em.keeps (Keeps.of_below C4))).mono ?_; rintro e u6 ⟨D6, h6, rfl, hl6', hf6, hb6⟩; have C6 : Below W.heap.size W u6 := C4.trans (hb6.mono C4.size); have f6 : RdP (fun b => W.heap.size ≤ b) u6 D6 0 ksm := (Fresh.rdp hf6).mono (fun b hb => Nat.le_trans C4.size hb.1))
  have G6 : Below wc.heap.size wc u6 := G4.trans (hb6.mono G4.size)
  replace k9 := k9.below hb6
  replace f4 := f4.below hb6
  refine mid_intro G6 (then_cons ?_)
  go_wp2_with fail
  refine mid_intro (bw_alloc G6 _) (then_cons ?_)
  go_wp2_with (go_at_call 46; refine (l1NodeR_any (us := [.mk k2 n2 ks2, .mk km nm ksm]) 5 (rdx_cons3 hl2 ((f4.alloc _).lt_) (rdx_cons3 hlm ((f6.alloc _).lt_) rfl)) (fun b hb => hb.2) (by simp) _ 2 (Blk.new_ _ 25 _ rfl)).mono ?_; rintro e u8 ⟨D8, h8, rfl, hl8', hk8, hb8⟩; have C8 : Below W.heap.size W u8 := (bw_alloc C6 _).trans (hb8.mono (bw_alloc C6 _).size); replace hk8 : RdP (fun b => W.heap.size ≤ b) u8 D8 0 [.mk k2 n2 ks2, .mk km nm ksm] := hk8.mono (fun b hb => hb.elim (fun h => h.1) (fun h => Nat.le_trans (bw_alloc C6 _).size h)))
  have G8 : Below wc.heap.size wc u8 := (bw_alloc G6 _).trans (hb8.mono (bw_alloc G6 _).size)
  replace k9 := (k9.alloc _).below hb8
  refine mid_intro G8 (then_cons ?_)
  go_wp2_with fail
  refine mid_intro (bw_alloc G8 _) (then_cons ?_)
  go_wp2_with (go_at_call 46; refine (l1NodeR_any (us := [.mk 5 0 [.mk k2 n2 ks2, .mk km nm ksm], .mk 9 0 [.mk k0 n0 ks0, .mk k1 n1 ks1, .mk k2 n2 ks2, .mk km nm ksm]]) 5 (rdx_cons3 (by simp) ((hk8.alloc _).lt_) (rdx_cons3 (by simp) ((k9.alloc _).lt_) rfl)) (fun b hb => hb.2) (by simp) _ 2 (Blk.new_ _ 25 _ rfl)).mono ?_; rintro e u11 ⟨D11, h11, rfl, hl11', hk11, hb11⟩; have C11 : Below W.heap.size W u11 := (bw_alloc C8 _).trans (hb11.mono (bw_alloc C8 _).size); replace hk11 : RdP (fun b => W.heap.size ≤ b) u11 D11 0 [.mk 5 0 [.mk k2 n2 ks2, .mk km nm ksm], .mk 9 0 [.mk k0 n0 ks0, .mk k1 n1 ks1, .mk k2 n2 ks2, .mk km nm ksm]] := hk11.mono (fun b hb => hb.elim (fun h => h.1) (fun h => Nat.le_trans (bw_alloc C8 _).size h)))
  have G11 : Below wc.heap.size wc u11 := (bw_alloc G8 _).trans (hb11.mono (bw_alloc G8 _).size)
  refine mid_intro G11 (then_nil ?_)
  have hZ11 := hZW.keep C11
  obtain ⟨d0, d1, d2⟩ := hZ11.three
  have e0' := hZ11.frozen 0
  have e1' := hZ11.frozen 1
  have e2' := hZ11.frozen 2
  have s11 := C11.size
  clear X2 P2 Q2 R2 M0 M1 M2 T0 T1 T2
  go_wp2_with fail
  refine bodyPost_ret (v := .agg #[.int .i64 5, .int .i64 0, .slice D11 2 h11]) ?_ rfl ?_
  ·simp [results, Try.results95, go_sem, d0, d1, d2]
  ·refine ⟨5, 0, [.mk 5 0 [.mk k2 n2 ks2, .mk km nm ksm], .mk 9 0 [.mk k0 n0 ks0, .mk k1 n1 ks1, .mk k2 n2 ks2, .mk km nm ksm]], rfl, ⟨D11, h11, rfl, by simp, ?_, ?_⟩, by simp only [sizes, Tm.size]; omega⟩
   ·exact (((hk11.setCell (by simp; omega) _).setCell (by simp; omega) _).setCell (by simp; omega) _).mono (fun b hb => .inr (by omega))
   ·exact (((gW.trans (C11.mono gW.size)).setCell (by simp) _).setCell (by simp) _).setCell (by simp) _
end Go.Proofs.Ytddkehjdjfmhmaa
