/-
 Contracts of the functions that the law reaches, and plain lemmas. No condition.
-/
import Derived.Test.YtddkehjdjfmhmaaK3
import Derived.Test.YtddkehjdjfmhmaaK4
import Derived.Test.YtddkehjdjfmhmaaK5
import Derived.Test.YtddkehjdjfmhmaaK6
import Derived.Test.YtddkehjdjfmhmaaK7
import Derived.Test.YtddkehjdjfmhmaaK9
import Derived.Test.YtddkehjdjfmhmaaK10
namespace Go.Proofs.Ytddkehjdjfmhmaa
set_option linter.unusedSimpArgs false
set_option linter.unusedVariables false
open Go.RowKit
def GotR (p : Nat → Prop) (w : World) (k n : Int) (ks : List Tm) (e : Ending) (w' : World) : Prop :=
 ∃ A c, e = .returned (.agg #[.int .i64 k, .int .i64 n, .slice A ks.length c]) ∧ ks.length ≤ 9223372036854775807 ∧ RdP (fun b => p b ∨ w.heap.size ≤ b) w' A 0 ks ∧ Below w.heap.size w w'
set_option maxHeartbeats 2000000 in
set_option maxRecDepth 100000 in
theorem sWith_any {p : Nat → Prop} (k n : Int) (ks : List Tm) (A : Option Addr) (c : Nat) (i : Nat) (ku nu : Int) (us : List Tm) (U : Option Addr) (cu : Nat) (L : List Tm) (hL : L.length = ks.length) (hi : ∀ (j : Nat) (t : Tm), ks[j]? = some t → L[j]? = some (if j = i then .mk ku nu us else t)) (w : World) (hM : sizes ks ≤ 1000000) (hlu : us.length ≤ 9223372036854775807) (hr : Rd w A 0 ks) (hru : RdP p w U 0 us) (hpw : ∀ b, p b → b < w.heap.size) :
  Calls Try.prog 97 #[.agg #[.int .i64 k, .int .i64 n, .slice A ks.length c], .int .i64 i, .agg #[.int .i64 ku, .int .i64 nu, .slice U us.length cu]] w (GotR p w k n L) := by
 have hlen := length_le_sizes ks
 have hL' := hide hL
 have hi' := hide hi
 clear hi hL
 go_enter Try.func97, Try.ntmps97
 go_wp2_with fail
 go_loopw [8] (fun jv wr => ∃ (j : Nat) (v : Value), j ≤ ks.length ∧ jv = .int .i64 j ∧ PartR p (w.heap.size + 4) wr v (L.take j) ∧ Blk wr (w.heap.size + 1 + 1 + 1) #[.int .i64 k, .int .i64 n, v] ∧ Blk wr (w.heap.size + 1 + 1) #[.int .i64 0, .int .i64 0, .slice none 0 0] ∧ Blk wr (w.heap.size + 1) #[.int .i64 ku, .int .i64 nu, .slice U us.length cu] ∧ Blk wr w.heap.size #[.int .i64 k, .int .i64 n, .slice A ks.length c] ∧ Below w.heap.size w wr)
  (fun jv _ => ks.length - (intOf jv).toNat)
 case atStart => exact ⟨0, _, Nat.zero_le _, rfl, PartR.nil, Blk.new_ _ _ _ (by simp), (Blk.new_ _ _ _ (by simp)).alloc _, ((Blk.new_ _ _ _ (by simp)).alloc _).alloc _, (((Blk.new_ _ _ _ rfl).alloc _).alloc _).alloc _, ((((Below.refl _ _).alloc (by simp) _).alloc (by simp) _).alloc (by simp; omega) _).alloc (by simp; omega) _⟩
 case round =>
  obtain ⟨j, v, hj, rfl, hp, hB3, hB2, hBu, hB1, hb⟩ := hrel
  have c12 := hB1.at_ (i := 2) rfl
  have hz := hB3.lt
  have sr := hb.size
  by_cases hlt : j < ks.length
  ·have hlL : j < L.length := by have := hL'.out; omega
   have htk := hide (List.take_succ_eq_append_getElem hlL)
   have hte := hide (show L[j] = if j = i then .mk ku nu us else ks[j] from by have := hi'.out j ks[j] (List.getElem?_eq_getElem hlt); rw [List.getElem?_eq_getElem hlL] at this; injection this)
   have htl : (L.take j).length = j := by rw [List.length_take]; omega
   by_cases hji : j = i
   ·have q0 : ((j : Int) == (i : Int)) = true := by rw [hji]; simp
    have hte2 := hide (hte.out.trans (if_pos hji))
    clear hji
    obtain ⟨u0, u1, u2⟩ := hBu.three
    have c32 := hB3.at_ (i := 2) rfl
    have z3 := hB3.frozen 2
    go_wp2_with (at_builtin; refine wpList_append_rd (lo := p) (B := w.heap.size + 4) (m := j) (k := ku) (n := nu) (ks := us) (A := U) (c := cu) (q := p) hp (by omega) (hru.below hb) (fun b hb => ⟨.inl hb, by have := hpw b hb; omega, fun e => by obtain ⟨xs, h1, _⟩ := hp; have := (h1.lt b e).1; have := hpw b hb; omega⟩) hlu htl (by omega) rfl _ _ rfl rfl (by show Value.slice (some ⟨wr.heap.size, 0, none⟩) 1 1 = _; simp) ?_; intro A2 c2 w2 hp2 hb2 hg2; have q3 : Blk w2 (w.heap.size + 1 + 1 + 1) #[.int .i64 k, .int .i64 n, v] := hB3.below hb2 (by omega); have q2 : Blk w2 (w.heap.size + 1 + 1) #[.int .i64 0, .int .i64 0, .slice none 0 0] := hB2.below hb2 (by omega); have qu : Blk w2 (w.heap.size + 1) #[.int .i64 ku, .int .i64 nu, .slice U us.length cu] := hBu.below hb2 (by omega); have q1' : Blk w2 w.heap.size #[.int .i64 k, .int .i64 n, .slice A ks.length c] := hB1.below hb2 (by omega); have c3 : w2.cell? ⟨w.heap.size + 1 + 1 + 1, 2, none⟩ = some v := q3.at_ rfl; clear z3; have z3 := q3.frozen 2; have hbf : Below w.heap.size w w2 := hb.trans (hb2.mono (by omega)))
    go_roundw
    case rel => exact ⟨j + 1, _, by omega, by go_num, by rw [htk.out, hte2.out]; exact hp2.setCell ⟨fun h => by have h1 := hpw _ h; simp at h1; omega, by simp⟩ _, q3.set_ 2 _, q2.far (by simp) _, qu.far (by simp) _, q1'.far (by simp; omega) _, hbf.setCell (by simp; omega) _⟩
    case measure => simp [intOf]; omega
   ·have q0 : ((j : Int) == (i : Int)) = false := beq_eq_false_iff_ne.2 (by omega)
    have hte2 := hide (hte.out.trans (if_neg hji))
    clear hji
    obtain ⟨b, off, k', n', ks', A', c', rfl, hkj, hc1, hc2, hc3, hl', hr'⟩ := (hr.below hb).at_ hlt
    have hsz := sizes_le (List.getElem_mem hlt)
    rw [hkj] at hsz
    simp only [Tm.size] at hsz
    have H3 := hide hkj
    clear hkj
    go_wp2_with fail
    have x2 := hB3.rule (i := 2) rfl
    have b2 := hB1.rule (i := 2) rfl
    have y0 := rule_of hc1
    have y1 := rule_of hc2
    have y2 := rule_of hc3
    refine wp_region_firstY (fun w' => Below wr.heap.size wr w') [0, 1, 2, 3, 4, 5, 6] [7, 8] [9, 10, 11] [_, _, _, _, _, _, _] [_, _] [_, _, _] (by kernel_rfl) (by kernel_rfl) rfl rfl rfl (fun _ _ d _ _ h => by cases d <;> exact h) (Below.refl _ _).drew ?_
    repeat ((first | ((refine takeY_skip (a' := ?_) ?_ ?_ ?_); (rotate_left); (· (simp [Region.wanted, yielded]; done))) | ((refine takeY_step (v := ?_) (a' := ?_) ?_ ?_ ?_ ?_); (rotate_left 2); (· (simp [Region.wanted, yielded]; done)); (· (intro w' hS'; go_simp; try (with_reducible rfl))))); (· (simp only [List.getElem_toArray, List.getElem_cons_zero, List.getElem_cons_succ, Act.put, List.setIfInBounds_toArray, List.set_cons_zero, List.set_cons_succ]; exact rfl)))
    refine takeY_nil (then_cons ?_)
    go_wp2_with (go_at_call 42; refine (sCopy_any _ k' n' ks' A' c' _ (Nat.lt_succ_self _) (by omega) hr'.drew).mono ?_; rintro e w1 ⟨A1, c1, rfl, hl1, hf1, hb1⟩)
    have hx1 : Below wr.heap.size wr w1 := (Below.refl _ _).drew.trans hb1
    have hpx := hp.below hx1
    refine mid_intro hx1 (then_cons ?_)
    go_wp2_with fail
    refine mid_intro (hx1.alloc hx1.size _) (then_nil ?_)
    have hf1 : Fresh wr.heap.size w1 A1 ks' := hf1
    refine wpList_append_rd (lo := p) (B := w.heap.size + 4) (m := j) (q := fun b => wr.heap.size ≤ b ∧ b < w1.heap.size) hpx (by have := hx1.size; omega) (Fresh.rdp hf1) (fun b hb => ⟨.inr (by omega), hb.2, fun e => by obtain ⟨xs, h1, _⟩ := hp; have := (h1.lt b e).2; omega⟩) hl1 htl (by omega) rfl (.tmp 31) (.tmp 38) rfl rfl rfl ?_
    intro A2 c2 w2 hp2 hb2 hg2
    have q3 : Blk w2 (w.heap.size + 1 + 1 + 1) #[.int .i64 k, .int .i64 n, v] := (hB3.below hx1 (by omega)).below hb2 (by omega)
    have q2 : Blk w2 (w.heap.size + 1 + 1) #[.int .i64 0, .int .i64 0, .slice none 0 0] := (hB2.below hx1 (by omega)).below hb2 (by omega)
    have qu : Blk w2 (w.heap.size + 1) #[.int .i64 ku, .int .i64 nu, .slice U us.length cu] := (hBu.below hx1 (by omega)).below hb2 (by omega)
    have q1' : Blk w2 w.heap.size #[.int .i64 k, .int .i64 n, .slice (some ⟨b, off, none⟩) ks.length c] := (hB1.below hx1 (by omega)).below hb2 (by omega)
    have c3 : w2.cell? ⟨w.heap.size + 1 + 1 + 1, 2, none⟩ = some v := q3.at_ rfl
    have z3 := q3.frozen 2
    have hbf : Below w.heap.size w w2 := (hb.trans (hx1.mono (by omega))).trans (hb2.mono (by omega))
    clear x2 y0 y1 y2 b2
    go_wp2_with fail
    go_roundw
    case rel => exact ⟨j + 1, _, by omega, by go_num, by rw [htk.out, hte2.out, H3.out]; exact hp2.setCell ⟨fun h => by have h1 := hpw _ h; simp at h1; omega, by simp⟩ _, q3.set_ 2 _, q2.far (by simp) _, qu.far (by simp) _, q1'.far (by simp; omega) _, hbf.setCell (by simp; omega) _⟩
    case measure => simp [intOf]; omega
  ·have hjl : j = L.length := by have := hL'.out; omega
   have hjk : j = ks.length := by omega
   rw [hjl, List.take_length] at hp
   subst hjk
   obtain ⟨Ar, cr, rfl, hfr⟩ := hp.rd
   obtain ⟨c0, c1, c2⟩ := hB3.three
   obtain ⟨d0, d1, d2⟩ := hB2.three
   have e0 := hB2.frozen 0
   have e1 := hB2.frozen 1
   have e2 := hB2.frozen 2
   clear hjl
   have hzz : ¬ (p (w.heap.size + 1 + 1) ∨ w.heap.size + 4 ≤ w.heap.size + 1 + 1) := fun h => h.elim (fun h => by have := hpw _ h; omega) (fun h => by omega)
   go_wp2_with fail
   refine bodyPost_ret (v := .agg #[.int .i64 k, .int .i64 n, .slice Ar L.length cr]) (by simp [results, Try.results97, go_sem, d0, d1, d2]) rfl ⟨Ar, cr, rfl, by have := hL'.out; omega, ?_, ?_⟩
   ·exact (((hfr.setCell hzz _).setCell hzz _).setCell hzz _).mono (fun b hb => hb.imp id (fun h => by omega))
   ·exact ((hb.setCell (by simp; omega) _).setCell (by simp; omega) _).setCell (by simp; omega) _
open Go.RowKit
def GotS (v : Tm) (m : Nat) (w : World) (e : Ending) (w' : World) : Prop := ∃ k n ks, v = .mk k n ks ∧ GotR (fun _ => False) w k n ks e w' ∧ sizes ks + 1 ≤ m
set_option maxHeartbeats 2000000 in
set_option maxRecDepth 100000 in
theorem sContract_zero (n : Int) (t0 t1 t2 t3 : Tm) (A : Option Addr) (c : Nat) (w : World) (hM : sizes [t0, t1, t2, t3] ≤ 400) (hrd : rdx 9 [t0, t1, t2, t3] = 2) (hr : Rd w A 0 [t0, t1, t2, t3]) :
  Calls Try.prog 95 #[.agg #[.int .i64 9, .int .i64 n, .slice A ([t0, t1, t2, t3] : List Tm).length c]] w (GotS t1 190000 w) := by
 have hrd := hide hrd
 obtain ⟨b, off, k1, n1, ks1, A1, c1, hA, hk1, p1, q1, r1, hl1, hr1⟩ := hr.at_ (j := 1) (by simp)
 have hk1 : t1 = .mk k1 n1 ks1 := hk1
 subst hk1 hA
 simp only [Nat.reduceMul, Nat.zero_mul, Nat.add_zero] at p1 q1 r1
 have hsz : sizes ks1 ≤ 400 := by simp only [sizes, Tm.size] at hM; omega
 go_enter Try.func95, Try.ntmps95
 go_wp2_with (first
  | (go_at_call 42; have _t := tok; refine (sCopy_any _ k1 n1 ks1 A1 c1 _ (Nat.lt_succ_self _) (by omega) (hr1.keeps K1)).mono ?_; rintro e w2 ⟨A2, c2, rfl, hl2, hf2, hb2⟩; replace hZ := hZ.keep hb2; obtain ⟨d0, d1, d2⟩ := hZ.three; have e0 := hZ.frozen 0; have e1 := hZ.frozen 1; have e2 := hZ.frozen 2; replace g1 := g1.trans (hb2.mono g1.size))
  | (go_at_call 64; refine (sRedex_any 9 n [t0, .mk k1 n1 ks1, t2, t3] _ c _ (by simp) rfl ((hr.alloc _).alloc _)).mono ?_; rw [hrd.out]; rintro e w1 ⟨rfl, hb1⟩; have hB : Blk w1 w.heap.size #[.int .i64 9, .int .i64 n, .slice (some ⟨b, off, none⟩) ([t0, .mk k1 n1 ks1, t2, t3] : List Tm).length c] := ((Blk.new_ w 25 _ rfl).alloc _).keep hb1; have hZ : Blk w1 (w.heap.size + 1) #[.int .i64 0, .int .i64 0, .slice none 0 0] := (Blk.new_ _ 25 _ (by simp)).keep hb1; have g1 : Below w.heap.size w w1 := (((Below.refl _ _).alloc (Nat.le_refl _) _).alloc (by simp) _).trans (hb1.mono (by simp; omega)); have s1 := hZ.lt; have K1 := Keeps.of_below g1; have x2 := hB.at_ (i := 2) rfl; have tok := trivial; replace p1 := K1 _ _ p1; replace q1 := K1 _ _ q1; replace r1 := K1 _ _ r1))
 refine bodyPost_ret (v := .agg #[.int .i64 k1, .int .i64 n1, .slice A2 ks1.length c2]) (by simp [results, Try.results95, go_sem, d0, d1, d2]) rfl ⟨k1, n1, ks1, rfl, ⟨A2, c2, rfl, hl2, ?_, ?_⟩, by omega⟩
 ·exact (Fresh.rdp (((hf2.setCell (by simp; omega) _).setCell (by simp; omega) _).setCell (by simp; omega) _)).mono (fun b hb => .inr (by have h0 : w1.drew.heap.size = w1.heap.size := rfl; have := hb.1; omega))
 ·exact ((g1.setCell (by simp) _).setCell (by simp) _).setCell (by simp) _
set_option maxHeartbeats 2000000 in
set_option maxRecDepth 100000 in
theorem sContract_move (n : Int) (t0 t1 t2 : Tm) (A : Option Addr) (c : Nat) (w : World) (hM : sizes [t0, t1, t2] ≤ 400) (hrd : rdx 12 [t0, t1, t2] = 4) (hr : Rd w A 0 [t0, t1, t2]) :
  Calls Try.prog 95 #[.agg #[.int .i64 12, .int .i64 n, .slice A ([t0, t1, t2] : List Tm).length c]] w (GotS t2 190000 w) := by
 have hrd := hide hrd
 obtain ⟨b, off, k1, n1, ks1, A1, c1, hA, hk1, p1, q1, r1, hl1, hr1⟩ := hr.at_ (j := 2) (by simp)
 have hk1 : t2 = .mk k1 n1 ks1 := hk1
 subst hk1 hA
 simp only [Nat.reduceMul, Nat.zero_mul, Nat.add_zero] at p1 q1 r1
 have hsz : sizes ks1 ≤ 400 := by simp only [sizes, Tm.size] at hM; omega
 go_enter Try.func95, Try.ntmps95
 go_wp2_with (first
  | (go_at_call 42; have _t := tok; refine (sCopy_any _ k1 n1 ks1 A1 c1 _ (Nat.lt_succ_self _) (by omega) (hr1.keeps K1)).mono ?_; rintro e w2 ⟨A2, c2, rfl, hl2, hf2, hb2⟩; replace hZ := hZ.keep hb2; obtain ⟨d0, d1, d2⟩ := hZ.three; have e0 := hZ.frozen 0; have e1 := hZ.frozen 1; have e2 := hZ.frozen 2; replace g1 := g1.trans (hb2.mono g1.size))
  | (go_at_call 64; refine (sRedex_any 12 n [t0, t1, .mk k1 n1 ks1] _ c _ (by simp) rfl ((hr.alloc _).alloc _)).mono ?_; rw [hrd.out]; rintro e w1 ⟨rfl, hb1⟩; have hB : Blk w1 w.heap.size #[.int .i64 12, .int .i64 n, .slice (some ⟨b, off, none⟩) ([t0, t1, .mk k1 n1 ks1] : List Tm).length c] := ((Blk.new_ w 25 _ rfl).alloc _).keep hb1; have hZ : Blk w1 (w.heap.size + 1) #[.int .i64 0, .int .i64 0, .slice none 0 0] := (Blk.new_ _ 25 _ (by simp)).keep hb1; have g1 : Below w.heap.size w w1 := (((Below.refl _ _).alloc (Nat.le_refl _) _).alloc (by simp) _).trans (hb1.mono (by simp; omega)); have s1 := hZ.lt; have K1 := Keeps.of_below g1; have x2 := hB.at_ (i := 2) rfl; have tok := trivial; replace p1 := K1 _ _ p1; replace q1 := K1 _ _ q1; replace r1 := K1 _ _ r1))
 refine bodyPost_ret (v := .agg #[.int .i64 k1, .int .i64 n1, .slice A2 ks1.length c2]) (by simp [results, Try.results95, go_sem, d0, d1, d2]) rfl ⟨k1, n1, ks1, rfl, ⟨A2, c2, rfl, hl2, ?_, ?_⟩, by omega⟩
 ·exact (Fresh.rdp (((hf2.setCell (by simp; omega) _).setCell (by simp; omega) _).setCell (by simp; omega) _)).mono (fun b hb => .inr (by have h0 : w1.drew.heap.size = w1.heap.size := rfl; have := hb.1; omega))
 ·exact ((g1.setCell (by simp) _).setCell (by simp) _).setCell (by simp) _
set_option maxHeartbeats 2000000 in
set_option maxRecDepth 100000 in
theorem sContract_fst (n n0 : Int) (s0 s1 s2 : Tm) (A : Option Addr) (c : Nat) (w : World) (hM : sizes [.mk 14 n0 [s0, s1, s2]] ≤ 400) (hr : Rd w A 0 [.mk 14 n0 [s0, s1, s2]]) :
  Calls Try.prog 95 #[.agg #[.int .i64 15, .int .i64 n, .slice A ([.mk 14 n0 [s0, s1, s2]] : List Tm).length c]] w (GotS s1 190000 w) := by
 have hrd := hide (show rdx 15 [.mk 14 n0 [s0, s1, s2]] = 5 from rfl)
 obtain ⟨b, off, k0', n0', ks0, A0, c0, hA, hk0, p0, q0, r0, hl0, hr0⟩ := hr.at_ (j := 0) (by simp)
 injection hk0 with h1 h2 h3
 subst h1 h2 h3
 obtain ⟨b1, off1, k1, n1, ks1, A1, c1, hA0, hk1, p1, q1, r1, hl1, hr1⟩ := hr0.at_ (j := 1) (by simp)
 have hk1 : s1 = .mk k1 n1 ks1 := hk1
 subst hk1 hA hA0
 simp only [Nat.reduceMul, Nat.zero_mul, Nat.add_zero] at p0 q0 r0 p1 q1 r1
 have hsz : sizes ks1 ≤ 400 := by simp only [sizes, Tm.size] at hM; omega
 go_enter Try.func95, Try.ntmps95
 go_wp2_with (first
  | (go_at_call 42; have _t := tok; refine (sCopy_any _ k1 n1 ks1 A1 c1 _ (Nat.lt_succ_self _) (by omega) (hr1.keeps K1)).mono ?_; rintro e w2 ⟨A2, c2, rfl, hl2, hf2, hb2⟩; replace hZ := hZ.keep hb2; obtain ⟨d0, d1, d2⟩ := hZ.three; have e0 := hZ.frozen 0; have e1 := hZ.frozen 1; have e2 := hZ.frozen 2; replace g1 := g1.trans (hb2.mono g1.size))
  | (go_at_call 64; refine (sRedex_any 15 n [.mk 14 n0 [s0, .mk k1 n1 ks1, s2]] _ c _ (by simp) rfl ((hr.alloc _).alloc _)).mono ?_; rw [hrd.out]; rintro e w1 ⟨rfl, hb1⟩; have hB : Blk w1 w.heap.size #[.int .i64 15, .int .i64 n, .slice (some ⟨b, off, none⟩) ([.mk 14 n0 [s0, .mk k1 n1 ks1, s2]] : List Tm).length c] := ((Blk.new_ w 25 _ rfl).alloc _).keep hb1; have hZ : Blk w1 (w.heap.size + 1) #[.int .i64 0, .int .i64 0, .slice none 0 0] := (Blk.new_ _ 25 _ (by simp)).keep hb1; have g1 : Below w.heap.size w w1 := (((Below.refl _ _).alloc (Nat.le_refl _) _).alloc (by simp) _).trans (hb1.mono (by simp; omega)); have s1 := hZ.lt; have K1 := Keeps.of_below g1; have x2 := hB.at_ (i := 2) rfl; have tok := trivial; replace p0 := K1 _ _ p0; replace q0 := K1 _ _ q0; replace r0 := K1 _ _ r0; replace p1 := K1 _ _ p1; replace q1 := K1 _ _ q1; replace r1 := K1 _ _ r1))
 refine bodyPost_ret (v := .agg #[.int .i64 k1, .int .i64 n1, .slice A2 ks1.length c2]) (by simp [results, Try.results95, go_sem, d0, d1, d2]) rfl ⟨k1, n1, ks1, rfl, ⟨A2, c2, rfl, hl2, ?_, ?_⟩, by omega⟩
 ·exact (Fresh.rdp (((hf2.setCell (by simp; omega) _).setCell (by simp; omega) _).setCell (by simp; omega) _)).mono (fun b hb => .inr (by have h0 : w1.drew.heap.size = w1.heap.size := rfl; have := hb.1; omega))
 ·exact ((g1.setCell (by simp) _).setCell (by simp) _).setCell (by simp) _
set_option maxHeartbeats 2000000 in
set_option maxRecDepth 100000 in
theorem sContract_snd (n n0 : Int) (s0 s1 s2 : Tm) (A : Option Addr) (c : Nat) (w : World) (hM : sizes [.mk 14 n0 [s0, s1, s2]] ≤ 400) (hr : Rd w A 0 [.mk 14 n0 [s0, s1, s2]]) :
  Calls Try.prog 95 #[.agg #[.int .i64 16, .int .i64 n, .slice A ([.mk 14 n0 [s0, s1, s2]] : List Tm).length c]] w (GotS s2 190000 w) := by
 have hrd := hide (show rdx 16 [.mk 14 n0 [s0, s1, s2]] = 6 from rfl)
 obtain ⟨b, off, k0', n0', ks0, A0, c0, hA, hk0, p0, q0, r0, hl0, hr0⟩ := hr.at_ (j := 0) (by simp)
 injection hk0 with h1 h2 h3
 subst h1 h2 h3
 obtain ⟨b1, off1, k1, n1, ks1, A1, c1, hA0, hk1, p1, q1, r1, hl1, hr1⟩ := hr0.at_ (j := 2) (by simp)
 have hk1 : s2 = .mk k1 n1 ks1 := hk1
 subst hk1 hA hA0
 simp only [Nat.reduceMul, Nat.zero_mul, Nat.add_zero] at p0 q0 r0 p1 q1 r1
 have hsz : sizes ks1 ≤ 400 := by simp only [sizes, Tm.size] at hM; omega
 go_enter Try.func95, Try.ntmps95
 go_wp2_with (first
  | (go_at_call 42; have _t := tok; refine (sCopy_any _ k1 n1 ks1 A1 c1 _ (Nat.lt_succ_self _) (by omega) (hr1.keeps K1)).mono ?_; rintro e w2 ⟨A2, c2, rfl, hl2, hf2, hb2⟩; replace hZ := hZ.keep hb2; obtain ⟨d0, d1, d2⟩ := hZ.three; have e0 := hZ.frozen 0; have e1 := hZ.frozen 1; have e2 := hZ.frozen 2; replace g1 := g1.trans (hb2.mono g1.size))
  | (go_at_call 64; refine (sRedex_any 16 n [.mk 14 n0 [s0, s1, .mk k1 n1 ks1]] _ c _ (by simp) rfl ((hr.alloc _).alloc _)).mono ?_; rw [hrd.out]; rintro e w1 ⟨rfl, hb1⟩; have hB : Blk w1 w.heap.size #[.int .i64 16, .int .i64 n, .slice (some ⟨b, off, none⟩) ([.mk 14 n0 [s0, s1, .mk k1 n1 ks1]] : List Tm).length c] := ((Blk.new_ w 25 _ rfl).alloc _).keep hb1; have hZ : Blk w1 (w.heap.size + 1) #[.int .i64 0, .int .i64 0, .slice none 0 0] := (Blk.new_ _ 25 _ (by simp)).keep hb1; have g1 : Below w.heap.size w w1 := (((Below.refl _ _).alloc (Nat.le_refl _) _).alloc (by simp) _).trans (hb1.mono (by simp; omega)); have s1 := hZ.lt; have K1 := Keeps.of_below g1; have x2 := hB.at_ (i := 2) rfl; have tok := trivial; replace p0 := K1 _ _ p0; replace q0 := K1 _ _ q0; replace r0 := K1 _ _ r0; replace p1 := K1 _ _ p1; replace q1 := K1 _ _ q1; replace r1 := K1 _ _ r1))
 refine bodyPost_ret (v := .agg #[.int .i64 k1, .int .i64 n1, .slice A2 ks1.length c2]) (by simp [results, Try.results95, go_sem, d0, d1, d2]) rfl ⟨k1, n1, ks1, rfl, ⟨A2, c2, rfl, hl2, ?_, ?_⟩, by omega⟩
 ·exact (Fresh.rdp (((hf2.setCell (by simp; omega) _).setCell (by simp; omega) _).setCell (by simp; omega) _)).mono (fun b hb => .inr (by have h0 : w1.drew.heap.size = w1.heap.size := rfl; have := hb.1; omega))
 ·exact ((g1.setCell (by simp) _).setCell (by simp) _).setCell (by simp) _
set_option maxHeartbeats 4000000 in
set_option maxRecDepth 100000 in
theorem sContract_apply (n n0 : Int) (s0 t : Tm) (k1 n1 ku nu : Int) (us : List Tm) (ks1 : List Tm) (A : Option Addr) (c : Nat) (w : World) (ht : t = .mk k1 n1 ks1) (hM : sizes [.mk 4 n0 [s0, t], .mk ku nu us] ≤ 400) (hs : shape 30 t = true) (hsu : shape 30 (.mk ku nu us) = true) (hr : Rd w A 0 [.mk 4 n0 [s0, t], .mk ku nu us]) :
  Calls Try.prog 95 #[.agg #[.int .i64 5, .int .i64 n, .slice A ([.mk 4 n0 [s0, t], .mk ku nu us] : List Tm).length c]] w (GotS (sbS (.mk ku nu us) 0 0 t) 190000 w) := by
 subst ht
 have hrd := hide (show rdx 5 [.mk 4 n0 [s0, .mk k1 n1 ks1], .mk ku nu us] = 1 from rfl)
 obtain ⟨b, off, k0', n0', ks0, A0, c0, hA, hk0, p0, q0, r0, hl0, hr0⟩ := hr.at_ (j := 0) (by simp)
 injection hk0 with h1 h2 h3
 subst h1 h2 h3
 obtain ⟨b1, off1, k1', n1', ks1', A1, c1, hA0, hk1, p1, q1, r1, hl1, hr1⟩ := hr0.at_ (j := 1) (by simp)
 injection hk1 with h1 h2 h3
 subst h1 h2 h3
 obtain ⟨b', off', ku', nu', us', U, cu, hA', hk2, p2, q2, r2, hl2, hr2⟩ := hr.at_ (j := 1) (by simp)
 injection hk2 with h1 h2 h3
 subst h1 h2 h3
 subst hA hA0
 injection hA' with hA'
 injection hA' with h1 h2
 subst h1 h2
 simp only [Nat.reduceMul, Nat.zero_mul, Nat.add_zero] at p0 q0 r0 p1 q1 r1 p2 q2 r2
 have hsz : sizes ks1 ≤ 400 ∧ sizes us ≤ 400 ∧ (Tm.mk k1 n1 ks1).size + (Tm.mk ku nu us).size ≤ 400 := by simp only [sizes, Tm.size] at hM ⊢; omega
 obtain ⟨k2, n2, ks2, h2⟩ := tm_eta (sbS (.mk ku nu us) 0 0 (.mk k1 n1 ks1))
 have hbig : sizes ks2 + 1 ≤ 190000 := by
  have h3 := sbS_size (.mk ku nu us) (m := 400) (by omega) (by omega) (.mk k1 n1 ks1) 0 0
  rw [h2, Tm.size] at h3
  have : (Tm.mk k1 n1 ks1).size * 400 ≤ 400 * 400 := Nat.mul_le_mul_right _ (by omega)
  omega
 have h2' := hide h2
 have hs' := hide hs
 have hsu' := hide hsu
 clear h2 hs hsu
 go_enter Try.func95, Try.ntmps95
 go_wp2_with (first
  | (go_at_call 64; refine (sRedex_any 5 n [.mk 4 n0 [s0, .mk k1 n1 ks1], .mk ku nu us] _ c _ (by simp) rfl ((hr.alloc _).alloc _)).mono ?_; rw [hrd.out]; rintro e w1 ⟨rfl, hb1⟩; have hB : Blk w1 w.heap.size #[.int .i64 5, .int .i64 n, .slice (some ⟨b, off, none⟩) ([.mk 4 n0 [s0, .mk k1 n1 ks1], .mk ku nu us] : List Tm).length c] := ((Blk.new_ w 25 _ rfl).alloc _).keep hb1; have hZ : Blk w1 (w.heap.size + 1) #[.int .i64 0, .int .i64 0, .slice none 0 0] := (Blk.new_ _ 25 _ (by simp)).keep hb1; have g1 : Below w.heap.size w w1 := (((Below.refl _ _).alloc (Nat.le_refl _) _).alloc (by simp) _).trans (hb1.mono (by simp; omega)); have s1 := hZ.lt; have K1 := Keeps.of_below g1; have x2 := hB.at_ (i := 2) rfl; have tok := trivial; replace p0 := K1 _ _ p0; replace q0 := K1 _ _ q0; replace r0 := K1 _ _ r0; replace p1 := K1 _ _ p1; replace q1 := K1 _ _ q1; replace r1 := K1 _ _ r1; replace p2 := K1 _ _ p2; replace q2 := K1 _ _ q2; replace r2 := K1 _ _ r2; skip))
 have y2 := rule_of x2
 have y3 := rule_of r0
 have y4 := rule_of p1
 have y5 := rule_of q1
 have y6 := rule_of r1
 have y7 := rule_of p2
 have y8 := rule_of q2
 have y9 := rule_of r2
 refine wp_region_firstY (fun w' => Below w1.heap.size w1 w') [0, 1, 2, 3, 4, 5, 6, 7, 8, 9, 10] [11] [12] [_, _, _, _, _, _, _, _, _, _, _] [_] [_] (by kernel_rfl) (by kernel_rfl) rfl rfl rfl (fun _ _ d _ _ h => by cases d <;> exact h) (Below.refl _ _).drew ?_
 repeat ((first | ((refine takeY_skip (a' := ?_) ?_ ?_ ?_); (rotate_left); (· (simp [Region.wanted, yielded]; done))) | ((refine takeY_step (v := ?_) (a' := ?_) ?_ ?_ ?_ ?_); (rotate_left 2); (· (simp [Region.wanted, yielded]; done)); (· (intro w' hS'; go_simp; try (with_reducible rfl))))); (· (simp only [List.getElem_toArray, List.getElem_cons_zero, List.getElem_cons_succ, Act.put, List.setIfInBounds_toArray, List.set_cons_zero, List.set_cons_succ]; exact rfl)))
 refine takeY_nil (then_cons ?_)
 go_wp2_with (go_at_call 87; refine (sSubst_any ku nu us hsu'.out (by omega) _ k1 n1 ks1 _ _ _ _ 0 0 30 _ (Nat.lt_succ_self _) (by omega) hs'.out (by omega) (by omega) (by omega) (by omega) (hr1.keeps K1).drew (hr2.keeps K1).drew k2 n2 ks2 h2'.out).mono ?_; rintro e w2 ⟨A2, c2, rfl, hl2, hf2, hb2⟩)
 have hx1 : Below w1.heap.size w1 w2 := (Below.refl _ _).drew.trans hb2
 refine mid_intro hx1 (then_nil ?_)
 replace hZ := hZ.keep hx1
 obtain ⟨d0, d1, d2⟩ := hZ.three
 have e0 := hZ.frozen 0
 have e1 := hZ.frozen 1
 have e2 := hZ.frozen 2
 replace g1 := g1.trans (hx1.mono g1.size)
 clear y2 y3 y4 y5 y6 y7 y8 y9
 go_wp2_with fail
 refine bodyPost_ret (v := .agg #[.int .i64 k2, .int .i64 n2, .slice A2 ks2.length c2]) (by simp [results, Try.results95, go_sem, d0, d1, d2]) rfl ⟨k2, n2, ks2, h2'.out, ⟨A2, c2, rfl, hl2, ?_, ?_⟩, hbig⟩
 ·exact (Fresh.rdp (((hf2.setCell (by simp; omega) _).setCell (by simp; omega) _).setCell (by simp; omega) _)).mono (fun b hb => .inr (by have h0 : w1.drew.heap.size = w1.heap.size := rfl; have := hb.1; omega))
 ·exact ((g1.setCell (by simp) _).setCell (by simp) _).setCell (by simp) _
open Go.RowKit
def Contract3 : Prop := ∀ (n n8 : Int) (t0 t1 t2 m : Tm) (A : Option Addr) (c : Nat) (w : World), sizes [t0, t1, t2, .mk 8 n8 [m]] ≤ 400 → Rd w A 0 [t0, t1, t2, .mk 8 n8 [m]] →
 Calls Try.prog 95 #[.agg #[.int .i64 9, .int .i64 n, .slice A ([t0, t1, t2, .mk 8 n8 [m]] : List Tm).length c]] w (GotS (.mk 5 0 [.mk 5 0 [t2, m], .mk 9 0 [t0, t1, t2, m]]) 190000 w)
theorem len1 {ks : List Tm} (h : ks.length = 1) : ∃ a, ks = [a] := List.length_eq_one_iff.1 h
theorem len2 {ks : List Tm} (h : ks.length = 2) : ∃ a b, ks = [a, b] := by
 match ks, h with
 | [a, b], _ => exact ⟨a, b, rfl⟩
theorem len3 {ks : List Tm} (h : ks.length = 3) : ∃ a b c, ks = [a, b, c] := by
 match ks, h with
 | [a, b, c], _ => exact ⟨a, b, c, rfl⟩
theorem len4 {ks : List Tm} (h : ks.length = 4) : ∃ a b c d, ks = [a, b, c, d] := by
 match ks, h with
 | [a, b, c, d], _ => exact ⟨a, b, c, d, rfl⟩
theorem sContract_any (hC : Contract3) (d : Nat) (hd : d ≤ 30) (k n : Int) (ks : List Tm) (A : Option Addr) (c : Nat) (w : World) (hM : sizes ks ≤ 400) (hs : shape d (.mk k n ks) = true) (hx : rdx k ks ≠ 0) (hr : Rd w A 0 ks) :
  Calls Try.prog 95 #[.agg #[.int .i64 k, .int .i64 n, .slice A ks.length c]] w (GotS (ctrS (.mk k n ks)) 190000 w) := by
 obtain ⟨d, rfl, ha, _, _, hk⟩ := shape_pos hs
 by_cases h5 : k = 5
 ·subst h5
  obtain ⟨a, b, rfl⟩ := len2 (ks := ks) (by have h : arity 5 = 2 := rfl; omega)
  obtain ⟨k0, n0, ls⟩ := a
  have h4 : k0 = 4 := by
   rcases Classical.em (k0 = 4) with h | h
   ·exact h
   ·exact absurd (by simp [rdx, kat, Tm.k, h]) hx
  subst h4
  obtain ⟨d, rfl, ha0, _, _, hk0⟩ := shape_pos (hk (.mk 4 n0 ls) (by simp))
  obtain ⟨s0, t, rfl⟩ := len2 (ks := ls) (by have h : arity 4 = 2 := rfl; omega)
  obtain ⟨ku, nu, us⟩ := b
  obtain ⟨k1, n1, ks1⟩ := t
  rw [show ctrS _ = sbS (.mk ku nu us) 0 0 (.mk k1 n1 ks1) from by simp [ctrS, rdx, kat, Tm.k, Tm.ks, kidT]]
  exact sContract_apply n n0 s0 _ k1 n1 ku nu us ks1 A c w rfl hM (shape_up (by omega) _ (hk0 _ (by simp))) (shape_up (by omega) _ (hk _ (by simp))) hr
 ·by_cases h9 : k = 9
  ·subst h9
   obtain ⟨a, b, e, f, rfl⟩ := len4 (ks := ks) (by have h : arity 9 = 4 := rfl; omega)
   obtain ⟨k3, n3, ls⟩ := f
   by_cases h7 : k3 = 7
   ·subst h7
    rw [show ctrS _ = b from by simp [ctrS, rdx, kat, Tm.k, Tm.ks, kidT]]
    exact sContract_zero n a b e _ A c w hM (by simp [rdx, kat, Tm.k]) hr
   ·have h8 : k3 = 8 := by
     rcases Classical.em (k3 = 8) with h | h
     ·exact h
     ·exact absurd (by simp [rdx, kat, Tm.k, h, h7]) hx
    subst h8
    obtain ⟨d, rfl, ha0, _, _, hk0⟩ := shape_pos (hk (.mk 8 n3 ls) (by simp))
    obtain ⟨m, rfl⟩ := len1 (ks := ls) (by have h : arity 8 = 1 := rfl; omega)
    rw [show ctrS _ = (.mk 5 0 [.mk 5 0 [e, m], .mk 9 0 [a, b, e, m]]) from by simp [ctrS, rdx, kat, Tm.k, Tm.ks, kidT]]
    exact hC n n3 a b e m A c w hM hr
  ·by_cases h12 : k = 12
   ·subst h12
    obtain ⟨a, b, e, rfl⟩ := len3 (ks := ks) (by have h : arity 12 = 3 := rfl; omega)
    obtain ⟨k3, n3, ls⟩ := b
    have h8 : k3 = 11 := by
     rcases Classical.em (k3 = 11) with h | h
     ·exact h
     ·exact absurd (by simp [rdx, kat, Tm.k, h]) hx
    subst h8
    rw [show ctrS _ = e from by simp [ctrS, rdx, kat, Tm.k, Tm.ks, kidT]]
    exact sContract_move n a _ e A c w hM (by simp [rdx, kat, Tm.k]) hr
   ·by_cases h15 : k = 15
    ·subst h15
     obtain ⟨a, rfl⟩ := len1 (ks := ks) (by have h : arity 15 = 1 := rfl; omega)
     obtain ⟨k3, n3, ls⟩ := a
     have h8 : k3 = 14 := by
      rcases Classical.em (k3 = 14) with h | h
      ·exact h
      ·exact absurd (by simp [rdx, kat, Tm.k, h]) hx
     subst h8
     obtain ⟨d, rfl, ha0, _, _, hk0⟩ := shape_pos (hk (.mk 14 n3 ls) (by simp))
     obtain ⟨s0, s1, s2, rfl⟩ := len3 (ks := ls) (by have h : arity 14 = 3 := rfl; omega)
     rw [show ctrS _ = s1 from by simp [ctrS, rdx, kat, Tm.k, Tm.ks, kidT]]
     exact sContract_fst n n3 s0 s1 s2 A c w hM hr
    ·by_cases h16 : k = 16
     ·subst h16
      obtain ⟨a, rfl⟩ := len1 (ks := ks) (by have h : arity 16 = 1 := rfl; omega)
      obtain ⟨k3, n3, ls⟩ := a
      have h8 : k3 = 14 := by
       rcases Classical.em (k3 = 14) with h | h
       ·exact h
       ·exact absurd (by simp [rdx, kat, Tm.k, h]) hx
      subst h8
      obtain ⟨d, rfl, ha0, _, _, hk0⟩ := shape_pos (hk (.mk 14 n3 ls) (by simp))
      obtain ⟨s0, s1, s2, rfl⟩ := len3 (ks := ls) (by have h : arity 14 = 3 := rfl; omega)
      rw [show ctrS _ = s2 from by simp [ctrS, rdx, kat, Tm.k, Tm.ks, kidT]]
      exact sContract_snd n n3 s0 s1 s2 A c w hM hr
     ·exact absurd (rdx_no ks (by omega)) hx
theorem sizes_set : ∀ (ks : List Tm) (j : Nat) (t : Tm), sizes (ks.set j t) ≤ sizes ks + t.size
 | [], j, t => by simp [sizes]
 | a :: ks, 0, t => by simp only [List.set_cons_zero, sizes]; omega
 | a :: ks, j + 1, t => by have := sizes_set ks j t; simp only [List.set_cons_succ, sizes]; omega
theorem rdp_lt {p : Nat → Prop} {w : World} : (∀ t b off i, RdPC p w b off i t → RdPC (fun b => p b ∧ b < w.heap.size) w b off i t) ∧ (∀ ks A i, RdP p w A i ks → RdP (fun b => p b ∧ b < w.heap.size) w A i ks) := by
 refine Tm.ind2 (fun k n ks ih b off i hh => ?_) (fun _ _ _ => RdP.nil) (fun t ts h1 h2 A i hh => ?_)
 ·rw [RdPC.iff] at hh ⊢
  obtain ⟨h0, h1, h2, A, c, h3, h4, h5⟩ := hh
  exact ⟨⟨h0, World.block_lt_of_cell? _ _ h1⟩, h1, h2, A, c, h3, h4, ih _ _ h5⟩
 ·rw [RdP.cons_iff] at hh ⊢
  obtain ⟨⟨b, off, hA, hc⟩, hr⟩ := hh
  exact ⟨⟨b, off, hA, h1 _ _ _ hc⟩, h2 _ _ hr⟩
theorem RdP.lt_ {p : Nat → Prop} {w : World} {A : Option Addr} {i : Nat} {ks : List Tm} (h : RdP p w A i ks) : RdP (fun b => p b ∧ b < w.heap.size) w A i ks := rdp_lt.2 _ _ _ h
theorem set_at (ks : List Tm) (j : Nat) (v : Tm) : ∀ (i : Nat) (t : Tm), ks[i]? = some t → (ks.set j v)[i]? = some (if i = j then v else t) := by
 intro i t h
 have hl : i < ks.length := (List.getElem?_eq_some_iff.1 h).1
 rw [List.getElem?_set]
 by_cases e : j = i
 ·subst e
  rw [if_pos rfl, if_pos hl, if_pos rfl]
 ·rw [if_neg e, if_neg (fun h => e h.symm), h]
def Stepped (t0 : Tm) (m : Nat) (w : World) (e : Ending) (w' : World) : Prop :=
 ∃ (k n : Int) (ks : List Tm) (A : Option Addr) (c : Nat) (b : Bool), .mk k n ks = (stepS t0).getD t0 ∧ b = (stepS t0).isSome ∧ e = .returned (.tuple #[.agg #[.int .i64 k, .int .i64 n, .slice A ks.length c], .bool b]) ∧ ks.length ≤ 9223372036854775807 ∧ sizes ks + 1 ≤ m ∧ RdP (fun x => if b = true then w.heap.size ≤ x else x < w.heap.size) w' A 0 ks ∧ Below w.heap.size w w'
theorem some_of {o : Option Tm} {t u : Tm} (h : u = o.getD t) {b : Bool} (hb : b = o.isSome) (hbt : b = true) : o = some u := by
 subst hbt
 cases o with
 | none => cases hb
 | some v => rw [h]; rfl
theorem none_of {o : Option Tm} {b : Bool} (hb : b = o.isSome) (hbt : b = false) : o = none := by
 subst hbt
 cases o with
 | none => rfl
 | some v => cases hb
theorem stepSL_at : ∀ (ks : List Tm) (j : Nat) (h : j < ks.length) (u : Tm), (∀ i, (hi : i < ks.length) → i < j → stepS ks[i] = none) → stepS ks[j] = some u → stepSL ks = some (ks.set j u)
 | t :: ts, 0, h, u, hn, hs => by rw [stepSL]; simp only [List.getElem_cons_zero] at hs; rw [hs]; rfl
 | t :: ts, j + 1, h, u, hn, hs => by
  have h0 : stepS t = none := hn 0 (by simp) (by omega)
  rw [stepSL, h0, stepSL_at ts j (by simpa using h) u (fun i hi hij => hn (i + 1) (by simpa using hi) (by omega)) (by simpa using hs)]; rfl
theorem stepSL_no : ∀ (ks : List Tm), (∀ i, (hi : i < ks.length) → stepS ks[i] = none) → stepSL ks = none
 | [], _ => rfl
 | t :: ts, hn => by
  have h0 : stepS t = none := hn 0 (by simp)
  rw [stepSL, h0, stepSL_no ts (fun i hi => hn (i + 1) (by simpa using hi))]; rfl
set_option maxHeartbeats 4000000 in
set_option maxRecDepth 100000 in
theorem sStep_any (hC : Contract3) (N : Nat) : ∀ (d : Nat) (k n : Int) (ks : List Tm) (A : Option Addr) (c : Nat) (w : World), d ≤ 30 → sizes ks < N → sizes ks ≤ 400 → shape d (.mk k n ks) = true → Rd w A 0 ks →
  Calls Try.prog 102 #[.agg #[.int .i64 k, .int .i64 n, .slice A ks.length c], .bool false] w (Stepped (.mk k n ks) (190000 + 401 * d) w) := by
 induction N with
 | zero => intro d k n ks A c w _ hN; exact absurd hN (Nat.not_lt_zero _)
 | succ N ih =>
 intro d k n ks A c w hd hN hM hs hr
 have hlen := length_le_sizes ks
 obtain ⟨d, rfl, ha, _, _, hk⟩ := shape_pos hs
 have hk' := hide hk
 have ha' := hide ha
 have hs' := hide hs
 clear hk ha hs
 by_cases hx : rdx k ks = 0
 ·have hrd := hide hx
  clear hx
  go_enter Try.func102, Try.ntmps102
  go_wp2_with (go_at_call 64; refine (sRedex_any k n ks A c _ (by omega) ha'.out ((hr.alloc _).alloc _)).mono ?_; rw [hrd.out]; rintro e w1 ⟨rfl, hb1⟩; have hB : Blk w1 w.heap.size #[.int .i64 k, .int .i64 n, .slice A ks.length c] := ((Blk.new_ w 25 _ rfl).alloc _).keep hb1; have hZ : Blk w1 (w.heap.size + 1) #[.int .i64 0, .int .i64 0, .slice none 0 0] := (Blk.new_ _ 25 _ (by simp)).keep hb1; have g1 : Below w.heap.size w w1 := (((Below.refl _ _).alloc (Nat.le_refl _) _).alloc (by simp) _).trans (hb1.mono (by simp; omega)))
  go_loopw [6] (fun jv wr => ∃ j : Nat, j ≤ ks.length ∧ Hid (∀ i, (hi : i < ks.length) → i < j → stepS ks[i] = none) ∧ jv = .int .i64 j ∧ Blk wr (w.heap.size + 1) #[.int .i64 0, .int .i64 0, .slice none 0 0] ∧ Blk wr w.heap.size #[.int .i64 k, .int .i64 n, .slice A ks.length c] ∧ Below w.heap.size w wr)
   (fun jv _ => ks.length - (intOf jv).toNat)
  case atStart => exact ⟨0, Nat.zero_le _, hide (fun i hi h => absurd h (by omega)), rfl, hZ, hB, g1⟩
  case round =>
   clear hZ hB g1
   obtain ⟨j, hj, hnj, rfl, hZ, hB, g1⟩ := hrel
   obtain ⟨x0, x1, x2⟩ := hB.three
   have sr := g1.size
   have lz0 := hZ.lt
   by_cases hlt : j < ks.length
   ·obtain ⟨b, off, k', n', ks', A', c', rfl, hkj, hc1, hc2, hc3, hl', hr'⟩ := (hr.below g1).at_ hlt
    have hsz := sizes_le (List.getElem_mem hlt)
    have hsk := hk'.out _ (List.getElem_mem hlt)
    rw [hkj] at hsz hsk
    simp only [Tm.size] at hsz
    have H4 := hide hsk
    have H5 := hide hkj
    clear hkj hsk
    have bl : b < wr.heap.size := World.block_lt_of_cell? _ _ hc1
    go_wp2_with (first
     | (go_at_call 102; refine (ih d k' n' ks' A' c' _ (by omega) (by omega) (by omega) H4.out hr').mono ?_; rintro e w2 ⟨k2, n2, ks2, A2, c2, bb, hv2, hv3, rfl, hl2, hs2, hr2, hb2⟩; replace hv2 := hide hv2; replace hv3 := hide hv3; have hrw := ((hr.below g1).below hb2).alloc (.cells #[.int .i64 k2, .int .i64 n2, .slice A2 ks2.length c2] 25); replace hZ := (hZ.keep hb2).alloc (.cells #[.int .i64 k2, .int .i64 n2, .slice A2 ks2.length c2] 25); replace hB := (hB.keep hb2).alloc (.cells #[.int .i64 k2, .int .i64 n2, .slice A2 ks2.length c2] 25); replace g1 := (g1.trans (hb2.mono g1.size)).alloc (by have := hb2.size; omega) (.cells #[.int .i64 k2, .int .i64 n2, .slice A2 ks2.length c2] 25); have hr2' := hr2.alloc (.cells #[.int .i64 k2, .int .i64 n2, .slice A2 ks2.length c2] 25); have s2 := hb2.size; have hK2 := Blk.new_ w2 25 #[.int .i64 k2, .int .i64 n2, .slice A2 ks2.length c2] rfl; obtain ⟨y0, y1, y2⟩ := hK2.three; clear x0 x1 x2; obtain ⟨x0, x1, x2⟩ := hB.three; have tok := trivial))
    ·have hbb : bb = true := by assumption
     have hrx : RdP (fun x => wr.heap.size ≤ x ∧ x < w2.heap.size) w2 A2 0 ks2 := (hr2.lt_).mono (fun x hx => ⟨by have h1 := hx.1; rw [hbb] at h1; simpa using h1, hx.2⟩)
     refine (sWith_any (p := fun x => wr.heap.size ≤ x ∧ x < w2.heap.size) k n ks _ c j k2 n2 ks2 A2 c2 (ks.set j (.mk k2 n2 ks2)) (by simp) (set_at ks j _) _ (by omega) hl2 hrw (hrx.alloc _) (fun x hx => by have := hx.2; simp; omega)).mono ?_
     rintro e w3 ⟨A3, c3, rfl, hl3, hr3, hb3⟩
     replace hZ := hZ.keep hb3
     obtain ⟨d0, d1, d2⟩ := hZ.three
     have e0 := hZ.frozen 0
     have e1 := hZ.frozen 1
     have e2 := hZ.frozen 2
     replace g1 := g1.trans (hb3.mono g1.size)
     go_wp2_with fail
     have hsz2 := sizes_set ks j (.mk k2 n2 ks2)
     rw [Tm.size] at hsz2
     refine bodyPost_ret (v := .tuple #[.agg #[.int .i64 k, .int .i64 n, .slice A3 (ks.set j (.mk k2 n2 ks2)).length c3], .bool true]) (by simp [results, Try.results102, go_sem, d0, d1, d2]) rfl ⟨k, n, ks.set j (.mk k2 n2 ks2), A3, c3, true, (by rw [stepS, if_pos hrd.out, stepSL_at ks j hlt _ hnj.out (by rw [H5.out]; exact some_of hv2.out hv3.out hbb)]; rfl), (by rw [stepS, if_pos hrd.out, stepSL_at ks j hlt _ hnj.out (by rw [H5.out]; exact some_of hv2.out hv3.out hbb)]; rfl), rfl, by simp; omega, by omega, ?_, ?_⟩
     ·have hr4 := hr3.mono (q := fun x => w.heap.size + 2 ≤ x) (fun x hx => hx.elim (fun h => by have := h.1; omega) (fun h => by simp at h; omega))
      exact (((hr4.setCell (by simp) _).setCell (by simp) _).setCell (by simp) _).mono (fun x hx => by simp; omega)
     ·exact ((g1.setCell (by simp) _).setCell (by simp) _).setCell (by simp) _
    ·have hbb : bb = false := by first | assumption | (cases bb with | false => rfl | true => simp_all)
     refine ⟨⟨j + 1, by omega, hide (fun i hi hij => ?_), by go_num, hZ, hB, g1⟩, by simp [intOf]; omega⟩
     by_cases hij2 : i = j
     ·subst hij2
      rw [H5.out]
      exact none_of hv3.out hbb
     ·exact hnj.out i hi (by omega)
   ·have hje : j = ks.length := by omega
    subst hje
    obtain ⟨d0, d1, d2⟩ := hZ.three
    have e0 := hZ.frozen 0
    have e1 := hZ.frozen 1
    have e2 := hZ.frozen 2
    go_wp2_with fail
    refine bodyPost_ret (v := .tuple #[.agg #[.int .i64 k, .int .i64 n, .slice A ks.length c], .bool false]) (by simp [results, Try.results102, go_sem, d0, d1, d2]) rfl ⟨k, n, ks, A, c, false, (by rw [stepS, if_pos hrd.out, stepSL_no ks (fun i hi => hnj.out i hi hi)]; rfl), (by rw [stepS, if_pos hrd.out, stepSL_no ks (fun i hi => hnj.out i hi hi)]; rfl), rfl, by omega, by omega, ?_, ?_⟩
    ·exact ((((hr.rdp.below g1).setCell (by simp) _).setCell (by simp) _).setCell (by simp) _).mono (fun x hx => by simpa using hx)
    ·exact ((g1.setCell (by simp) _).setCell (by simp) _).setCell (by simp) _
 ·have hq : (rdx k ks == 0) = false := by simpa using hx
  have hc := hide (fun w A c hr => sContract_any hC (d + 1) hd k n ks A c w hM hs'.out hx hr)
  obtain ⟨rr, hrr⟩ : ∃ rr, rdx k ks = rr := ⟨_, rfl⟩
  rw [hrr] at hq
  have hrd := hide hrr
  have hst := hide (show stepS (.mk k n ks) = some (ctrS (.mk k n ks)) from by rw [stepS, if_neg hx])
  clear hx hrr
  go_enter Try.func102, Try.ntmps102
  go_wp2_with (first
   | (go_at_call 95; have _t := tok; refine (hc.out _ A c hr1).mono ?_; rintro e w2 ⟨k2, n2, ks2, hv2, ⟨A2, c2, rfl, hl2, hr2, hb2⟩, hs2⟩; replace hv2 := hide hv2; replace hZ := hZ.keep hb2; obtain ⟨d0, d1, d2⟩ := hZ.three; have e0 := hZ.frozen 0; have e1 := hZ.frozen 1; have e2 := hZ.frozen 2; replace g1 := g1.trans (hb2.mono g1.size))
   | (go_at_call 64; refine (sRedex_any k n ks A c _ (by omega) ha'.out ((hr.alloc _).alloc _)).mono ?_; rw [hrd.out]; rintro e w1 ⟨rfl, hb1⟩; have hB : Blk w1 w.heap.size #[.int .i64 k, .int .i64 n, .slice A ks.length c] := ((Blk.new_ w 25 _ rfl).alloc _).keep hb1; have hZ : Blk w1 (w.heap.size + 1) #[.int .i64 0, .int .i64 0, .slice none 0 0] := (Blk.new_ _ 25 _ (by simp)).keep hb1; have g1 : Below w.heap.size w w1 := (((Below.refl _ _).alloc (Nat.le_refl _) _).alloc (by simp) _).trans (hb1.mono (by simp; omega)); have hr1 := hr.below g1; have s1 := hZ.lt; obtain ⟨x0, x1, x2⟩ := hB.three; have tok := trivial))
  refine bodyPost_ret (v := .tuple #[.agg #[.int .i64 k2, .int .i64 n2, .slice A2 ks2.length c2], .bool true]) (by simp [results, Try.results102, go_sem, d0, d1, d2]) rfl ⟨k2, n2, ks2, A2, c2, true, (by rw [hst.out, hv2.out]; rfl), (by rw [hst.out]; rfl), rfl, hl2, by omega, ?_, ?_⟩
  ·exact ((((hr2.mono (q := fun x => w.heap.size + 2 ≤ x) (fun x hx => hx.elim (fun h => h.elim) (fun h => by omega))).setCell (by simp) _).setCell (by simp) _).setCell (by simp) _).mono (fun x hx => by simp; omega)
  ·exact ((g1.setCell (by simp) _).setCell (by simp) _).setCell (by simp) _
end Go.Proofs.Ytddkehjdjfmhmaa
