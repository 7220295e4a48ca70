/-
 Contracts of the functions that the law reaches, and plain lemmas. No condition.
-/
import Derived.Test.YtddkehjdjfmhmaaK5
import Derived.Test.YtddkehjdjfmhmaaK10
import Derived.Test.YtddkehjdjfmhmaaK18
import Derived.Test.YtddkehjdjfmhmaaK19
namespace Go.Proofs.Ytddkehjdjfmhmaa
set_option linter.unusedSimpArgs false
set_option linter.unusedVariables false
open Go.RowKit
mutual
def hstS : Tm → Option Tm
 | .mk k n ks => if rdx k ks = 0 then (if mainO k < 0 then none else (hstL (mainO k).toNat ks).map (Tm.mk k n)) else some (ctrS (.mk k n ks))
def hstL : Nat → List Tm → Option (List Tm)
 | _, [] => none
 | 0, t :: ts => (hstS t).map (· :: ts)
 | i + 1, t :: ts => (hstL i ts).map (t :: ·)
end
theorem hstL_at : ∀ (ks : List Tm) (i : Nat) (h : i < ks.length), hstL i ks = (hstS ks[i]).map (ks.set i ·)
 | t :: ts, 0, h => rfl
 | t :: ts, i + 1, h => by
  have hi : i < ts.length := by simpa using h
  rw [hstL, hstL_at ts i hi]
  simp only [List.getElem_cons_succ]
  cases hstS ts[i] <;> rfl
def hdS : Nat → Tm → Option Tm × Int
 | fuel, t => match hstS t with
  | none => (some t, 0)
  | some t' => match fuel with
   | 0 => (none, 1)
   | fuel + 1 => if validT t' = true then hdS fuel t' else (none, 2)
theorem headN_at : ∀ (ts : List Tm) (i : Nat) (h : i < ts.length), headN i ts = headP ts[i]
 | t :: ts, 0, h => rfl
 | t :: ts, i + 1, h => by rw [headN, headN_at ts i (by simpa using h)]; rfl
theorem headN_none : ∀ (ts : List Tm) (i : Nat), ts.length ≤ i → headN i ts = none ∧ hstL i ts = none
 | [], i, h => by cases i <;> exact ⟨rfl, rfl⟩
 | t :: ts, 0, h => absurd h (by simp)
 | t :: ts, i + 1, h => by rw [headN, hstL, (headN_none ts i (by simpa using h)).1, (headN_none ts i (by simpa using h)).2]; exact ⟨rfl, rfl⟩
theorem head_step : ∀ t : Tm, (headP t = none → hstS t = none) ∧ ∀ p, headP t = some p → ∃ k n ks, atT t p = some (.mk k n ks) ∧ rdx k ks ≠ 0 ∧ hstS t = some (putN t p (ctrS (.mk k n ks))) := by
 refine Tm.rec (motive_1 := fun t => (headP t = none → hstS t = none) ∧ ∀ p, headP t = some p → ∃ k n ks, atT t p = some (.mk k n ks) ∧ rdx k ks ≠ 0 ∧ hstS t = some (putN t p (ctrS (.mk k n ks))))
  (motive_2 := fun ts => ∀ t, t ∈ ts → (headP t = none → hstS t = none) ∧ ∀ p, headP t = some p → ∃ k n ks, atT t p = some (.mk k n ks) ∧ rdx k ks ≠ 0 ∧ hstS t = some (putN t p (ctrS (.mk k n ks)))) ?_ ?_ ?_
 ·intro k n ks ih
  by_cases hr : rdx k ks = 0
  ·by_cases hm : mainO k < 0
   ·rw [headP, hstS, if_pos hr, if_pos hm, if_pos hr, if_pos hm]
    exact ⟨fun _ => rfl, fun p h => by cases h⟩
   ·rw [headP, hstS, if_pos hr, if_neg hm, if_pos hr, if_neg hm]
    obtain ⟨i, hi⟩ : ∃ i : Nat, mainO k = (i : Int) := ⟨(mainO k).toNat, by omega⟩
    rw [hi, Int.toNat_natCast]
    by_cases hl : i < ks.length
    ·rw [headN_at ks i hl, hstL_at ks i hl]
     have h := ih _ (List.getElem_mem hl)
     refine ⟨fun h0 => ?_, fun p hp => ?_⟩
     ·cases hh : headP ks[i] with
      | none => rw [h.1 hh]; rfl
      | some q => rw [hh] at h0; cases h0
     ·cases hh : headP ks[i] with
      | none => rw [hh] at hp; cases hp
      | some q =>
       rw [hh] at hp
       injection hp with hp
       subst hp
       obtain ⟨k1, n1, ks1, ha, hr1, hs⟩ := h.2 q hh
       refine ⟨k1, n1, ks1, ?_, hr1, ?_⟩
       ·rw [atT_cons hl]; exact ha
       ·rw [hs, putN_cons hl]; rfl
    ·rw [(headN_none ks i (by omega)).1, (headN_none ks i (by omega)).2]
     exact ⟨fun _ => rfl, fun p h => by cases h⟩
  ·rw [headP, hstS, if_neg hr, if_neg hr]
   refine ⟨(fun h => by cases h), fun p hp => ?_⟩
   injection hp with hp
   subst hp
   exact ⟨k, n, ks, rfl, hr, rfl⟩
 ·intro t h; cases h
 ·intro t ts h1 h2 u hu
  rcases List.mem_cons.1 hu with rfl | hu
  ·exact h1
  ·exact h2 u hu
theorem ctd_hstep {t : Tm} {p : List Int} (hv : validT t = true) (hp : headP t = some p) : ∃ t', hstS t = some t' ∧ ctdI t p = vO t' := by
 obtain ⟨k, n, ks, ha, hr, hs⟩ := (head_step t).2 p hp
 refine ⟨_, hs, ?_⟩
 have hu := atT_valid ha hv
 rw [ctdI, ha]
 simp only [ctrI_ctrS hu hr]
 by_cases hc : validT (ctrS (.mk k n ks)) = true
 ·rw [vO_yes hc]
 ·rw [vO_not hc, vO_not (fun h => hc (putN_valid p t _ _ ha h))]
theorem head_same : ∀ (fuel : Nat) (t : Tm), validT t = true → hdS fuel t = redI headP fuel t
 | fuel, t, hv => by
  rw [hdS, redI]
  cases hp : headP t with
  | none => rw [(head_step t).1 hp]
  | some p =>
   obtain ⟨t', hs, hc⟩ := ctd_hstep hv hp
   rw [hs]
   cases fuel with
   | zero => rfl
   | succ fuel =>
    simp only [hc]
    by_cases h : validT t' = true
    ·rw [if_pos h, vO_yes h]; exact head_same fuel t' h
    ·rw [if_neg h, vO_not h]
set_option maxRecDepth 100000 in
theorem sMain_any (k : Int) (w : World) : Calls Try.prog 96 #[.int .i64 k] w fun e w' => e = .returned (.int .i64 (mainO k)) ∧ Below w.heap.size w w' := by
 unfold mainO
 by_cases h5 : k = 5
 ·subst h5
  go_enter Try.func96, Try.ntmps96
  go_wp2_with fail
  go_ret
  exact ⟨rfl, Below.refl _ _⟩
 by_cases h15 : k = 15
 ·subst h15
  go_enter Try.func96, Try.ntmps96
  go_wp2_with fail
  go_ret
  exact ⟨rfl, Below.refl _ _⟩
 by_cases h16 : k = 16
 ·subst h16
  go_enter Try.func96, Try.ntmps96
  go_wp2_with fail
  go_ret
  exact ⟨rfl, Below.refl _ _⟩
 rw [if_neg (by omega)]
 have q5 : (k == 5) = false := by simpa using h5
 have q15 : (k == 15) = false := by simpa using h15
 have q16 : (k == 16) = false := by simpa using h16
 by_cases h12 : k = 12
 ·subst h12
  go_enter Try.func96, Try.ntmps96
  go_wp2_with fail
  go_ret
  exact ⟨rfl, Below.refl _ _⟩
 have q12 : (k == 12) = false := by simpa using h12
 by_cases h9 : k = 9
 ·subst h9
  go_enter Try.func96, Try.ntmps96
  go_wp2_with fail
  go_ret
  exact ⟨rfl, Below.refl _ _⟩
 have q9 : (k == 9) = false := by simpa using h9
 rw [if_neg h9, if_neg h12]
 go_enter Try.func96, Try.ntmps96
 go_wp2_with fail
 go_ret
 exact ⟨rfl, Below.refl _ _⟩
def HStepped (t0 : Tm) (m : Nat) (w : World) (e : Ending) (w' : World) : Prop :=
 ∃ (k n : Int) (ks : List Tm) (A : Option Addr) (c : Nat) (b : Bool), .mk k n ks = (hstS t0).getD t0 ∧ b = (hstS t0).isSome ∧ e = .returned (.tuple #[.agg #[.int .i64 k, .int .i64 n, .slice A ks.length c], .bool b]) ∧ ks.length ≤ 9223372036854775807 ∧ sizes ks + 1 ≤ m ∧ RdP (fun x => if b = true then w.heap.size ≤ x else x < w.heap.size) w' A 0 ks ∧ Below w.heap.size w w'
set_option maxHeartbeats 8000000 in
set_option maxRecDepth 100000 in
theorem sHeadStep_any (d : Nat) : ∀ (k n : Int) (ks : List Tm) (A : Option Addr) (c : Nat) (w : World), d ≤ 30 → sizes ks ≤ 400 → shape d (.mk k n ks) = true → Rd w A 0 ks →
  Calls Try.prog 92 #[.agg #[.int .i64 k, .int .i64 n, .slice A ks.length c]] w (HStepped (.mk k n ks) (190000 + 401 * d) w) := by
 induction d with
 | zero => intro k n ks A c w _ _ hs; simp [shape] at hs
 | succ d ih =>
 intro k n ks A c w hd hM hs hr
 have hlen := length_le_sizes ks
 obtain ⟨d', hde, ha, _, _, hk⟩ := shape_pos hs
 obtain rfl : d' = d := by omega
 have hk' := hide hk
 have ha' := hide ha
 have hs' := hide hs
 replace ih := hide ih
 clear hk ha hs hde
 by_cases hx : rdx k ks = 0
 ·have hrd := hide hx
  obtain ⟨mm, hmm⟩ : ∃ mm, mainO k = mm := ⟨_, rfl⟩
  have hmn := hide hmm
  by_cases hneg : mm < 0
  ·have hst0 := hide (show hstS (.mk k n ks) = none by rw [hstS, if_pos hx, hmm, if_pos hneg])
   have qm : decide (mm < 0) = true := decide_eq_true hneg
   clear hx hmm
   go_enter Try.func92, Try.ntmps92
   go_wp2_with (first
    | (go_at_call 96; have _t := tok; refine (sMain_any k _).mono ?_; rw [hmn.out]; rintro e w2 ⟨rfl, hb2⟩; replace hB := hB.keep hb2; replace hZ := hZ.keep hb2; clear x0 x1 x2; obtain ⟨x0, x1, x2⟩ := hB.three; have s2 := hZ.lt; have g2 := g1.trans (hb2.mono g1.size); have hr2 := hr.below g2; obtain ⟨d0, d1, d2⟩ := hZ.three; have e0 := hZ.frozen 0; have e1 := hZ.frozen 1; have e2 := hZ.frozen 2; clear tok; have tok2 := trivial)
    | (go_at_call 64; refine (sRedex_any k n ks A c _ (by omega) ha'.out ((hr.alloc _).alloc _)).mono ?_; rw [hrd.out]; rintro e w1 ⟨rfl, hb1⟩; have hB : Blk w1 w.heap.size #[.int .i64 k, .int .i64 n, .slice A ks.length c] := ((Blk.new_ w 25 _ rfl).alloc _).keep hb1; have hZ : Blk w1 (w.heap.size + 1) #[.int .i64 0, .int .i64 0, .slice none 0 0] := (Blk.new_ _ 25 _ (by simp)).keep hb1; have g1 : Below w.heap.size w w1 := (((Below.refl _ _).alloc (Nat.le_refl _) _).alloc (by simp) _).trans (hb1.mono (by simp; omega)); have s1 := hZ.lt; have hr1 := hr.below g1; obtain ⟨x0, x1, x2⟩ := hB.three; have tok := trivial))
   refine bodyPost_ret (v := .tuple #[.agg #[.int .i64 k, .int .i64 n, .slice A ks.length c], .bool false]) (by simp [results, Try.results92, go_sem, d0, d1, d2]) rfl ⟨k, n, ks, A, c, false, (by rw [hst0.out]; rfl), (by rw [hst0.out]; rfl), rfl, by omega, by omega, ?_, ?_⟩
   ·exact ((((hr.rdp.below g2).setCell (by simp) _).setCell (by simp) _).setCell (by simp) _).mono (fun x hx => by simpa using hx)
   ·exact ((g2.setCell (by simp) _).setCell (by simp) _).setCell (by simp) _
  ·obtain ⟨i, rfl⟩ : ∃ i : Nat, mm = (i : Int) := ⟨mm.toNat, by omega⟩
   have hil : i < ks.length := by
    have := ha'.out
    unfold arity at this
    unfold mainO at hmm
    repeat' split at hmm
    all_goals (first | omega | (rename_i h; rcases h with rfl | rfl | rfl <;> simp_all <;> omega) | (simp_all; omega))
   have qm : decide ((i : Int) < 0) = false := decide_eq_false (by omega)
   obtain ⟨b, off, k', n', ks', A', c', rfl, hkj, hc1, hc2, hc3, hl', hr'⟩ := hr.at_ hil
   have hlk : (i : Int) < (ks.length : Int) := by omega
   have hsz := sizes_le (List.getElem_mem hil)
   have hsk := hk'.out _ (List.getElem_mem hil)
   rw [hkj] at hsz hsk
   simp only [Tm.size] at hsz
   have hsk' := hide hsk
   have hsteq : hstS (.mk k n ks) = ((hstS (.mk k' n' ks')).map (ks.set i ·)).map (Tm.mk k n) := by rw [hstS, if_pos hx, hmm, if_neg hneg, Int.toNat_natCast, hstL_at ks i hil, hkj]
   cases hho : hstS (.mk k' n' ks') with
   | none =>
    rw [hho] at hsteq
    have hst0 := hide (show hstS (.mk k n ks) = none from hsteq)
    have hst := hide hho
    clear hx hmm hsteq hho hsk hkj
    go_enter Try.func92, Try.ntmps92
    go_wp2_with (first
     | (go_at_call 92; have _t := tok2; refine (ih.out k' n' ks' A' c' _ (by omega) (by omega) hsk'.out (hr'.below g2)).mono ?_; rintro e w3 ⟨k3, n3, ks3, A3, c3, bb, hv3, hw3, rfl, hl3, hs3, hr3, hb3⟩; obtain rfl : bb = false := (by rw [hw3, hst.out]; rfl); replace hv3 := hide hv3; clear hw3; replace hB := (hB.keep hb3).alloc (.cells #[.int .i64 k3, .int .i64 n3, .slice A3 ks3.length c3] 25); replace hZ := (hZ.keep hb3).alloc (.cells #[.int .i64 k3, .int .i64 n3, .slice A3 ks3.length c3] 25); have g3 := (g2.trans (hb3.mono g2.size)).alloc (by have := hb3.size; omega) (.cells #[.int .i64 k3, .int .i64 n3, .slice A3 ks3.length c3] 25); have hr4 := hr3.alloc (.cells #[.int .i64 k3, .int .i64 n3, .slice A3 ks3.length c3] 25); have hr5 := hr.below g3; have s3 := hb3.size; have hK := Blk.new_ w3 25 #[.int .i64 k3, .int .i64 n3, .slice A3 ks3.length c3] rfl; obtain ⟨y0, y1, y2⟩ := hK.three; clear x0 x1 x2 d0 d1 d2 e0 e1 e2; obtain ⟨x0, x1, x2⟩ := hB.three; obtain ⟨d0, d1, d2⟩ := hZ.three; have e0 := hZ.frozen 0; have e1 := hZ.frozen 1; have e2 := hZ.frozen 2; clear tok2; have tok3 := trivial)
     | (go_at_call 96; have _t := tok; refine (sMain_any k _).mono ?_; rw [hmn.out]; rintro e w2 ⟨rfl, hb2⟩; replace hB := hB.keep hb2; replace hZ := hZ.keep hb2; clear x0 x1 x2; obtain ⟨x0, x1, x2⟩ := hB.three; have s2 := hZ.lt; have g2 := g1.trans (hb2.mono g1.size); have hr2 := hr.below g2; obtain ⟨d0, d1, d2⟩ := hZ.three; have e0 := hZ.frozen 0; have e1 := hZ.frozen 1; have e2 := hZ.frozen 2; clear tok; have m1 := Keeps.of_below g2 _ _ hc1; have m2 := Keeps.of_below g2 _ _ hc2; have m3 := Keeps.of_below g2 _ _ hc3; have tok2 := trivial)
     | (go_at_call 64; refine (sRedex_any k n ks _ c _ (by omega) ha'.out ((hr.alloc _).alloc _)).mono ?_; rw [hrd.out]; rintro e w1 ⟨rfl, hb1⟩; have hB : Blk w1 w.heap.size #[.int .i64 k, .int .i64 n, .slice (some ⟨b, off, none⟩) ks.length c] := ((Blk.new_ w 25 _ rfl).alloc _).keep hb1; have hZ : Blk w1 (w.heap.size + 1) #[.int .i64 0, .int .i64 0, .slice none 0 0] := (Blk.new_ _ 25 _ (by simp)).keep hb1; have g1 : Below w.heap.size w w1 := (((Below.refl _ _).alloc (Nat.le_refl _) _).alloc (by simp) _).trans (hb1.mono (by simp; omega)); have s1 := hZ.lt; have hr1 := hr.below g1; obtain ⟨x0, x1, x2⟩ := hB.three; have tok := trivial))
    refine bodyPost_ret (v := .tuple #[.agg #[.int .i64 k, .int .i64 n, .slice (some ⟨b, off, none⟩) ks.length c], .bool false]) (by simp [results, Try.results92, go_sem, d0, d1, d2]) rfl ⟨k, n, ks, some ⟨b, off, none⟩, c, false, (by rw [hst0.out]; rfl), (by rw [hst0.out]; rfl), rfl, by omega, by omega, ?_, ?_⟩
    ·exact ((((hr.rdp.below g3).setCell (by simp) _).setCell (by simp) _).setCell (by simp) _).mono (fun x hx => by simpa using hx)
    ·exact ((g3.setCell (by simp) _).setCell (by simp) _).setCell (by simp) _
   | some u =>
    obtain ⟨ku, nu, us⟩ := u
    rw [hho] at hsteq
    have hst0 := hide (show hstS (.mk k n ks) = some (.mk k n (ks.set i (.mk ku nu us))) from hsteq)
    have hst := hide hho
    clear hx hmm hsteq hho hsk hkj
    go_enter Try.func92, Try.ntmps92
    go_wp2_with (first
     | (go_at_call 97; have _t := tok3; refine (sWith_any (p := fun x => w2.heap.size ≤ x ∧ x < w3.heap.size) k n ks _ c i k3 n3 ks3 A3 c3 (ks.set i (.mk k3 n3 ks3)) (by simp) (set_at ks i _) _ (by omega) hl3 hr5 (hrx.alloc _) (fun x hx => by have := hx.2; simp; omega)).mono ?_; rintro e w4 ⟨A4, c4, rfl, hl4, hr6, hb4⟩; replace hZ := hZ.keep hb4; clear d0 d1 d2 e0 e1 e2; obtain ⟨d0, d1, d2⟩ := hZ.three; have e0 := hZ.frozen 0; have e1 := hZ.frozen 1; have e2 := hZ.frozen 2; have g4 := g3.trans (hb4.mono g3.size))
     | (go_at_call 92; have _t := tok2; refine (ih.out k' n' ks' A' c' _ (by omega) (by omega) hsk'.out (hr'.below g2)).mono ?_; rintro e w3 ⟨k3, n3, ks3, A3, c3, bb, hv3, hw3, rfl, hl3, hs3, hr3, hb3⟩; obtain rfl : bb = true := (by rw [hw3, hst.out]; rfl); replace hv3 := hide hv3; clear hw3; replace hB := (hB.keep hb3).alloc (.cells #[.int .i64 k3, .int .i64 n3, .slice A3 ks3.length c3] 25); replace hZ := (hZ.keep hb3).alloc (.cells #[.int .i64 k3, .int .i64 n3, .slice A3 ks3.length c3] 25); have g3 := (g2.trans (hb3.mono g2.size)).alloc (by have := hb3.size; omega) (.cells #[.int .i64 k3, .int .i64 n3, .slice A3 ks3.length c3] 25); have hr4 := hr3.alloc (.cells #[.int .i64 k3, .int .i64 n3, .slice A3 ks3.length c3] 25); have hr5 := hr.below g3; have s3 := hb3.size; have hK := Blk.new_ w3 25 #[.int .i64 k3, .int .i64 n3, .slice A3 ks3.length c3] rfl; obtain ⟨y0, y1, y2⟩ := hK.three; clear x0 x1 x2 d0 d1 d2 e0 e1 e2; obtain ⟨x0, x1, x2⟩ := hB.three; obtain ⟨d0, d1, d2⟩ := hZ.three; have e0 := hZ.frozen 0; have e1 := hZ.frozen 1; have e2 := hZ.frozen 2; clear tok2; have tok3 := trivial; obtain ⟨rfl, rfl, rfl⟩ : k3 = ku ∧ n3 = nu ∧ ks3 = us := (by have h := hv3.out; rw [hst.out] at h; injection h with q1 q2 q3; exact ⟨q1, q2, q3⟩); have hrx : RdP (fun x => w2.heap.size ≤ x ∧ x < w3.heap.size) w3 A3 0 ks3 := (hr3.lt_).mono (fun x hx => ⟨(by have h1 := hx.1; simpa using h1), hx.2⟩))
     | (go_at_call 96; have _t := tok; refine (sMain_any k _).mono ?_; rw [hmn.out]; rintro e w2 ⟨rfl, hb2⟩; replace hB := hB.keep hb2; replace hZ := hZ.keep hb2; clear x0 x1 x2; obtain ⟨x0, x1, x2⟩ := hB.three; have s2 := hZ.lt; have g2 := g1.trans (hb2.mono g1.size); have hr2 := hr.below g2; obtain ⟨d0, d1, d2⟩ := hZ.three; have e0 := hZ.frozen 0; have e1 := hZ.frozen 1; have e2 := hZ.frozen 2; clear tok; have m1 := Keeps.of_below g2 _ _ hc1; have m2 := Keeps.of_below g2 _ _ hc2; have m3 := Keeps.of_below g2 _ _ hc3; have tok2 := trivial)
     | (go_at_call 64; refine (sRedex_any k n ks _ c _ (by omega) ha'.out ((hr.alloc _).alloc _)).mono ?_; rw [hrd.out]; rintro e w1 ⟨rfl, hb1⟩; have hB : Blk w1 w.heap.size #[.int .i64 k, .int .i64 n, .slice (some ⟨b, off, none⟩) ks.length c] := ((Blk.new_ w 25 _ rfl).alloc _).keep hb1; have hZ : Blk w1 (w.heap.size + 1) #[.int .i64 0, .int .i64 0, .slice none 0 0] := (Blk.new_ _ 25 _ (by simp)).keep hb1; have g1 : Below w.heap.size w w1 := (((Below.refl _ _).alloc (Nat.le_refl _) _).alloc (by simp) _).trans (hb1.mono (by simp; omega)); have s1 := hZ.lt; have hr1 := hr.below g1; obtain ⟨x0, x1, x2⟩ := hB.three; have tok := trivial))
    have hsz2 := sizes_set ks i (.mk k3 n3 ks3)
    rw [Tm.size] at hsz2
    refine bodyPost_ret (v := .tuple #[.agg #[.int .i64 k, .int .i64 n, .slice A4 (ks.set i (.mk k3 n3 ks3)).length c4], .bool true]) (by simp [results, Try.results92, go_sem, d0, d1, d2]) rfl ⟨k, n, ks.set i (.mk k3 n3 ks3), A4, c4, true, (by rw [hst0.out]; rfl), (by rw [hst0.out]; rfl), rfl, by simp; omega, by omega, ?_, ?_⟩
    ·have hr7 := hr6.mono (q := fun x => w.heap.size + 2 ≤ x) (fun x hx => hx.elim (fun h => by have := h.1; omega) (fun h => by simp at h; omega))
     exact (((hr7.setCell (by simp) _).setCell (by simp) _).setCell (by simp) _).mono (fun x hx => by simp; omega)
    ·exact ((g4.setCell (by simp) _).setCell (by simp) _).setCell (by simp) _
 ·have hq : (rdx k ks == 0) = false := by simpa using hx
  have hc := hide (fun w A c hr => sContract_any contract3 (d' + 1) hd k n ks A c w hM hs'.out hx hr)
  obtain ⟨rr, hrr⟩ : ∃ rr, rdx k ks = rr := ⟨_, rfl⟩
  rw [hrr] at hq
  have hrd := hide hrr
  have hst := hide (show hstS (.mk k n ks) = some (ctrS (.mk k n ks)) from by rw [hstS, if_neg hx])
  clear hx hrr
  go_enter Try.func92, Try.ntmps92
  go_wp2_with (first
   | (go_at_call 95; have _t := tok; refine (hc.out _ A c hr1).mono ?_; rintro e w2 ⟨k2, n2, ks2, hv2, ⟨A2, c2, rfl, hl2, hr2, hb2⟩, hs2⟩; replace hv2 := hide hv2; replace hZ := hZ.keep hb2; obtain ⟨d0, d1, d2⟩ := hZ.three; have e0 := hZ.frozen 0; have e1 := hZ.frozen 1; have e2 := hZ.frozen 2; have g2 := g1.trans (hb2.mono g1.size))
   | (go_at_call 64; refine (sRedex_any k n ks A c _ (by omega) ha'.out ((hr.alloc _).alloc _)).mono ?_; rw [hrd.out]; rintro e w1 ⟨rfl, hb1⟩; have hB : Blk w1 w.heap.size #[.int .i64 k, .int .i64 n, .slice A ks.length c] := ((Blk.new_ w 25 _ rfl).alloc _).keep hb1; have hZ : Blk w1 (w.heap.size + 1) #[.int .i64 0, .int .i64 0, .slice none 0 0] := (Blk.new_ _ 25 _ (by simp)).keep hb1; have g1 : Below w.heap.size w w1 := (((Below.refl _ _).alloc (Nat.le_refl _) _).alloc (by simp) _).trans (hb1.mono (by simp; omega)); have s1 := hZ.lt; have hr1 := hr.below g1; obtain ⟨x0, x1, x2⟩ := hB.three; have tok := trivial))
  refine bodyPost_ret (v := .tuple #[.agg #[.int .i64 k2, .int .i64 n2, .slice A2 ks2.length c2], .bool true]) (by simp [results, Try.results92, go_sem, d0, d1, d2]) rfl ⟨k2, n2, ks2, A2, c2, true, (by rw [hst.out, hv2.out]; rfl), (by rw [hst.out]; rfl), rfl, hl2, by omega, ?_, ?_⟩
  ·exact ((((hr2.mono (q := fun x => w.heap.size + 2 ≤ x) (fun x hx => hx.elim (fun h => h.elim) (fun h => by omega))).setCell (by simp) _).setCell (by simp) _).setCell (by simp) _).mono (fun x hx => by simp; omega)
  ·exact ((g2.setCell (by simp) _).setCell (by simp) _).setCell (by simp) _
open Go.RowKit
theorem hdS_zero {t : Tm} {f : Nat} (h : hstS t = none) : hdS f t = (some t, 0) := by rw [hdS, h]
theorem hdS_fuel {t u : Tm} (h : hstS t = some u) : hdS 0 t = (none, 1) := by rw [hdS, h]
theorem hdS_large {t u : Tm} {f : Nat} (h : hstS t = some u) (hv : validT u = false) : hdS (f + 1) t = (none, 2) := by rw [hdS, h]; simp [hv]
theorem hdS_more {t u : Tm} {f : Nat} (h : hstS t = some u) (hv : validT u = true) : hdS (f + 1) t = hdS f u := by rw [hdS, h]; simp [hv]
set_option maxHeartbeats 8000000 in
set_option maxRecDepth 100000 in
theorem sHead_any (k n : Int) (ks : List Tm) (A : Option Addr) (c : Nat) (F : Nat) (hF : F ≤ 1000) (w : World) (hv : validT (.mk k n ks) = true) (hl : ks.length ≤ 9223372036854775807) (hr : Rd w A 0 ks) :
  Calls Try.prog 83 #[.agg #[.int .i64 k, .int .i64 n, .slice A ks.length c], .int .i64 F] w (Normd (hdS F (.mk k n ks)) w) := by
 obtain ⟨R, hR⟩ : ∃ R, hdS F (.mk k n ks) = R := ⟨_, rfl⟩
 rw [hR]
 replace hR := hide hR
 go_enter Try.func83, Try.ntmps83
 go_wp2_with fail
 go_loopw [1] (fun fv wr => ∃ (f : Nat) (k n : Int) (ks : List Tm) (A : Option Addr) (c : Nat), f ≤ F ∧ Hid (hdS f (.mk k n ks) = R) ∧ fv = .int .i64 f ∧ validT (.mk k n ks) = true ∧ ks.length ≤ 9223372036854775807 ∧ Blk wr w.heap.size #[.int .i64 k, .int .i64 n, .slice A ks.length c] ∧ Blk wr (w.heap.size + 1) #[.int .i64 0, .int .i64 0, .slice none 0 0] ∧ RdP (fun b => b < w.heap.size ∨ w.heap.size + 2 ≤ b) wr A 0 ks ∧ Below w.heap.size w wr)
  (fun fv _ => (intOf fv).toNat)
 case atStart => exact ⟨F, k, n, ks, A, c, Nat.le_refl _, hR, rfl, hv, hl, (Blk.new_ _ _ _ rfl).alloc _, Blk.new_ _ _ _ (by simp), ((hr.rdp.alloc _).alloc _).mono (fun b hb => .inl hb), ((Below.refl _ _).alloc (by simp) _).alloc (by simp) _⟩
 case round =>
  clear hv hl hr hR
  obtain ⟨f, k, n, ks, A, c, hf, hRf, rfl, hv, hl, hB, hZ, hrd, hb⟩ := hrel
  have hsh := hide (validT_shape30 hv)
  have hM := validT_size' hv
  have hv' := hide hv
  clear hv
  obtain ⟨x0, x1, x2⟩ := hB.three
  have lz0 := hZ.lt
  have sb := hb.size
  cases hho : hstS (.mk k n ks) with
  | none =>
   obtain rfl : R = (some (.mk k n ks), 0) := by rw [← hRf.out, hdS_zero hho]
   have hst := hide hho
   clear hho
   go_wp2_with (first
    | (go_at_call 42; have _t := tok; refine (sCopy_any _ k n ks A c _ (Nat.lt_succ_self _) (by omega) hrd1.rd).mono ?_; rintro e w2 ⟨A3, c3, rfl, hl3, hf3, hb3⟩; replace hZ := hZ.keep hb3; clear d0 d1 d2 e0 e1 e2; obtain ⟨d0, d1, d2⟩ := hZ.three; have e0 := hZ.frozen 0; have e1 := hZ.frozen 1; have e2 := hZ.frozen 2; have g2 := g1.trans (hb3.mono g1.size))
    | (go_at_call 92; refine (sHeadStep_any 30 k n ks A c _ (Nat.le_refl _) hM hsh.out hrd.rd).mono ?_; rintro e w1 ⟨k3, n3, ks3, A9, c9, bb, hv3, hw3, rfl, hl9, hs3, hr3, hb9⟩; obtain rfl : bb = false := (by rw [hw3, hst.out]; rfl); clear hv3 hw3; replace hB := (hB.keep hb9).alloc (.cells #[.int .i64 k3, .int .i64 n3, .slice A9 ks3.length c9] 25); replace hZ := (hZ.keep hb9).alloc (.cells #[.int .i64 k3, .int .i64 n3, .slice A9 ks3.length c9] 25); have g1 := (hb.trans (hb9.mono hb.size)).alloc (by have := hb9.size; omega) (.cells #[.int .i64 k3, .int .i64 n3, .slice A9 ks3.length c9] 25); have hrd1 := (hrd.below hb9).alloc (.cells #[.int .i64 k3, .int .i64 n3, .slice A9 ks3.length c9] 25); clear x0 x1 x2; obtain ⟨x0, x1, x2⟩ := hB.three; obtain ⟨d0, d1, d2⟩ := hZ.three; have e0 := hZ.frozen 0; have e1 := hZ.frozen 1; have e2 := hZ.frozen 2; have s1 := g1.size; have s9 : w.heap.size + 2 ≤ w1.heap.size := (by have := hb9.size; omega); have tok := trivial))
   refine bodyPost_ret (v := .tuple #[.agg #[.int .i64 k, .int .i64 n, .slice A3 ks.length c3], .int .i64 0]) (by simp [results, Try.results83, go_sem, d0, d1, d2]) rfl ⟨k, n, ks, A3, c3, rfl, rfl, hl, ?_, ?_⟩
   ·exact (Fresh.rdp (((hf3.setCell (by simp; omega) _).setCell (by simp; omega) _).setCell (by simp; omega) _)).mono (fun b hb => by have := hb.1; simp at this; omega)
   ·exact ((g2.setCell (by simp) _).setCell (by simp) _).setCell (by simp) _
  | some u =>
   obtain ⟨ku, nu, us⟩ := u
   have hst := hide hho
   clear hho
   have STEP : True := trivial
   cases f with
   | zero =>
    obtain rfl : R = (none, 1) := by rw [← hRf.out, hdS_fuel hst.out]
    go_wp2_with (go_at_call 92; refine (sHeadStep_any 30 k n ks A c _ (Nat.le_refl _) hM hsh.out hrd.rd).mono ?_; rintro e w1 ⟨k3, n3, ks3, A3, c3, bb, hv3, hw3, rfl, hl3, hs3, hr3, hb3⟩; obtain rfl : bb = true := (by rw [hw3, hst.out]; rfl); obtain ⟨rfl, rfl, rfl⟩ : k3 = ku ∧ n3 = nu ∧ ks3 = us := (by have h := hv3; rw [hst.out] at h; injection h with q1 q2 q3; exact ⟨q1, q2, q3⟩); clear hv3 hw3; replace hB := (hB.keep hb3).alloc (.cells #[.int .i64 k3, .int .i64 n3, .slice A3 ks3.length c3] 25); replace hZ := (hZ.keep hb3).alloc (.cells #[.int .i64 k3, .int .i64 n3, .slice A3 ks3.length c3] 25); have s0 := hb3.size; have g1 := (hb.trans (hb3.mono hb.size)).alloc (by omega) (.cells #[.int .i64 k3, .int .i64 n3, .slice A3 ks3.length c3] 25); have hr4 := (hr3.alloc (.cells #[.int .i64 k3, .int .i64 n3, .slice A3 ks3.length c3] 25)).mono (q := fun b => w.heap.size + 2 ≤ b) (fun b hb => by simp at hb; omega); have hK := Blk.new_ w1 25 #[.int .i64 k3, .int .i64 n3, .slice A3 ks3.length c3] rfl; clear x0 x1 x2; obtain ⟨x0, x1, x2⟩ := hB.three; obtain ⟨y0, y1, y2⟩ := hK.three; obtain ⟨d0, d1, d2⟩ := hZ.three; have e0 := hZ.frozen 0; have e1 := hZ.frozen 1; have e2 := hZ.frozen 2; have s1 := g1.size; have tok := trivial)
    refine bodyPost_ret (v := .tuple #[.agg #[.int .i64 0, .int .i64 0, .slice none 0 0], .int .i64 1]) (by simp [results, Try.results83, go_sem, d0, d1, d2]) rfl ⟨0, 0, [], none, 0, rfl, rfl, by simp, RdP.nil, ?_⟩
    exact ((g1.setCell (by simp) _).setCell (by simp) _).setCell (by simp) _
   | succ f =>
    have qf : decide (((f + 1 : Nat) : Int) < 1) = false := decide_eq_false (by omega)
    have qg : decide ((f : Int) + 1 < 1) = false := decide_eq_false (by omega)
    cases hvu : validT (.mk ku nu us) with
    | false =>
     obtain rfl : R = (none, 2) := by rw [← hRf.out, hdS_large hst.out hvu]
     have hvv := hide hvu
     clear hvu
     go_wp2_with (first
      | (go_at_call 30; have _t := tok; refine (sTermValid_any k3 n3 ks3 A3 c3 _ (by omega) hr4.rd).mono ?_; rw [hvv.out]; rintro e w2 ⟨rfl, hb4⟩; replace hB := hB.keep hb4; replace hZ := hZ.keep hb4; replace hK := hK.keep hb4; have g2 := g1.trans (hb4.mono g1.size); have hr5 := hr4.below hb4; clear x0 x1 x2 y0 y1 y2 d0 d1 d2 e0 e1 e2; obtain ⟨x0, x1, x2⟩ := hB.three; obtain ⟨y0, y1, y2⟩ := hK.three; obtain ⟨d0, d1, d2⟩ := hZ.three; have e0 := hZ.frozen 0; have e1 := hZ.frozen 1; have e2 := hZ.frozen 2; have z0 := hB.frozen 0; have z1 := hB.frozen 1; have z2 := hB.frozen 2; have s2 := g2.size)
      | (go_at_call 92; refine (sHeadStep_any 30 k n ks A c _ (Nat.le_refl _) hM hsh.out hrd.rd).mono ?_; rintro e w1 ⟨k3, n3, ks3, A3, c3, bb, hv3, hw3, rfl, hl3, hs3, hr3, hb3⟩; obtain rfl : bb = true := (by rw [hw3, hst.out]; rfl); obtain ⟨rfl, rfl, rfl⟩ : k3 = ku ∧ n3 = nu ∧ ks3 = us := (by have h := hv3; rw [hst.out] at h; injection h with q1 q2 q3; exact ⟨q1, q2, q3⟩); clear hv3 hw3; replace hB := (hB.keep hb3).alloc (.cells #[.int .i64 k3, .int .i64 n3, .slice A3 ks3.length c3] 25); replace hZ := (hZ.keep hb3).alloc (.cells #[.int .i64 k3, .int .i64 n3, .slice A3 ks3.length c3] 25); have s0 := hb3.size; have g1 := (hb.trans (hb3.mono hb.size)).alloc (by omega) (.cells #[.int .i64 k3, .int .i64 n3, .slice A3 ks3.length c3] 25); have hr4 := (hr3.alloc (.cells #[.int .i64 k3, .int .i64 n3, .slice A3 ks3.length c3] 25)).mono (q := fun b => w.heap.size + 2 ≤ b) (fun b hb => by simp at hb; omega); have hK := Blk.new_ w1 25 #[.int .i64 k3, .int .i64 n3, .slice A3 ks3.length c3] rfl; clear x0 x1 x2; obtain ⟨x0, x1, x2⟩ := hB.three; obtain ⟨y0, y1, y2⟩ := hK.three; obtain ⟨d0, d1, d2⟩ := hZ.three; have e0 := hZ.frozen 0; have e1 := hZ.frozen 1; have e2 := hZ.frozen 2; have s1 := g1.size; have tok := trivial))
     refine bodyPost_ret (v := .tuple #[.agg #[.int .i64 0, .int .i64 0, .slice none 0 0], .int .i64 2]) (by simp [results, Try.results83, go_sem, d0, d1, d2]) rfl ⟨0, 0, [], none, 0, rfl, rfl, by simp, RdP.nil, ?_⟩
     exact ((g2.setCell (by simp) _).setCell (by simp) _).setCell (by simp) _
    | true =>
     have hRg := hide (show hdS f (.mk ku nu us) = R by rw [← hRf.out, hdS_more hst.out hvu])
     have hvv := hide hvu
     clear hvu
     go_wp2_with (first
      | (go_at_call 30; have _t := tok; refine (sTermValid_any k3 n3 ks3 A3 c3 _ (by omega) hr4.rd).mono ?_; rw [hvv.out]; rintro e w2 ⟨rfl, hb4⟩; replace hB := hB.keep hb4; replace hZ := hZ.keep hb4; replace hK := hK.keep hb4; have g2 := g1.trans (hb4.mono g1.size); have hr5 := hr4.below hb4; clear x0 x1 x2 y0 y1 y2 d0 d1 d2 e0 e1 e2; obtain ⟨x0, x1, x2⟩ := hB.three; obtain ⟨y0, y1, y2⟩ := hK.three; obtain ⟨d0, d1, d2⟩ := hZ.three; have e0 := hZ.frozen 0; have e1 := hZ.frozen 1; have e2 := hZ.frozen 2; have z0 := hB.frozen 0; have z1 := hB.frozen 1; have z2 := hB.frozen 2; have s2 := g2.size)
      | (go_at_call 92; refine (sHeadStep_any 30 k n ks A c _ (Nat.le_refl _) hM hsh.out hrd.rd).mono ?_; rintro e w1 ⟨k3, n3, ks3, A3, c3, bb, hv3, hw3, rfl, hl3, hs3, hr3, hb3⟩; obtain rfl : bb = true := (by rw [hw3, hst.out]; rfl); obtain ⟨rfl, rfl, rfl⟩ : k3 = ku ∧ n3 = nu ∧ ks3 = us := (by have h := hv3; rw [hst.out] at h; injection h with q1 q2 q3; exact ⟨q1, q2, q3⟩); clear hv3 hw3; replace hB := (hB.keep hb3).alloc (.cells #[.int .i64 k3, .int .i64 n3, .slice A3 ks3.length c3] 25); replace hZ := (hZ.keep hb3).alloc (.cells #[.int .i64 k3, .int .i64 n3, .slice A3 ks3.length c3] 25); have s0 := hb3.size; have g1 := (hb.trans (hb3.mono hb.size)).alloc (by omega) (.cells #[.int .i64 k3, .int .i64 n3, .slice A3 ks3.length c3] 25); have hr4 := (hr3.alloc (.cells #[.int .i64 k3, .int .i64 n3, .slice A3 ks3.length c3] 25)).mono (q := fun b => w.heap.size + 2 ≤ b) (fun b hb => by simp at hb; omega); have hK := Blk.new_ w1 25 #[.int .i64 k3, .int .i64 n3, .slice A3 ks3.length c3] rfl; clear x0 x1 x2; obtain ⟨x0, x1, x2⟩ := hB.three; obtain ⟨y0, y1, y2⟩ := hK.three; obtain ⟨d0, d1, d2⟩ := hZ.three; have e0 := hZ.frozen 0; have e1 := hZ.frozen 1; have e2 := hZ.frozen 2; have s1 := g1.size; have tok := trivial))
     refine ⟨⟨f, k3, n3, ks3, A3, c3, by omega, hRg, by go_num, hvv.out, hl3, ((hB.set_ 0 _).set_ 1 _).set_ 2 _, ((hZ.far (by simp) _).far (by simp) _).far (by simp) _, (((hr5.setCell (by simp) _).setCell (by simp) _).setCell (by simp) _).mono (fun b hb => .inr hb), ((g2.setCell (by simp) _).setCell (by simp) _).setCell (by simp) _⟩, by first | (simp [intOf]; done) | (simp [intOf]; omega)⟩
end Go.Proofs.Ytddkehjdjfmhmaa
