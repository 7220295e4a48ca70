/-
 Contracts of the functions that the law reaches, and plain lemmas. No condition.
-/
import Derived.Test.YtddkehjdjfmhmaaK6
import Derived.Test.YtddkehjdjfmhmaaK8
import Derived.Test.YtddkehjdjfmhmaaK16
import Derived.Test.YtddkehjdjfmhmaaK20
import Derived.Lib.SliceRun
namespace Go.Proofs.Ytddkehjdjfmhmaa
set_option linter.unusedSimpArgs false
set_option linter.unusedVariables false
open Go.RowKit
theorem rdp_ne {w : World} {z : Nat} (hZ : Blk w z #[.int .i64 0, .int .i64 0, .slice none 0 0]) : (∀ t d b off i, shape d t = true → RdC w b off i t → RdPC (· ≠ z) w b off i t) ∧ (∀ (ks : List Tm) d A i, (∀ t, t ∈ ks → shape d t = true) → Rd w A i ks → RdP (· ≠ z) w A i ks) := by
 refine Tm.ind2 (fun k n ks ih d b off i hs hr => ?_) (fun d A i _ _ => RdP.nil) (fun t ts h1 h2 d A i hs hr => ?_)
 ·obtain ⟨d, rfl⟩ : ∃ d', d = d' + 1 := by cases d with | zero => simp [shape] at hs | succ d => exact ⟨d, rfl⟩
  obtain ⟨ha, _, _, hk⟩ := (shape_split d k n ks).1 hs
  obtain ⟨c1, c2, A, c, c3, hl, hr'⟩ := RdC.iff.1 hr
  refine RdPC.iff.2 ⟨fun e => ?_, c1, c2, A, c, c3, hl, ih d A 0 hk hr'⟩
  subst e
  have h0 : k ≠ 0 := by rintro rfl; have : arity 0 = -1 := rfl; omega
  rw [hZ.cell] at c1
  generalize off + i * 3 = j at c1
  rcases j with _ | _ | _ | j
  ·simp at c1; exact h0 c1.symm
  ·simp at c1; exact h0 c1.symm
  ·simp at c1
  ·simp at c1
 ·obtain ⟨⟨b, off, e, hc⟩, hr'⟩ := Rd.cons_iff.1 hr
  exact RdP.cons_iff.2 ⟨⟨b, off, e, h1 d b off i (hs t (by simp)) hc⟩, h2 d A (i + 1) (fun u hu => hs u (by simp [hu])) hr'⟩
theorem rd_set0 {w : World} {z : Nat} {k n : Int} {ks : List Tm} {A : Option Addr} (hZ : Blk w z #[.int .i64 0, .int .i64 0, .slice none 0 0]) (hv : validT (.mk k n ks) = true) (hr : Rd w A 0 ks) (x y v : Value) :
  Rd (((w.setCell ⟨z, 0, none⟩ x).setCell ⟨z, 1, none⟩ y).setCell ⟨z, 2, none⟩ v) A 0 ks := by
 have hs := ((shape_split 29 k n ks).1 (validT_shape30 hv)).2.2.2
 exact (((((rdp_ne hZ).2 ks 29 A 0 hs hr).setCell (a := ⟨z, 0, none⟩) (fun h => h rfl) x).setCell (a := ⟨z, 1, none⟩) (fun h => h rfl) y).setCell (a := ⟨z, 2, none⟩) (fun h => h rfl) v).rd
def GotI (w : World) (k n : Int) (ks : List Tm) (e : Ending) (w' : World) : Prop :=
 ∃ A c, e = .returned (.tuple #[.agg #[.int .i64 k, .int .i64 n, .slice A ks.length c], .int .i64 0]) ∧ ks.length ≤ 9223372036854775807 ∧ Rd w' A 0 ks ∧ Below w.heap.size w w'
def GotN (w : World) (b : Bool) (e : Ending) (w' : World) : Prop :=
 ∃ (k n : Int) (A : Option Addr) (l c : Nat), e = .returned (.tuple #[.agg #[.int .i64 k, .int .i64 n, .slice A l c], .int .i64 (cdB b)]) ∧ Below w.heap.size w w'
def GtT (w : World) : Rs Tm → Ending → World → Prop
 | .ok (.mk k n ks) => GotI w k n ks
 | .no b => GotN w b
theorem hdR_ok {s o : Tm} (h : hdR s = .ok o) : hdS 200 s = (some o, 0) := by
 have := hdR_valid h
 rw [head_same 200 s this.1, this.2.2]
theorem red_code : ∀ (f : Nat) (t : Tm), (hdS f t).1 = none → (hdS f t).2 ≠ 0
 | f, t, h => by
  rw [hdS] at h ⊢
  cases hs : hstS t with
  | none => rw [hs] at h; cases h
  | some u =>
   rw [hs] at h
   cases f with
   | zero => simp
   | succ f =>
    simp only at h ⊢
    split at h
    ·rename_i hv; rw [if_pos hv]; exact red_code f u h
    ·rename_i hv; rw [if_neg hv]; simp
theorem hdR_no {s : Tm} {b : Bool} (hv : validT s = true) (h : hdR s = .no b) : b = false ∧ ∃ c, hdS 200 s = (none, c) ∧ c ≠ 0 := by
 unfold hdR at h
 rw [if_pos hv, ← head_same 200 s hv] at h
 have hc := red_code 200 s
 cases hh : hdS 200 s with
 | mk o c =>
  rw [hh] at h hc
  cases o with
  | some o => cases h
  | none => injection h with h; exact ⟨h.symm, c, rfl, hc rfl⟩
set_option maxRecDepth 100000 in
set_option maxHeartbeats 8000000 in
theorem sHd_any (k n : Int) (ks : List Tm) (A : Option Addr) (c : Nat) (w : World) (hv : validT (.mk k n ks) = true) (hr : Rd w A 0 ks) :
  Calls Try.prog 70 #[.agg #[.int .i64 k, .int .i64 n, .slice A ks.length c]] w (GtT w (hdR (.mk k n ks))) := by
 have hM := validT_size' hv
 have hlen := length_le_sizes ks
 have hv' := hide hv
 cases hR : hdR (.mk k n ks) with
 | ok o =>
  have hvo := hide (hdR_valid hR).2.1
  obtain ⟨ko, no, os⟩ := o
  have hh := hide (hdR_ok hR)
  clear hv hR
  go_enter Try.func70, Try.ntmps70
  go_wp2_with (first
   | (go_at_call 83; have _t := tok; refine (sHead_any k n ks A c 200 (by omega) _ hv'.out (by omega) (hr.below g1)).mono ?_; rw [hh.out]; rintro e w2 ⟨k3, n3, ks3, A3, c3, he3, rfl, hl3, hr3, hb3⟩; obtain ⟨rfl, rfl, rfl⟩ : k3 = ko ∧ n3 = no ∧ ks3 = os := (by injection he3 with q1 q2 q3; exact ⟨q1.symm, q2.symm, q3.symm⟩); replace hZ := (hZ.keep hb3).alloc (.cells #[.int .i64 k3, .int .i64 n3, .slice A3 ks3.length c3] 25); have hK := Blk.new_ w2 25 #[.int .i64 k3, .int .i64 n3, .slice A3 ks3.length c3] rfl; have s2 := hb3.size; have g2 := (g1.trans (hb3.mono g1.size)).alloc (by have := g1.size; omega) (.cells #[.int .i64 k3, .int .i64 n3, .slice A3 ks3.length c3] 25); have hr4 := hr3.rd.alloc (.cells #[.int .i64 k3, .int .i64 n3, .slice A3 ks3.length c3] 25); obtain ⟨y0, y1, y2⟩ := hK.three; clear d0 d1 d2 e0 e1 e2; obtain ⟨d0, d1, d2⟩ := hZ.three; have e0 := hZ.frozen 0; have e1 := hZ.frozen 1; have e2 := hZ.frozen 2; have s3 := g2.size)
   | (go_at_call 30; refine (sTermValid_any k n ks A c _ (by omega) ((hr.alloc _).alloc _)).mono ?_; rw [hv'.out]; rintro e w1 ⟨rfl, hb1⟩; have hB : Blk w1 w.heap.size #[.int .i64 k, .int .i64 n, .slice A ks.length c] := ((Blk.new_ w 25 _ rfl).alloc _).keep hb1; have hZ : Blk w1 (w.heap.size + 1) #[.int .i64 0, .int .i64 0, .slice none 0 0] := (Blk.new_ _ 25 _ (by simp)).keep hb1; have g1 : Below w.heap.size w w1 := (((Below.refl _ _).alloc (Nat.le_refl _) _).alloc (by simp) _).trans (hb1.mono (by simp; omega)); obtain ⟨x0, x1, x2⟩ := hB.three; obtain ⟨d0, d1, d2⟩ := hZ.three; have e0 := hZ.frozen 0; have e1 := hZ.frozen 1; have e2 := hZ.frozen 2; have s1 := hZ.lt; have tok := trivial))
  refine bodyPost_ret (v := .tuple #[.agg #[.int .i64 k3, .int .i64 n3, .slice A3 ks3.length c3], .int .i64 0]) (by simp [results, Try.results70, go_sem, d0, d1, d2]) rfl ⟨A3, c3, rfl, hl3, rd_set0 hZ hvo.out hr4 _ _ _, ?_⟩
  exact ((g2.setCell (by simp) _).setCell (by simp) _).setCell (by simp) _
 | no b =>
  obtain ⟨rfl, cc, hh0, hcc⟩ := hdR_no hv hR
  have hh := hide hh0
  have qc : (cc != 0) = true := by simpa using hcc
  clear hv hR hh0 hcc
  go_enter Try.func70, Try.ntmps70
  go_wp2_with (first
   | (go_at_call 83; have _t := tok; refine (sHead_any k n ks A c 200 (by omega) _ hv'.out (by omega) (hr.below g1)).mono ?_; rw [hh.out]; rintro e w2 ⟨k3, n3, ks3, A3, c3, he3, rfl, hl3, hr3, hb3⟩; replace hZ := (hZ.keep hb3).alloc (.cells #[.int .i64 k3, .int .i64 n3, .slice A3 ks3.length c3] 25); have hK := Blk.new_ w2 25 #[.int .i64 k3, .int .i64 n3, .slice A3 ks3.length c3] rfl; have s2 := hb3.size; have g2 := (g1.trans (hb3.mono g1.size)).alloc (by have := g1.size; omega) (.cells #[.int .i64 k3, .int .i64 n3, .slice A3 ks3.length c3] 25); obtain ⟨y0, y1, y2⟩ := hK.three; clear d0 d1 d2 e0 e1 e2; obtain ⟨d0, d1, d2⟩ := hZ.three; have e0 := hZ.frozen 0; have e1 := hZ.frozen 1; have e2 := hZ.frozen 2; have s3 := g2.size)
   | (go_at_call 30; refine (sTermValid_any k n ks A c _ (by omega) ((hr.alloc _).alloc _)).mono ?_; rw [hv'.out]; rintro e w1 ⟨rfl, hb1⟩; have hB : Blk w1 w.heap.size #[.int .i64 k, .int .i64 n, .slice A ks.length c] := ((Blk.new_ w 25 _ rfl).alloc _).keep hb1; have hZ : Blk w1 (w.heap.size + 1) #[.int .i64 0, .int .i64 0, .slice none 0 0] := (Blk.new_ _ 25 _ (by simp)).keep hb1; have g1 : Below w.heap.size w w1 := (((Below.refl _ _).alloc (Nat.le_refl _) _).alloc (by simp) _).trans (hb1.mono (by simp; omega)); obtain ⟨x0, x1, x2⟩ := hB.three; obtain ⟨d0, d1, d2⟩ := hZ.three; have e0 := hZ.frozen 0; have e1 := hZ.frozen 1; have e2 := hZ.frozen 2; have s1 := hZ.lt; have tok := trivial))
  refine bodyPost_ret (v := .tuple #[.agg #[.int .i64 0, .int .i64 0, .slice none 0 0], .int .i64 2]) (by simp [results, Try.results70, go_sem, d0, d1, d2]) rfl ⟨0, 0, none, 0, 0, rfl, ?_⟩
  exact ((g2.setCell (by simp) _).setCell (by simp) _).setCell (by simp) _
set_option maxRecDepth 100000 in
set_option maxHeartbeats 8000000 in
theorem sConv_any (k n : Int) (ks : List Tm) (A : Option Addr) (c : Nat) (k2 n2 : Int) (s2 : List Tm) (A2 : Option Addr) (c2 : Nat) (w : World) (hv : validT (.mk k n ks) = true) (hv2 : validT (.mk k2 n2 s2) = true) (hr : Rd w A 0 ks) (hr2 : Rd w A2 0 s2) :
  Calls Try.prog 98 #[.agg #[.int .i64 k, .int .i64 n, .slice A ks.length c], .agg #[.int .i64 k2, .int .i64 n2, .slice A2 s2.length c2], .int .i64 200] w fun e w' => e = .returned (.int .i64 (convI 200 (.mk k n ks) (.mk k2 n2 s2))) ∧ Below w.heap.size w w' := by
 have hM := validT_size' hv
 have hM2 := validT_size' hv2
 have hlen := length_le_sizes ks
 have hlen2 := length_le_sizes s2
 have hv' := hide hv
 have hv2' := hide hv2
 have en := norm_same 200 _ hv
 have en2 := norm_same 200 _ hv2
 obtain ⟨R1, hR1⟩ : ∃ R, normS 200 (.mk k n ks) = R := ⟨_, rfl⟩
 obtain ⟨R2, hR2⟩ : ∃ R, normS 200 (.mk k2 n2 s2) = R := ⟨_, rfl⟩
 obtain ⟨m, hm⟩ : ∃ m, convI 200 (.mk k n ks) (.mk k2 n2 s2) = m := ⟨_, rfl⟩
 rw [hm]
 rw [convI, ← en, ← en2, hR1, hR2] at hm
 clear en en2
 have P1 : True := trivial
 by_cases hsame : tmEq (.mk k n ks) (.mk k2 n2 s2) = true
 ·rw [if_pos hsame] at hm
  subst hm
  have hsm := hide hsame
  clear hv hv2 hsame hR1 hR2
  go_enter Try.func98, Try.ntmps98
  go_wp2_with (go_at_call 99; refine (sSame_any _ k n ks A c k2 n2 s2 A2 c2 _ (Nat.lt_succ_self _) (by omega) (by omega) ((hr.alloc _).alloc _) ((hr2.alloc _).alloc _)).mono ?_; rw [hsm.out]; rintro e w1 ⟨rfl, hb1⟩; have hB : Blk w1 w.heap.size #[.int .i64 k, .int .i64 n, .slice A ks.length c] := ((Blk.new_ w 25 _ rfl).alloc _).keep hb1; have hB2 : Blk w1 (w.heap.size + 1) #[.int .i64 k2, .int .i64 n2, .slice A2 s2.length c2] := (Blk.new_ _ 25 _ (by simp)).keep hb1; have g1 : Below w.heap.size w w1 := (((Below.refl _ _).alloc (Nat.le_refl _) _).alloc (by simp) _).trans (hb1.mono (by simp; omega)); obtain ⟨x0, x1, x2⟩ := hB.three; obtain ⟨z0, z1, z2⟩ := hB2.three; have s1 := hB2.lt; have tok := trivial)
  go_ret
  exact ⟨rfl, g1⟩
 rw [if_neg hsame] at hm
 have hsm := hide (Bool.eq_false_iff.2 hsame)
 have hR1' := hide hR1
 have hR2' := hide hR2
 clear hv hv2 hsame hR1 hR2
 by_cases hc1 : R1.2 = 0
 ·by_cases hc2 : R2.2 = 0
  ·rw [if_neg (by rintro (h | h); exact h hc1; exact h hc2)] at hm
   have q1 : (R1.2 != 0) = false := by simpa using hc1
   have q2 : (R2.2 != 0) = false := by simpa using hc2
   by_cases hse : tmEq (R1.1.getD (.mk 0 0 [])) (R2.1.getD (.mk 0 0 [])) = true
   ·rw [if_pos hse] at hm
    subst hm
    have hss := hide hse
    clear hse hc1 hc2
    go_enter Try.func98, Try.ntmps98
    go_wp2_with (first
     | (go_at_call 99; have _t := tok3; refine (sSame_any _ k3 n3 ks3 A3 c3 k4 n4 ks4 A4 c4 _ (Nat.lt_succ_self _) hl3 hl4 hr7 hr6).mono ?_; rw [← he3'.out, ← he4'.out, hss.out]; rintro e w5 ⟨rfl, hb5⟩; have g4 := g3.trans (hb5.mono g3.size))
     | (go_at_call 100; have _t := tok2; refine (sNorm_any contract3 k2 n2 s2 A2 c2 200 (by omega) _ hv2'.out (by omega) (hr2.below g2)).mono ?_; rw [hR2'.out]; rintro e w3 ⟨k4, n4, ks4, A4, c4, he4, rfl, hl4, hr5, hb4⟩; have he4' := hide he4; clear he4; replace hK := (hK.keep hb4).alloc (.cells #[.int .i64 k4, .int .i64 n4, .slice A4 ks4.length c4] 25); have hL := Blk.new_ w3 25 #[.int .i64 k4, .int .i64 n4, .slice A4 ks4.length c4] rfl; have g3 := (g2.trans (hb4.mono g2.size)).alloc (by have := hb4.size; omega) (.cells #[.int .i64 k4, .int .i64 n4, .slice A4 ks4.length c4] 25); have hr6 := hr5.rd.alloc (.cells #[.int .i64 k4, .int .i64 n4, .slice A4 ks4.length c4] 25); have hr7 := (hr4.below hb4).alloc (.cells #[.int .i64 k4, .int .i64 n4, .slice A4 ks4.length c4] 25); obtain ⟨y0, y1, y2⟩ := hK.three; obtain ⟨v0, v1, v2⟩ := hL.three; have s4' := g3.size; clear tok2; have tok3 := trivial)
     | (go_at_call 100; have _t := tok; refine (sNorm_any contract3 k n ks A c 200 (by omega) _ hv'.out (by omega) (hr.below g1)).mono ?_; rw [hR1'.out]; rintro e w2 ⟨k3, n3, ks3, A3, c3, he3, rfl, hl3, hr3, hb3⟩; have he3' := hide he3; clear he3; replace hB2 := (hB2.keep hb3).alloc (.cells #[.int .i64 k3, .int .i64 n3, .slice A3 ks3.length c3] 25); have hK := Blk.new_ w2 25 #[.int .i64 k3, .int .i64 n3, .slice A3 ks3.length c3] rfl; have s2' := hb3.size; have g2 := (g1.trans (hb3.mono g1.size)).alloc (by have := g1.size; omega) (.cells #[.int .i64 k3, .int .i64 n3, .slice A3 ks3.length c3] 25); have hr4 := hr3.rd.alloc (.cells #[.int .i64 k3, .int .i64 n3, .slice A3 ks3.length c3] 25); clear x0 x1 x2 z0 z1 z2; obtain ⟨z0, z1, z2⟩ := hB2.three; have s3' := g2.size; clear tok; have tok2 := trivial)
     | (go_at_call 99; refine (sSame_any _ k n ks A c k2 n2 s2 A2 c2 _ (Nat.lt_succ_self _) (by omega) (by omega) ((hr.alloc _).alloc _) ((hr2.alloc _).alloc _)).mono ?_; rw [hsm.out]; rintro e w1 ⟨rfl, hb1⟩; have hB : Blk w1 w.heap.size #[.int .i64 k, .int .i64 n, .slice A ks.length c] := ((Blk.new_ w 25 _ rfl).alloc _).keep hb1; have hB2 : Blk w1 (w.heap.size + 1) #[.int .i64 k2, .int .i64 n2, .slice A2 s2.length c2] := (Blk.new_ _ 25 _ (by simp)).keep hb1; have g1 : Below w.heap.size w w1 := (((Below.refl _ _).alloc (Nat.le_refl _) _).alloc (by simp) _).trans (hb1.mono (by simp; omega)); obtain ⟨x0, x1, x2⟩ := hB.three; obtain ⟨z0, z1, z2⟩ := hB2.three; have s1 := hB2.lt; have tok := trivial))
    go_ret
    exact ⟨rfl, g4⟩
   ·rw [if_neg hse] at hm
    subst hm
    have hss := hide (Bool.eq_false_iff.2 hse)
    clear hse hc1 hc2
    go_enter Try.func98, Try.ntmps98
    go_wp2_with (first
     | (go_at_call 99; have _t := tok3; refine (sSame_any _ k3 n3 ks3 A3 c3 k4 n4 ks4 A4 c4 _ (Nat.lt_succ_self _) hl3 hl4 hr7 hr6).mono ?_; rw [← he3'.out, ← he4'.out, hss.out]; rintro e w5 ⟨rfl, hb5⟩; have g4 := g3.trans (hb5.mono g3.size))
     | (go_at_call 100; have _t := tok2; refine (sNorm_any contract3 k2 n2 s2 A2 c2 200 (by omega) _ hv2'.out (by omega) (hr2.below g2)).mono ?_; rw [hR2'.out]; rintro e w3 ⟨k4, n4, ks4, A4, c4, he4, rfl, hl4, hr5, hb4⟩; have he4' := hide he4; clear he4; replace hK := (hK.keep hb4).alloc (.cells #[.int .i64 k4, .int .i64 n4, .slice A4 ks4.length c4] 25); have hL := Blk.new_ w3 25 #[.int .i64 k4, .int .i64 n4, .slice A4 ks4.length c4] rfl; have g3 := (g2.trans (hb4.mono g2.size)).alloc (by have := hb4.size; omega) (.cells #[.int .i64 k4, .int .i64 n4, .slice A4 ks4.length c4] 25); have hr6 := hr5.rd.alloc (.cells #[.int .i64 k4, .int .i64 n4, .slice A4 ks4.length c4] 25); have hr7 := (hr4.below hb4).alloc (.cells #[.int .i64 k4, .int .i64 n4, .slice A4 ks4.length c4] 25); obtain ⟨y0, y1, y2⟩ := hK.three; obtain ⟨v0, v1, v2⟩ := hL.three; have s4' := g3.size; clear tok2; have tok3 := trivial)
     | (go_at_call 100; have _t := tok; refine (sNorm_any contract3 k n ks A c 200 (by omega) _ hv'.out (by omega) (hr.below g1)).mono ?_; rw [hR1'.out]; rintro e w2 ⟨k3, n3, ks3, A3, c3, he3, rfl, hl3, hr3, hb3⟩; have he3' := hide he3; clear he3; replace hB2 := (hB2.keep hb3).alloc (.cells #[.int .i64 k3, .int .i64 n3, .slice A3 ks3.length c3] 25); have hK := Blk.new_ w2 25 #[.int .i64 k3, .int .i64 n3, .slice A3 ks3.length c3] rfl; have s2' := hb3.size; have g2 := (g1.trans (hb3.mono g1.size)).alloc (by have := g1.size; omega) (.cells #[.int .i64 k3, .int .i64 n3, .slice A3 ks3.length c3] 25); have hr4 := hr3.rd.alloc (.cells #[.int .i64 k3, .int .i64 n3, .slice A3 ks3.length c3] 25); clear x0 x1 x2 z0 z1 z2; obtain ⟨z0, z1, z2⟩ := hB2.three; have s3' := g2.size; clear tok; have tok2 := trivial)
     | (go_at_call 99; refine (sSame_any _ k n ks A c k2 n2 s2 A2 c2 _ (Nat.lt_succ_self _) (by omega) (by omega) ((hr.alloc _).alloc _) ((hr2.alloc _).alloc _)).mono ?_; rw [hsm.out]; rintro e w1 ⟨rfl, hb1⟩; have hB : Blk w1 w.heap.size #[.int .i64 k, .int .i64 n, .slice A ks.length c] := ((Blk.new_ w 25 _ rfl).alloc _).keep hb1; have hB2 : Blk w1 (w.heap.size + 1) #[.int .i64 k2, .int .i64 n2, .slice A2 s2.length c2] := (Blk.new_ _ 25 _ (by simp)).keep hb1; have g1 : Below w.heap.size w w1 := (((Below.refl _ _).alloc (Nat.le_refl _) _).alloc (by simp) _).trans (hb1.mono (by simp; omega)); obtain ⟨x0, x1, x2⟩ := hB.three; obtain ⟨z0, z1, z2⟩ := hB2.three; have s1 := hB2.lt; have tok := trivial))
    go_ret
    exact ⟨rfl, g4⟩
  ·rw [if_pos (.inr hc2)] at hm
   subst hm
   have q1 : (R1.2 != 0) = false := by simpa using hc1
   have q2 : (R2.2 != 0) = true := by simpa using hc2
   clear hc1 hc2
   go_enter Try.func98, Try.ntmps98
   go_wp2_with (first
    | (go_at_call 100; have _t := tok2; refine (sNorm_any contract3 k2 n2 s2 A2 c2 200 (by omega) _ hv2'.out (by omega) (hr2.below g2)).mono ?_; rw [hR2'.out]; rintro e w3 ⟨k4, n4, ks4, A4, c4, he4, rfl, hl4, hr5, hb4⟩; have he4' := hide he4; clear he4; replace hK := (hK.keep hb4).alloc (.cells #[.int .i64 k4, .int .i64 n4, .slice A4 ks4.length c4] 25); have hL := Blk.new_ w3 25 #[.int .i64 k4, .int .i64 n4, .slice A4 ks4.length c4] rfl; have g3 := (g2.trans (hb4.mono g2.size)).alloc (by have := hb4.size; omega) (.cells #[.int .i64 k4, .int .i64 n4, .slice A4 ks4.length c4] 25); have hr6 := hr5.rd.alloc (.cells #[.int .i64 k4, .int .i64 n4, .slice A4 ks4.length c4] 25); have hr7 := (hr4.below hb4).alloc (.cells #[.int .i64 k4, .int .i64 n4, .slice A4 ks4.length c4] 25); obtain ⟨y0, y1, y2⟩ := hK.three; obtain ⟨v0, v1, v2⟩ := hL.three; have s4' := g3.size; clear tok2; have tok3 := trivial)
    | (go_at_call 100; have _t := tok; refine (sNorm_any contract3 k n ks A c 200 (by omega) _ hv'.out (by omega) (hr.below g1)).mono ?_; rw [hR1'.out]; rintro e w2 ⟨k3, n3, ks3, A3, c3, he3, rfl, hl3, hr3, hb3⟩; have he3' := hide he3; clear he3; replace hB2 := (hB2.keep hb3).alloc (.cells #[.int .i64 k3, .int .i64 n3, .slice A3 ks3.length c3] 25); have hK := Blk.new_ w2 25 #[.int .i64 k3, .int .i64 n3, .slice A3 ks3.length c3] rfl; have s2' := hb3.size; have g2 := (g1.trans (hb3.mono g1.size)).alloc (by have := g1.size; omega) (.cells #[.int .i64 k3, .int .i64 n3, .slice A3 ks3.length c3] 25); have hr4 := hr3.rd.alloc (.cells #[.int .i64 k3, .int .i64 n3, .slice A3 ks3.length c3] 25); clear x0 x1 x2 z0 z1 z2; obtain ⟨z0, z1, z2⟩ := hB2.three; have s3' := g2.size; clear tok; have tok2 := trivial)
    | (go_at_call 99; refine (sSame_any _ k n ks A c k2 n2 s2 A2 c2 _ (Nat.lt_succ_self _) (by omega) (by omega) ((hr.alloc _).alloc _) ((hr2.alloc _).alloc _)).mono ?_; rw [hsm.out]; rintro e w1 ⟨rfl, hb1⟩; have hB : Blk w1 w.heap.size #[.int .i64 k, .int .i64 n, .slice A ks.length c] := ((Blk.new_ w 25 _ rfl).alloc _).keep hb1; have hB2 : Blk w1 (w.heap.size + 1) #[.int .i64 k2, .int .i64 n2, .slice A2 s2.length c2] := (Blk.new_ _ 25 _ (by simp)).keep hb1; have g1 : Below w.heap.size w w1 := (((Below.refl _ _).alloc (Nat.le_refl _) _).alloc (by simp) _).trans (hb1.mono (by simp; omega)); obtain ⟨x0, x1, x2⟩ := hB.three; obtain ⟨z0, z1, z2⟩ := hB2.three; have s1 := hB2.lt; have tok := trivial))
   go_ret
   exact ⟨rfl, g3⟩
 ·rw [if_pos (.inl hc1)] at hm
  subst hm
  have q1 : (R1.2 != 0) = true := by simpa using hc1
  clear hc1
  go_enter Try.func98, Try.ntmps98
  go_wp2_with (first
   | (go_at_call 100; have _t := tok2; refine (sNorm_any contract3 k2 n2 s2 A2 c2 200 (by omega) _ hv2'.out (by omega) (hr2.below g2)).mono ?_; rw [hR2'.out]; rintro e w3 ⟨k4, n4, ks4, A4, c4, he4, rfl, hl4, hr5, hb4⟩; have he4' := hide he4; clear he4; replace hK := (hK.keep hb4).alloc (.cells #[.int .i64 k4, .int .i64 n4, .slice A4 ks4.length c4] 25); have hL := Blk.new_ w3 25 #[.int .i64 k4, .int .i64 n4, .slice A4 ks4.length c4] rfl; have g3 := (g2.trans (hb4.mono g2.size)).alloc (by have := hb4.size; omega) (.cells #[.int .i64 k4, .int .i64 n4, .slice A4 ks4.length c4] 25); have hr6 := hr5.rd.alloc (.cells #[.int .i64 k4, .int .i64 n4, .slice A4 ks4.length c4] 25); have hr7 := (hr4.below hb4).alloc (.cells #[.int .i64 k4, .int .i64 n4, .slice A4 ks4.length c4] 25); obtain ⟨y0, y1, y2⟩ := hK.three; obtain ⟨v0, v1, v2⟩ := hL.three; have s4' := g3.size; clear tok2; have tok3 := trivial)
   | (go_at_call 100; have _t := tok; refine (sNorm_any contract3 k n ks A c 200 (by omega) _ hv'.out (by omega) (hr.below g1)).mono ?_; rw [hR1'.out]; rintro e w2 ⟨k3, n3, ks3, A3, c3, he3, rfl, hl3, hr3, hb3⟩; have he3' := hide he3; clear he3; replace hB2 := (hB2.keep hb3).alloc (.cells #[.int .i64 k3, .int .i64 n3, .slice A3 ks3.length c3] 25); have hK := Blk.new_ w2 25 #[.int .i64 k3, .int .i64 n3, .slice A3 ks3.length c3] rfl; have s2' := hb3.size; have g2 := (g1.trans (hb3.mono g1.size)).alloc (by have := g1.size; omega) (.cells #[.int .i64 k3, .int .i64 n3, .slice A3 ks3.length c3] 25); have hr4 := hr3.rd.alloc (.cells #[.int .i64 k3, .int .i64 n3, .slice A3 ks3.length c3] 25); clear x0 x1 x2 z0 z1 z2; obtain ⟨z0, z1, z2⟩ := hB2.three; have s3' := g2.size; clear tok; have tok2 := trivial)
   | (go_at_call 99; refine (sSame_any _ k n ks A c k2 n2 s2 A2 c2 _ (Nat.lt_succ_self _) (by omega) (by omega) ((hr.alloc _).alloc _) ((hr2.alloc _).alloc _)).mono ?_; rw [hsm.out]; rintro e w1 ⟨rfl, hb1⟩; have hB : Blk w1 w.heap.size #[.int .i64 k, .int .i64 n, .slice A ks.length c] := ((Blk.new_ w 25 _ rfl).alloc _).keep hb1; have hB2 : Blk w1 (w.heap.size + 1) #[.int .i64 k2, .int .i64 n2, .slice A2 s2.length c2] := (Blk.new_ _ 25 _ (by simp)).keep hb1; have g1 : Below w.heap.size w w1 := (((Below.refl _ _).alloc (Nat.le_refl _) _).alloc (by simp) _).trans (hb1.mono (by simp; omega)); obtain ⟨x0, x1, x2⟩ := hB.three; obtain ⟨z0, z1, z2⟩ := hB2.three; have s1 := hB2.lt; have tok := trivial))
  go_ret
  exact ⟨rfl, g3⟩
open Go.RowKit
section
variable {p : Nat → Prop} {w : World} {l : List Tm} {L : Option Addr} {cl g : Nat}
theorem wpList_append_listR (hg : w.heap[g]? = some (.cells #[] 25 (0, 0))) (hl : RdP p w L 0 l) (hp : ∀ b, p b → b < w.heap.size ∧ b ≠ g) {m : Nat} (hm : l.length = m) (hlen : m ≤ 1099511627776)
  {ops : Array Oper} {rest : List Oper} {o : Oper} {a : Act} {Q : Exit → Act → World → Prop} (hgd : o.guard = none) (s x : Operand)
  (ho : o.op = .call { callee := .builtin .append, args := #[s, x], argTypes := #[23, 23] }) (hs : a.eval s = .slice (some ⟨g, 0, none⟩) 0 0) (hx : a.eval x = .slice L m cl)
  (h : ∀ A' c' w', PartR p g w' (.slice A' m c') l → w.grownBy w' (some g) → wpList Try.prog ops Q rest (a.put o.dst (.slice A' m c')) w') :
  wpList Try.prog ops Q (o :: rest) a w := by
 subst hm
 refine wpList_plain hgd fun K hK => ?_
 obtain ⟨v', w', hrun, h2, h3⟩ := run_append_listR (cl := cl) hg hl hp hlen o.type
 unfold Oper.wp execOp
 simp only [ho, resolve, invoke, builtin, Sem.run_bind, Sem.run_pure, Result.andThen_ok, List.map_toArray, List.map_cons, List.map_nil, hs, hx, hrun]
 obtain ⟨A', c', rfl⟩ := h2.shape
 exact hK _ _ (h A' c' w' h2 h3)
end
open Go.RowKit
set_option maxRecDepth 100000 in
set_option maxHeartbeats 8000000 in
theorem sSameT_any (k n : Int) (ks : List Tm) (A : Option Addr) (c : Nat) (k2 n2 : Int) (s2 : List Tm) (A2 : Option Addr) (c2 : Nat) (w : World) (hv : validT (.mk k n ks) = true) (hs2 : sizes s2 ≤ 1000000) (hr : Rd w A 0 ks) (hr2 : Rd w A2 0 s2) :
  Calls Try.prog 93 #[.agg #[.int .i64 k, .int .i64 n, .slice A ks.length c], .agg #[.int .i64 k2, .int .i64 n2, .slice A2 s2.length c2]] w fun e w' => e = .returned (.int .i64 (smR (.mk k n ks) (.mk k2 n2 s2)).cd) ∧ Below w.heap.size w w' := by
 have hM := validT_size' hv
 have hv' := hide hv
 unfold smR
 cases hv2 : validT (.mk k2 n2 s2) with
 | false =>
  rw [if_neg (by rintro ⟨-, h⟩; cases h)]
  have hv2' := hide hv2
  clear hv hv2
  go_enter Try.func93, Try.ntmps93
  go_wp2_with (first
   | (go_at_call 30; have _t := tok; refine (sTermValid_any k2 n2 s2 A2 c2 _ (by omega) (hr2.below g1)).mono ?_; rw [hv2'.out]; rintro e w2 ⟨rfl, hb2⟩; have g2 := g1.trans (hb2.mono g1.size); have hB' := hB.keep hb2; have hB2' := hB2.keep hb2; clear x0 x1 x2 z0 z1 z2; obtain ⟨x0, x1, x2⟩ := hB'.three; obtain ⟨z0, z1, z2⟩ := hB2'.three; clear tok; have tok2 := trivial)
   | (go_at_call 30; refine (sTermValid_any k n ks A c _ (by omega) ((hr.alloc _).alloc _)).mono ?_; rw [hv'.out]; rintro e w1 ⟨rfl, hb1⟩; have hB : Blk w1 w.heap.size #[.int .i64 k, .int .i64 n, .slice A ks.length c] := ((Blk.new_ w 25 _ rfl).alloc _).keep hb1; have hB2 : Blk w1 (w.heap.size + 1) #[.int .i64 k2, .int .i64 n2, .slice A2 s2.length c2] := (Blk.new_ _ 25 _ (by simp)).keep hb1; have g1 : Below w.heap.size w w1 := (((Below.refl _ _).alloc (Nat.le_refl _) _).alloc (by simp) _).trans (hb1.mono (by simp; omega)); obtain ⟨x0, x1, x2⟩ := hB.three; obtain ⟨z0, z1, z2⟩ := hB2.three; have s1 := hB2.lt; have tok := trivial))
  go_ret
  exact ⟨rfl, g2⟩
 | true =>
  rw [if_pos ⟨hv, rfl⟩]
  have hv2' := hide hv2
  obtain ⟨m, hm⟩ : ∃ m, convI 200 (.mk k n ks) (.mk k2 n2 s2) = m := ⟨_, rfl⟩
  rw [hm]
  have hm' := hide hm
  clear hv hv2 hm
  by_cases h1 : m = 1
  ·subst h1
   rw [if_pos rfl]
   go_enter Try.func93, Try.ntmps93
   go_wp2_with (first
    | (go_at_call 98; have _t := tok2; refine (sConv_any k n ks A c k2 n2 s2 A2 c2 _ hv'.out hv2'.out (hr.below g2) (hr2.below g2)).mono ?_; rw [hm'.out]; rintro e w3 ⟨rfl, hb3⟩; have g3 := g2.trans (hb3.mono g2.size))
    | (go_at_call 30; have _t := tok; refine (sTermValid_any k2 n2 s2 A2 c2 _ (by omega) (hr2.below g1)).mono ?_; rw [hv2'.out]; rintro e w2 ⟨rfl, hb2⟩; have g2 := g1.trans (hb2.mono g1.size); have hB' := hB.keep hb2; have hB2' := hB2.keep hb2; clear x0 x1 x2 z0 z1 z2; obtain ⟨x0, x1, x2⟩ := hB'.three; obtain ⟨z0, z1, z2⟩ := hB2'.three; clear tok; have tok2 := trivial)
    | (go_at_call 30; refine (sTermValid_any k n ks A c _ (by omega) ((hr.alloc _).alloc _)).mono ?_; rw [hv'.out]; rintro e w1 ⟨rfl, hb1⟩; have hB : Blk w1 w.heap.size #[.int .i64 k, .int .i64 n, .slice A ks.length c] := ((Blk.new_ w 25 _ rfl).alloc _).keep hb1; have hB2 : Blk w1 (w.heap.size + 1) #[.int .i64 k2, .int .i64 n2, .slice A2 s2.length c2] := (Blk.new_ _ 25 _ (by simp)).keep hb1; have g1 : Below w.heap.size w w1 := (((Below.refl _ _).alloc (Nat.le_refl _) _).alloc (by simp) _).trans (hb1.mono (by simp; omega)); obtain ⟨x0, x1, x2⟩ := hB.three; obtain ⟨z0, z1, z2⟩ := hB2.three; have s1 := hB2.lt; have tok := trivial))
   go_ret
   exact ⟨rfl, g3⟩
  ·rw [if_neg h1]
   have q1 : (m == 1) = false := by simpa using h1
   by_cases h2 : m = 2
   ·subst h2
    rw [if_pos rfl]
    go_enter Try.func93, Try.ntmps93
    go_wp2_with (first
     | (go_at_call 98; have _t := tok2; refine (sConv_any k n ks A c k2 n2 s2 A2 c2 _ hv'.out hv2'.out (hr.below g2) (hr2.below g2)).mono ?_; rw [hm'.out]; rintro e w3 ⟨rfl, hb3⟩; have g3 := g2.trans (hb3.mono g2.size))
     | (go_at_call 30; have _t := tok; refine (sTermValid_any k2 n2 s2 A2 c2 _ (by omega) (hr2.below g1)).mono ?_; rw [hv2'.out]; rintro e w2 ⟨rfl, hb2⟩; have g2 := g1.trans (hb2.mono g1.size); have hB' := hB.keep hb2; have hB2' := hB2.keep hb2; clear x0 x1 x2 z0 z1 z2; obtain ⟨x0, x1, x2⟩ := hB'.three; obtain ⟨z0, z1, z2⟩ := hB2'.three; clear tok; have tok2 := trivial)
     | (go_at_call 30; refine (sTermValid_any k n ks A c _ (by omega) ((hr.alloc _).alloc _)).mono ?_; rw [hv'.out]; rintro e w1 ⟨rfl, hb1⟩; have hB : Blk w1 w.heap.size #[.int .i64 k, .int .i64 n, .slice A ks.length c] := ((Blk.new_ w 25 _ rfl).alloc _).keep hb1; have hB2 : Blk w1 (w.heap.size + 1) #[.int .i64 k2, .int .i64 n2, .slice A2 s2.length c2] := (Blk.new_ _ 25 _ (by simp)).keep hb1; have g1 : Below w.heap.size w w1 := (((Below.refl _ _).alloc (Nat.le_refl _) _).alloc (by simp) _).trans (hb1.mono (by simp; omega)); obtain ⟨x0, x1, x2⟩ := hB.three; obtain ⟨z0, z1, z2⟩ := hB2.three; have s1 := hB2.lt; have tok := trivial))
    go_ret
    exact ⟨rfl, g3⟩
   ·rw [if_neg h2]
    have q2 : (m == 2) = false := by simpa using h2
    go_enter Try.func93, Try.ntmps93
    go_wp2_with (first
     | (go_at_call 98; have _t := tok2; refine (sConv_any k n ks A c k2 n2 s2 A2 c2 _ hv'.out hv2'.out (hr.below g2) (hr2.below g2)).mono ?_; rw [hm'.out]; rintro e w3 ⟨rfl, hb3⟩; have g3 := g2.trans (hb3.mono g2.size))
     | (go_at_call 30; have _t := tok; refine (sTermValid_any k2 n2 s2 A2 c2 _ (by omega) (hr2.below g1)).mono ?_; rw [hv2'.out]; rintro e w2 ⟨rfl, hb2⟩; have g2 := g1.trans (hb2.mono g1.size); have hB' := hB.keep hb2; have hB2' := hB2.keep hb2; clear x0 x1 x2 z0 z1 z2; obtain ⟨x0, x1, x2⟩ := hB'.three; obtain ⟨z0, z1, z2⟩ := hB2'.three; clear tok; have tok2 := trivial)
     | (go_at_call 30; refine (sTermValid_any k n ks A c _ (by omega) ((hr.alloc _).alloc _)).mono ?_; rw [hv'.out]; rintro e w1 ⟨rfl, hb1⟩; have hB : Blk w1 w.heap.size #[.int .i64 k, .int .i64 n, .slice A ks.length c] := ((Blk.new_ w 25 _ rfl).alloc _).keep hb1; have hB2 : Blk w1 (w.heap.size + 1) #[.int .i64 k2, .int .i64 n2, .slice A2 s2.length c2] := (Blk.new_ _ 25 _ (by simp)).keep hb1; have g1 : Below w.heap.size w w1 := (((Below.refl _ _).alloc (Nat.le_refl _) _).alloc (by simp) _).trans (hb1.mono (by simp; omega)); obtain ⟨x0, x1, x2⟩ := hB.three; obtain ⟨z0, z1, z2⟩ := hB2.three; have s1 := hB2.lt; have tok := trivial))
    go_ret
    exact ⟨rfl, g3⟩
set_option maxRecDepth 100000 in
set_option maxHeartbeats 8000000 in
theorem sLarger_any (i j : Int) (w : World) : Calls Try.prog 84 #[.int .i64 i, .int .i64 j] w fun e w' => e = .returned (.int .i64 (if j < i then i else j)) ∧ Below w.heap.size w w' := by
 by_cases h : j < i
 ·rw [if_pos h]
  have q : decide (j < i) = true := decide_eq_true h
  go_enter Try.func84, Try.ntmps84
  go_wp2_with fail
  go_ret
  exact ⟨rfl, Below.refl _ _⟩
 ·rw [if_neg h]
  have q : decide (j < i) = false := decide_eq_false h
  go_enter Try.func84, Try.ntmps84
  go_wp2_with fail
  go_ret
  exact ⟨rfl, Below.refl _ _⟩
theorem PartR.ownB {lo : Nat → Prop} {B : Nat} {w : World} {v : Value} {ts : List Tm} (h : PartR lo B w v ts) : ∀ g, v.ownBlock = some g → B ≤ g := fun g hg => by
 obtain ⟨xs, h1, _⟩ := h
 exact (h1.lt g hg).1
def Emp (w : World) (g : Nat) : Prop := w.heap[g]? = some (.cells #[] 25 (0, 0)) ∧ g < w.heap.size
theorem Emp.below {w w' : World} {g : Nat} (h : Emp w g) (hb : Below w.heap.size w w') : Emp w' g := ⟨by rw [hb.block g h.2]; exact h.1, Nat.lt_of_lt_of_le h.2 hb.size⟩
def GotC5 (w : World) (ts : List Tm) (e : Ending) (w' : World) : Prop := ∃ D d, e = .returned (.slice D ts.length d) ∧ Rd w' D 0 ts ∧ Below w.heap.size w w'
set_option maxRecDepth 100000 in
set_option maxHeartbeats 8000000 in
theorem sPush_any (ctx : List Tm) (C : Option Addr) (cc : Nat) (k n : Int) (ks : List Tm) (A : Option Addr) (c : Nat) (w : World) (hm : ctx.length ≤ 1000) (hl : ks.length ≤ 9223372036854775807) (hrc : Rd w C 0 ctx) (hra : Rd w A 0 ks) :
  Calls Try.prog 54 #[.slice C ctx.length cc, .agg #[.int .i64 k, .int .i64 n, .slice A ks.length c]] w (GotC5 w (ctx ++ [.mk k n ks])) := by
 go_enter Try.func54, Try.ntmps54
 go_upto_region 1 with fail
 refine name_world ?_
 intro wx hwx
 have hT : Blk wx w.heap.size #[.int .i64 k, .int .i64 n, .slice A ks.length c] := by rw [hwx]; exact Blk.new_ _ 25 _ rfl
 have gx : Below w.heap.size w wx := by rw [hwx]; exact (Below.refl _ _).alloc (Nat.le_refl _) _
 clear hwx
 have rcx := (hrc.below gx).rdp
 have rax := (hra.below gx).rdp
 have v0 := rule_of hT.three.1
 have v1 := rule_of hT.three.2.1
 have v2 := rule_of hT.three.2.2
 obtain ⟨q0, hq0⟩ : ∃ q0, q0 = wx.drew := ⟨_, rfl⟩
 have bq0 : Below wx.heap.size wx q0 := by rw [hq0]; exact (Below.refl _ _).drew
 refine gC_start (fun w' => Below wx.heap.size wx w') [5, 6] 7 (by kernel_rfl) rfl ?_
 refine gC_take [1, 3] (f := 5) (l' := #[false, true, false, true, false, false, false]) (lT := [_, _]) (by rw [← hq0]; exact bq0) rfl (by kernel_rfl) (by kernel_rfl) (by kernel_rfl) rfl (fun _ _ d _ _ h => by cases d <;> exact h) ?_
 repeat ((first | ((refine takeY_skip (a' := ?_) ?_ ?_ ?_); (rotate_left); (· (simp [Region.wanted, yielded, Go.undef]; done))) | ((refine takeY_step (v := ?_) (a' := ?_) ?_ ?_ ?_ ?_); (rotate_left 2); (· (simp [Region.wanted, yielded, Go.undef]; done)); (· (intro w' hS'; go_simp; try (with_reducible rfl))))); (· (simp only [List.getElem_toArray, List.getElem_cons_zero, List.getElem_cons_succ, Act.put, List.setIfInBounds_toArray, List.set_cons_zero, List.set_cons_succ]; exact rfl)))
 refine takeY_nil ?_
 rw [← hq0]
 clear hq0
 refine gC_two (i := 0) (j := 4) (by kernel_rfl) rfl rfl ?_ ?_
 ·go_wp2_with fail
  refine name_midw ?_
  intro q1 hn
  have hbq1 : Below q0.heap.size q0 q1 := by rw [hn]; exact (Below.refl _ _).alloc (Nat.le_refl _) _
  have Eq1 : Emp q1 q0.heap.size := by rw [hn]; exact ⟨heap_alloc_new _ _, by simp⟩
  have seq1 : q0.heap.size < q1.heap.size := by rw [hn]; simp
  clear hn
  have bq1 : Below wx.heap.size wx q1 := bq0.trans (hbq1.mono bq0.size)
  have lq1 := hbq1.size
  refine mid_intro bq1 ?_
  refine gC_two (i := 2) (j := 4) (by kernel_rfl) rfl rfl ?_ ?_
  ·have lgq2 : q0.heap.size < q1.heap.size := Eq1.2
   refine wpList_append_listR (p := fun b => b < wx.heap.size) (g := q0.heap.size) (cl := cc) Eq1.1 (rcx.below bq1) (fun b hb => ⟨Nat.lt_of_lt_of_le hb bq1.size, by have := bq0.size; omega⟩) rfl (by omega) rfl _ _ rfl rfl rfl ?_
   intro C2 c2 q2 hPq2 hgq2
   have hbq2 : Below q0.heap.size q1 q2 := ⟨hgq2.os, hgq2.tape, hgq2.output, hgq2.size, fun k hk => hgq2.block k (by omega) (fun e => by injection e; omega)⟩
   have bq2 : Below wx.heap.size wx q2 := bq1.trans (hbq2.mono bq0.size)
   have lq2 := hbq2.size
   refine mid_intro bq2 ?_
   refine gC_one (i := 4) (by kernel_rfl) rfl ?_
   ·go_wp2_with fail
    refine name_midw ?_
    intro q3 hn
    have hbq3 : Below q2.heap.size q2 q3 := by rw [hn]; exact (Below.refl _ _).alloc (Nat.le_refl _) _
    have zq3 : Blk q3 q2.heap.size #[.int .i64 k, .int .i64 n, .slice A ks.length c] := by rw [hn]; exact Blk.new_ _ 25 _ rfl
    have seq3 : q2.heap.size < q3.heap.size := by rw [hn]; simp
    clear hn
    have Pq3 := hPq2.below hbq3
    have bq3 : Below wx.heap.size wx q3 := bq2.trans (hbq3.mono bq2.size)
    have lq3 := hbq3.size
    refine mid_intro bq3 ?_
    refine gC_end [5, 6] (lB := [_, _]) (by simp) (by kernel_rfl) (by kernel_rfl) rfl ?_
    have lB : q0.heap.size ≤ q3.heap.size := by have := lq3; omega
    have lA : wx.heap.size ≤ q0.heap.size := bq0.size
    refine wpList_append_rdW (lo := fun b => b < wx.heap.size) (B := q0.heap.size) (q := fun b => b < wx.heap.size) Pq3 lB (rax.below bq3) (fun b hb => ⟨.inl hb, Nat.lt_of_lt_of_le hb bq3.size, fun e => by have := Pq3.ownB b e; omega⟩) hl rfl (by omega) q2.heap.size 1 zq3 rfl _ _ rfl rfl rfl ?_
    intro A9 c9 w9 hp9 hb9 hg9 hn9
    obtain ⟨A8, c8, e8, r8⟩ := hp9.rd
    injection e8 with e81 e82 e83
    subst e81 e83
    have hlen9 : (ctx ++ [Tm.mk k n ks]).length = ctx.length + 1 := by simp
    simp only [List.getElem_toArray, List.getElem_cons_zero, List.getElem_cons_succ, Act.put, List.setIfInBounds_toArray, List.set_cons_zero, List.set_cons_succ]
    go_wp2_with fail
    go_ret
    exact ⟨A9, c9, by rw [hlen9]; rfl, r8.rd, (gx.trans (bq3.mono gx.size)).trans (hb9.mono (by have := gx.size; omega))⟩
  ·go_wp2_with fail
   refine name_midw ?_
   intro q4 hn
   have hbq4 : Below q1.heap.size q1 q4 := by rw [hn]; exact (Below.refl _ _).alloc (Nat.le_refl _) _
   have zq4 : Blk q4 q1.heap.size #[.int .i64 k, .int .i64 n, .slice A ks.length c] := by rw [hn]; exact Blk.new_ _ 25 _ rfl
   have seq4 : q1.heap.size < q4.heap.size := by rw [hn]; simp
   clear hn
   have Eq4 := Eq1.below hbq4
   have bq4 : Below wx.heap.size wx q4 := bq1.trans (hbq4.mono bq1.size)
   have lq4 := hbq4.size
   refine mid_intro bq4 ?_
   refine gC_one (i := 2) (by kernel_rfl) rfl ?_
   ·have lgq5 : q0.heap.size < q4.heap.size := Eq4.2
    refine wpList_append_listR (p := fun b => b < wx.heap.size) (g := q0.heap.size) (cl := cc) Eq4.1 (rcx.below bq4) (fun b hb => ⟨Nat.lt_of_lt_of_le hb bq4.size, by have := bq0.size; omega⟩) rfl (by omega) rfl _ _ rfl rfl rfl ?_
    intro C2 c2 q5 hPq5 hgq5
    have hbq5 : Below q0.heap.size q4 q5 := ⟨hgq5.os, hgq5.tape, hgq5.output, hgq5.size, fun k hk => hgq5.block k (by omega) (fun e => by injection e; omega)⟩
    have Kq5 := zq4.grown hgq5 (by simp; omega)
    have bq5 : Below wx.heap.size wx q5 := bq4.trans (hbq5.mono bq0.size)
    have lq5 := hbq5.size
    refine mid_intro bq5 ?_
    refine gC_end [5, 6] (lB := [_, _]) (by simp) (by kernel_rfl) (by kernel_rfl) rfl ?_
    have lB : q0.heap.size ≤ q5.heap.size := by have := lq5; omega
    have lA : wx.heap.size ≤ q0.heap.size := bq0.size
    refine wpList_append_rdW (lo := fun b => b < wx.heap.size) (B := q0.heap.size) (q := fun b => b < wx.heap.size) hPq5 lB (rax.below bq5) (fun b hb => ⟨.inl hb, Nat.lt_of_lt_of_le hb bq5.size, fun e => by have := hPq5.ownB b e; omega⟩) hl rfl (by omega) q1.heap.size 1 Kq5 rfl _ _ rfl rfl rfl ?_
    intro A9 c9 w9 hp9 hb9 hg9 hn9
    obtain ⟨A8, c8, e8, r8⟩ := hp9.rd
    injection e8 with e81 e82 e83
    subst e81 e83
    have hlen9 : (ctx ++ [Tm.mk k n ks]).length = ctx.length + 1 := by simp
    simp only [List.getElem_toArray, List.getElem_cons_zero, List.getElem_cons_succ, Act.put, List.setIfInBounds_toArray, List.set_cons_zero, List.set_cons_succ]
    go_wp2_with fail
    go_ret
    exact ⟨A9, c9, by rw [hlen9]; rfl, r8.rd, (gx.trans (bq5.mono gx.size)).trans (hb9.mono (by have := gx.size; omega))⟩
 ·go_wp2_with fail
  refine name_midw ?_
  intro q6 hn
  have hbq6 : Below q0.heap.size q0 q6 := by rw [hn]; exact (Below.refl _ _).alloc (Nat.le_refl _) _
  have zq6 : Blk q6 q0.heap.size #[.int .i64 k, .int .i64 n, .slice A ks.length c] := by rw [hn]; exact Blk.new_ _ 25 _ rfl
  have seq6 : q0.heap.size < q6.heap.size := by rw [hn]; simp
  clear hn
  have bq6 : Below wx.heap.size wx q6 := bq0.trans (hbq6.mono bq0.size)
  have lq6 := hbq6.size
  refine mid_intro bq6 ?_
  refine gC_one (i := 0) (by kernel_rfl) rfl ?_
  ·go_wp2_with fail
   refine name_midw ?_
   intro q7 hn
   have hbq7 : Below q6.heap.size q6 q7 := by rw [hn]; exact (Below.refl _ _).alloc (Nat.le_refl _) _
   have Eq7 : Emp q7 q6.heap.size := by rw [hn]; exact ⟨heap_alloc_new _ _, by simp⟩
   have seq7 : q6.heap.size < q7.heap.size := by rw [hn]; simp
   clear hn
   have Kq7 := zq6.keep hbq7
   have bq7 : Below wx.heap.size wx q7 := bq6.trans (hbq7.mono bq6.size)
   have lq7 := hbq7.size
   refine mid_intro bq7 ?_
   refine gC_one (i := 2) (by kernel_rfl) rfl ?_
   ·have lgq8 : q6.heap.size < q7.heap.size := Eq7.2
    refine wpList_append_listR (p := fun b => b < wx.heap.size) (g := q6.heap.size) (cl := cc) Eq7.1 (rcx.below bq7) (fun b hb => ⟨Nat.lt_of_lt_of_le hb bq7.size, by have := bq6.size; omega⟩) rfl (by omega) rfl _ _ rfl rfl rfl ?_
    intro C2 c2 q8 hPq8 hgq8
    have hbq8 : Below q6.heap.size q7 q8 := ⟨hgq8.os, hgq8.tape, hgq8.output, hgq8.size, fun k hk => hgq8.block k (by omega) (fun e => by injection e; omega)⟩
    have Kq8 := Kq7.grown hgq8 (by simp; omega)
    have bq8 : Below wx.heap.size wx q8 := bq7.trans (hbq8.mono bq6.size)
    have lq8 := hbq8.size
    refine mid_intro bq8 ?_
    refine gC_end [5, 6] (lB := [_, _]) (by simp) (by kernel_rfl) (by kernel_rfl) rfl ?_
    have lB : q6.heap.size ≤ q8.heap.size := by have := lq8; omega
    have lA : wx.heap.size ≤ q6.heap.size := bq6.size
    refine wpList_append_rdW (lo := fun b => b < wx.heap.size) (B := q6.heap.size) (q := fun b => b < wx.heap.size) hPq8 lB (rax.below bq8) (fun b hb => ⟨.inl hb, Nat.lt_of_lt_of_le hb bq8.size, fun e => by have := hPq8.ownB b e; omega⟩) hl rfl (by omega) q0.heap.size 1 Kq8 rfl _ _ rfl rfl rfl ?_
    intro A9 c9 w9 hp9 hb9 hg9 hn9
    obtain ⟨A8, c8, e8, r8⟩ := hp9.rd
    injection e8 with e81 e82 e83
    subst e81 e83
    have hlen9 : (ctx ++ [Tm.mk k n ks]).length = ctx.length + 1 := by simp
    simp only [List.getElem_toArray, List.getElem_cons_zero, List.getElem_cons_succ, Act.put, List.setIfInBounds_toArray, List.set_cons_zero, List.set_cons_succ]
    go_wp2_with fail
    go_ret
    exact ⟨A9, c9, by rw [hlen9]; rfl, r8.rd, (gx.trans (bq8.mono gx.size)).trans (hb9.mono (by have := gx.size; omega))⟩
end Go.Proofs.Ytddkehjdjfmhmaa
