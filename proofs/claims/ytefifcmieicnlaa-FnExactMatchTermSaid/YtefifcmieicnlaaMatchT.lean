/-
  MatchTerm of the reference and of the implementation. No condition.
-/
import Derived.Test.YtefifcmieicnlaaMatches
import Derived.Test.YtefifcmieicnlaaCont
namespace Go.Proofs.Ytefifcmieicnlaa
open Go.RowKit
set_option linter.unusedSimpArgs false
set_option linter.unusedVariables false

/-- what MatchTerm answers -/
def matchTS (p : Tm) (z : Int) (u : Tm) : Option (List Tm) := if validT p = true ∧ validT u = true ∧ 0 ≤ z ∧ z ≤ 6 then tryS z.toNat 0 p u else none
theorem lit_range {z : Int} (h : (Lit.int .i64 z).wf = true) : -9223372036854775808 ≤ z ∧ z ≤ 9223372036854775807 := by
  have h' : (decide ((-9223372036854775808 : Int) ≤ z) && decide (z ≤ 9223372036854775807)) = true := h
  simpa using h'

set_option maxHeartbeats 2000000 in
set_option maxRecDepth 100000 in
theorem sMatchTerm_any (k n : Int) (ks : List Tm) (A : Option Addr) (c : Nat) (z : Int) (hz : (Lit.int .i64 z).wf = true) (ku nu : Int) (us : List Tm) (U : Option Addr) (cu : Nat) (w : World) (hM : sizes ks ≤ 1048576) (hMu : sizes us ≤ 1048576) (hr : Rd w A 0 ks) (hru : Rd w U 0 us) :
    Calls Try.prog 40 #[.agg #[.int .i64 k, .int .i64 n, .slice A ks.length c], .int .i64 z, .agg #[.int .i64 ku, .int .i64 nu, .slice U us.length cu]] w (GotLO w (matchTS (.mk k n ks) z (.mk ku nu us))) := by
  have hzr := lit_range hz
  clear hz
  cases hvp : validT (.mk k n ks) with
  | false =>
    have hzz : matchTS (.mk k n ks) z (.mk ku nu us) = none := by rw [matchTS, if_neg]; rintro ⟨h, -⟩; rw [hvp] at h; cases h
    rw [hzz]
    clear hzz
    go_enter Try.func40, Try.ntmps40
    go_wp2_with (go_at_call 50; refine (sTermValid_any k n ks A c _ (by omega) ((hr.alloc _).alloc _)).mono ?_; rw [hvp]; rintro e w1 ⟨rfl, hb1⟩; have hB0 : Blk w1 w.heap.size #[.int .i64 k, .int .i64 n, .slice A ks.length c] := ((Blk.new_ w 29 #[.int .i64 k, .int .i64 n, .slice A ks.length c] rfl).alloc (.cells #[.int .i64 ku, .int .i64 nu, .slice U us.length cu] 29)).keep hb1; have hB1 : Blk w1 (w.heap.size + 1) #[.int .i64 ku, .int .i64 nu, .slice U us.length cu] := (Blk.new_ (w.alloc (.cells #[.int .i64 k, .int .i64 n, .slice A ks.length c] 29)) 29 #[.int .i64 ku, .int .i64 nu, .slice U us.length cu] (by simp)).keep hb1; have u0 := hB1.at_ (i := 0) rfl; have u1 := hB1.at_ (i := 1) rfl; have u2 := hB1.at_ (i := 2) rfl; replace hb1 : Below w.heap.size w w1 := (((Below.refl _ _).alloc (Nat.le_refl _) _).alloc (by simp) _).trans (hb1.mono (by simp; omega)))
    go_ret2
    exact ⟨_, _, rfl, Fresh.nil, hb1.alloc hb1.size _⟩
  | true =>
    cases hvu : validT (.mk ku nu us) with
    | false =>
      have hzz : matchTS (.mk k n ks) z (.mk ku nu us) = none := by rw [matchTS, if_neg]; rintro ⟨-, h, -⟩; rw [hvu] at h; cases h
      rw [hzz]
      clear hzz
      go_enter Try.func40, Try.ntmps40
      go_wp2_with (first | (go_at_call 50; refine (sTermValid_any ku nu us U cu _ (by omega) (hru.below hb1)).mono ?_; rw [hvu]; rintro e w2 ⟨rfl, hb2⟩; have hB02 := hB0.keep hb2; have hB12 := hB1.keep hb2; clear u0 u1 u2; have p0 := hB02.at_ (i := 0) rfl; have p1 := hB02.at_ (i := 1) rfl; have p2 := hB02.at_ (i := 2) rfl; have v0 := hB12.at_ (i := 0) rfl; have v1 := hB12.at_ (i := 1) rfl; have v2 := hB12.at_ (i := 2) rfl; replace hb2 : Below w.heap.size w w2 := hb1.trans (hb2.mono hb1.size)) | (go_at_call 50; refine (sTermValid_any k n ks A c _ (by omega) ((hr.alloc _).alloc _)).mono ?_; rw [hvp]; rintro e w1 ⟨rfl, hb1⟩; have hB0 : Blk w1 w.heap.size #[.int .i64 k, .int .i64 n, .slice A ks.length c] := ((Blk.new_ w 29 #[.int .i64 k, .int .i64 n, .slice A ks.length c] rfl).alloc (.cells #[.int .i64 ku, .int .i64 nu, .slice U us.length cu] 29)).keep hb1; have hB1 : Blk w1 (w.heap.size + 1) #[.int .i64 ku, .int .i64 nu, .slice U us.length cu] := (Blk.new_ (w.alloc (.cells #[.int .i64 k, .int .i64 n, .slice A ks.length c] 29)) 29 #[.int .i64 ku, .int .i64 nu, .slice U us.length cu] (by simp)).keep hb1; have u0 := hB1.at_ (i := 0) rfl; have u1 := hB1.at_ (i := 1) rfl; have u2 := hB1.at_ (i := 2) rfl; replace hb1 : Below w.heap.size w w1 := (((Below.refl _ _).alloc (Nat.le_refl _) _).alloc (by simp) _).trans (hb1.mono (by simp; omega))))
      go_ret2
      exact ⟨_, _, rfl, Fresh.nil, hb2.alloc hb2.size _⟩
    | true =>
      by_cases hzi : 0 ≤ z ∧ z ≤ 6
      · obtain ⟨m, rfl⟩ : ∃ m : Nat, z = (m : Int) := ⟨z.toNat, by omega⟩
        have hm : m ≤ 6 := by omega
        have q1 : decide ((m : Int) < 0) = false := decide_eq_false (by omega)
        have q2 : decide ((6 : Int) < (m : Int)) = false := decide_eq_false (by omega)
        have q3 : (decide (0 ≤ (m : Int)) && decide ((m : Int) ≤ 6)) = true := by simp; omega
        have hzz : matchTS (.mk k n ks) m (.mk ku nu us) = tryS m 0 (.mk k n ks) (.mk ku nu us) := by rw [matchTS, if_pos ⟨hvp, hvu, hzi⟩]; rfl
        rw [hzz]
        generalize hoo : tryS m 0 (.mk k n ks) (.mk ku nu us) = oo
        have hoo' := hide hoo
        clear hzz hoo
        go_enter Try.func40, Try.ntmps40
        go_wp2_with (first | (go_at_call 74; refine (sTry_any m hm 0 (by omega) k n ks A c ku nu us U cu _ hvp hvu (hr.below hb2) (hru.below hb2)).mono ?_; rw [hoo'.out]; rintro e w3 ⟨A3, c3, rfl, hf3, hb3⟩) | (go_at_call 50; refine (sTermValid_any ku nu us U cu _ (by omega) (hru.below hb1)).mono ?_; rw [hvu]; rintro e w2 ⟨rfl, hb2⟩; have hB02 := hB0.keep hb2; have hB12 := hB1.keep hb2; clear u0 u1 u2; have p0 := hB02.at_ (i := 0) rfl; have p1 := hB02.at_ (i := 1) rfl; have p2 := hB02.at_ (i := 2) rfl; have v0 := hB12.at_ (i := 0) rfl; have v1 := hB12.at_ (i := 1) rfl; have v2 := hB12.at_ (i := 2) rfl; replace hb2 : Below w.heap.size w w2 := hb1.trans (hb2.mono hb1.size)) | (go_at_call 50; refine (sTermValid_any k n ks A c _ (by omega) ((hr.alloc _).alloc _)).mono ?_; rw [hvp]; rintro e w1 ⟨rfl, hb1⟩; have hB0 : Blk w1 w.heap.size #[.int .i64 k, .int .i64 n, .slice A ks.length c] := ((Blk.new_ w 29 #[.int .i64 k, .int .i64 n, .slice A ks.length c] rfl).alloc (.cells #[.int .i64 ku, .int .i64 nu, .slice U us.length cu] 29)).keep hb1; have hB1 : Blk w1 (w.heap.size + 1) #[.int .i64 ku, .int .i64 nu, .slice U us.length cu] := (Blk.new_ (w.alloc (.cells #[.int .i64 k, .int .i64 n, .slice A ks.length c] 29)) 29 #[.int .i64 ku, .int .i64 nu, .slice U us.length cu] (by simp)).keep hb1; have u0 := hB1.at_ (i := 0) rfl; have u1 := hB1.at_ (i := 1) rfl; have u2 := hB1.at_ (i := 2) rfl; replace hb1 : Below w.heap.size w w1 := (((Below.refl _ _).alloc (Nat.le_refl _) _).alloc (by simp) _).trans (hb1.mono (by simp; omega))))
        go_ret2
        exact ⟨A3, c3, rfl, hf3.mono hb2.size, hb2.trans (hb3.mono hb2.size)⟩
      · have hzz : matchTS (.mk k n ks) z (.mk ku nu us) = none := by rw [matchTS, if_neg]; rintro ⟨-, -, h⟩; exact hzi h
        rw [hzz]
        clear hzz
        by_cases hz0 : z < 0
        · have q1 : decide (z < 0) = true := decide_eq_true hz0
          clear hzi hz0
          go_enter Try.func40, Try.ntmps40
          go_wp2_with (first | (go_at_call 50; refine (sTermValid_any ku nu us U cu _ (by omega) (hru.below hb1)).mono ?_; rw [hvu]; rintro e w2 ⟨rfl, hb2⟩; have hB02 := hB0.keep hb2; have hB12 := hB1.keep hb2; clear u0 u1 u2; have p0 := hB02.at_ (i := 0) rfl; have p1 := hB02.at_ (i := 1) rfl; have p2 := hB02.at_ (i := 2) rfl; have v0 := hB12.at_ (i := 0) rfl; have v1 := hB12.at_ (i := 1) rfl; have v2 := hB12.at_ (i := 2) rfl; replace hb2 : Below w.heap.size w w2 := hb1.trans (hb2.mono hb1.size)) | (go_at_call 50; refine (sTermValid_any k n ks A c _ (by omega) ((hr.alloc _).alloc _)).mono ?_; rw [hvp]; rintro e w1 ⟨rfl, hb1⟩; have hB0 : Blk w1 w.heap.size #[.int .i64 k, .int .i64 n, .slice A ks.length c] := ((Blk.new_ w 29 #[.int .i64 k, .int .i64 n, .slice A ks.length c] rfl).alloc (.cells #[.int .i64 ku, .int .i64 nu, .slice U us.length cu] 29)).keep hb1; have hB1 : Blk w1 (w.heap.size + 1) #[.int .i64 ku, .int .i64 nu, .slice U us.length cu] := (Blk.new_ (w.alloc (.cells #[.int .i64 k, .int .i64 n, .slice A ks.length c] 29)) 29 #[.int .i64 ku, .int .i64 nu, .slice U us.length cu] (by simp)).keep hb1; have u0 := hB1.at_ (i := 0) rfl; have u1 := hB1.at_ (i := 1) rfl; have u2 := hB1.at_ (i := 2) rfl; replace hb1 : Below w.heap.size w w1 := (((Below.refl _ _).alloc (Nat.le_refl _) _).alloc (by simp) _).trans (hb1.mono (by simp; omega))))
          go_ret2
          exact ⟨_, _, rfl, Fresh.nil, hb2.alloc hb2.size _⟩
        · have q1 : decide (z < 0) = false := decide_eq_false hz0
          have q2 : decide (6 < z) = true := decide_eq_true (by omega)
          clear hzi hz0
          go_enter Try.func40, Try.ntmps40
          go_wp2_with (first | (go_at_call 50; refine (sTermValid_any ku nu us U cu _ (by omega) (hru.below hb1)).mono ?_; rw [hvu]; rintro e w2 ⟨rfl, hb2⟩; have hB02 := hB0.keep hb2; have hB12 := hB1.keep hb2; clear u0 u1 u2; have p0 := hB02.at_ (i := 0) rfl; have p1 := hB02.at_ (i := 1) rfl; have p2 := hB02.at_ (i := 2) rfl; have v0 := hB12.at_ (i := 0) rfl; have v1 := hB12.at_ (i := 1) rfl; have v2 := hB12.at_ (i := 2) rfl; replace hb2 : Below w.heap.size w w2 := hb1.trans (hb2.mono hb1.size)) | (go_at_call 50; refine (sTermValid_any k n ks A c _ (by omega) ((hr.alloc _).alloc _)).mono ?_; rw [hvp]; rintro e w1 ⟨rfl, hb1⟩; have hB0 : Blk w1 w.heap.size #[.int .i64 k, .int .i64 n, .slice A ks.length c] := ((Blk.new_ w 29 #[.int .i64 k, .int .i64 n, .slice A ks.length c] rfl).alloc (.cells #[.int .i64 ku, .int .i64 nu, .slice U us.length cu] 29)).keep hb1; have hB1 : Blk w1 (w.heap.size + 1) #[.int .i64 ku, .int .i64 nu, .slice U us.length cu] := (Blk.new_ (w.alloc (.cells #[.int .i64 k, .int .i64 n, .slice A ks.length c] 29)) 29 #[.int .i64 ku, .int .i64 nu, .slice U us.length cu] (by simp)).keep hb1; have u0 := hB1.at_ (i := 0) rfl; have u1 := hB1.at_ (i := 1) rfl; have u2 := hB1.at_ (i := 2) rfl; replace hb1 : Below w.heap.size w w1 := (((Below.refl _ _).alloc (Nat.le_refl _) _).alloc (by simp) _).trans (hb1.mono (by simp; omega))))
          go_ret2
          exact ⟨_, _, rfl, Fresh.nil, hb2.alloc hb2.size _⟩

set_option maxHeartbeats 2000000 in
set_option maxRecDepth 100000 in
theorem iMatchTerm_any (k n : Int) (ks : List Tm) (A : Option Addr) (c : Nat) (z : Int) (hz : (Lit.int .i64 z).wf = true) (ku nu : Int) (us : List Tm) (U : Option Addr) (cu : Nat) (w : World) (hM : sizes ks ≤ 1048576) (hMu : sizes us ≤ 1048576) (hr : Rd w A 0 ks) (hru : Rd w U 0 us) :
    Calls Try.prog 41 #[.agg #[.int .i64 k, .int .i64 n, .slice A ks.length c], .int .i64 z, .agg #[.int .i64 ku, .int .i64 nu, .slice U us.length cu]] w (GotLO w (matchTS (.mk k n ks) z (.mk ku nu us))) := by
  have hzr := lit_range hz
  clear hz
  cases hvp : validT (.mk k n ks) with
  | false =>
    have hzz : matchTS (.mk k n ks) z (.mk ku nu us) = none := by rw [matchTS, if_neg]; rintro ⟨h, -⟩; rw [hvp] at h; cases h
    rw [hzz]
    clear hzz
    go_enter Try.func41, Try.ntmps41
    go_wp2_with (go_at_call 51; refine (iTermValid_any k n ks A c _ (by omega) ((hr.alloc _).alloc _)).mono ?_; rw [hvp]; rintro e w1 ⟨rfl, hb1⟩; have hB0 : Blk w1 w.heap.size #[.int .i64 k, .int .i64 n, .slice A ks.length c] := ((Blk.new_ w 29 #[.int .i64 k, .int .i64 n, .slice A ks.length c] rfl).alloc (.cells #[.int .i64 ku, .int .i64 nu, .slice U us.length cu] 29)).keep hb1; have hB1 : Blk w1 (w.heap.size + 1) #[.int .i64 ku, .int .i64 nu, .slice U us.length cu] := (Blk.new_ (w.alloc (.cells #[.int .i64 k, .int .i64 n, .slice A ks.length c] 29)) 29 #[.int .i64 ku, .int .i64 nu, .slice U us.length cu] (by simp)).keep hb1; have u0 := hB1.at_ (i := 0) rfl; have u1 := hB1.at_ (i := 1) rfl; have u2 := hB1.at_ (i := 2) rfl; replace hb1 : Below w.heap.size w w1 := (((Below.refl _ _).alloc (Nat.le_refl _) _).alloc (by simp) _).trans (hb1.mono (by simp; omega)))
    go_ret2
    exact ⟨none, 0, rfl, Fresh.nil, hb1⟩
  | true =>
    cases hvu : validT (.mk ku nu us) with
    | false =>
      have hzz : matchTS (.mk k n ks) z (.mk ku nu us) = none := by rw [matchTS, if_neg]; rintro ⟨-, h, -⟩; rw [hvu] at h; cases h
      rw [hzz]
      clear hzz
      go_enter Try.func41, Try.ntmps41
      go_wp2_with (first | (go_at_call 51; refine (iTermValid_any ku nu us U cu _ (by omega) (hru.below hb1)).mono ?_; rw [hvu]; rintro e w2 ⟨rfl, hb2⟩; have hB02 := hB0.keep hb2; have hB12 := hB1.keep hb2; clear u0 u1 u2; have p0 := hB02.at_ (i := 0) rfl; have p1 := hB02.at_ (i := 1) rfl; have p2 := hB02.at_ (i := 2) rfl; have v0 := hB12.at_ (i := 0) rfl; have v1 := hB12.at_ (i := 1) rfl; have v2 := hB12.at_ (i := 2) rfl; replace hb2 : Below w.heap.size w w2 := hb1.trans (hb2.mono hb1.size)) | (go_at_call 51; refine (iTermValid_any k n ks A c _ (by omega) ((hr.alloc _).alloc _)).mono ?_; rw [hvp]; rintro e w1 ⟨rfl, hb1⟩; have hB0 : Blk w1 w.heap.size #[.int .i64 k, .int .i64 n, .slice A ks.length c] := ((Blk.new_ w 29 #[.int .i64 k, .int .i64 n, .slice A ks.length c] rfl).alloc (.cells #[.int .i64 ku, .int .i64 nu, .slice U us.length cu] 29)).keep hb1; have hB1 : Blk w1 (w.heap.size + 1) #[.int .i64 ku, .int .i64 nu, .slice U us.length cu] := (Blk.new_ (w.alloc (.cells #[.int .i64 k, .int .i64 n, .slice A ks.length c] 29)) 29 #[.int .i64 ku, .int .i64 nu, .slice U us.length cu] (by simp)).keep hb1; have u0 := hB1.at_ (i := 0) rfl; have u1 := hB1.at_ (i := 1) rfl; have u2 := hB1.at_ (i := 2) rfl; replace hb1 : Below w.heap.size w w1 := (((Below.refl _ _).alloc (Nat.le_refl _) _).alloc (by simp) _).trans (hb1.mono (by simp; omega))))
      go_ret2
      exact ⟨none, 0, rfl, Fresh.nil, hb2⟩
    | true =>
      by_cases hzi : 0 ≤ z ∧ z ≤ 6
      · obtain ⟨m, rfl⟩ : ∃ m : Nat, z = (m : Int) := ⟨z.toNat, by omega⟩
        have hm : m ≤ 6 := by omega
        have q1 : decide ((m : Int) < 0) = false := decide_eq_false (by omega)
        have q2 : decide ((6 : Int) < (m : Int)) = false := decide_eq_false (by omega)
        have q3 : (decide (0 ≤ (m : Int)) && decide ((m : Int) ≤ 6)) = true := by simp; omega
        have hzz : matchTS (.mk k n ks) m (.mk ku nu us) = tryS m 0 (.mk k n ks) (.mk ku nu us) := by rw [matchTS, if_pos ⟨hvp, hvu, hzi⟩]; rfl
        rw [hzz]
        generalize hoo : tryS m 0 (.mk k n ks) (.mk ku nu us) = oo
        have hoo' := hide hoo
        clear hzz hoo
        go_enter Try.func41, Try.ntmps41
        go_wp2_with (first | (go_at_call 60; refine (isHoles_any _ _).mono ?_; rw [q3]; rintro e w3 ⟨rfl, rfl⟩) | (go_at_call 75; refine (iMatches_any m hm 0 (by omega) k n ks A c ku nu us U cu _ hvp hvu (hr.below hb2) (hru.below hb2)).mono ?_; rw [hoo'.out]; rintro e w3 ⟨A3, c3, rfl, hf3, hb3⟩) | (go_at_call 51; refine (iTermValid_any ku nu us U cu _ (by omega) (hru.below hb1)).mono ?_; rw [hvu]; rintro e w2 ⟨rfl, hb2⟩; have hB02 := hB0.keep hb2; have hB12 := hB1.keep hb2; clear u0 u1 u2; have p0 := hB02.at_ (i := 0) rfl; have p1 := hB02.at_ (i := 1) rfl; have p2 := hB02.at_ (i := 2) rfl; have v0 := hB12.at_ (i := 0) rfl; have v1 := hB12.at_ (i := 1) rfl; have v2 := hB12.at_ (i := 2) rfl; replace hb2 : Below w.heap.size w w2 := hb1.trans (hb2.mono hb1.size)) | (go_at_call 51; refine (iTermValid_any k n ks A c _ (by omega) ((hr.alloc _).alloc _)).mono ?_; rw [hvp]; rintro e w1 ⟨rfl, hb1⟩; have hB0 : Blk w1 w.heap.size #[.int .i64 k, .int .i64 n, .slice A ks.length c] := ((Blk.new_ w 29 #[.int .i64 k, .int .i64 n, .slice A ks.length c] rfl).alloc (.cells #[.int .i64 ku, .int .i64 nu, .slice U us.length cu] 29)).keep hb1; have hB1 : Blk w1 (w.heap.size + 1) #[.int .i64 ku, .int .i64 nu, .slice U us.length cu] := (Blk.new_ (w.alloc (.cells #[.int .i64 k, .int .i64 n, .slice A ks.length c] 29)) 29 #[.int .i64 ku, .int .i64 nu, .slice U us.length cu] (by simp)).keep hb1; have u0 := hB1.at_ (i := 0) rfl; have u1 := hB1.at_ (i := 1) rfl; have u2 := hB1.at_ (i := 2) rfl; replace hb1 : Below w.heap.size w w1 := (((Below.refl _ _).alloc (Nat.le_refl _) _).alloc (by simp) _).trans (hb1.mono (by simp; omega))))
        go_ret2
        exact ⟨A3, c3, rfl, hf3.mono hb2.size, hb2.trans (hb3.mono hb2.size)⟩
      · have hzz : matchTS (.mk k n ks) z (.mk ku nu us) = none := by rw [matchTS, if_neg]; rintro ⟨-, -, h⟩; exact hzi h
        rw [hzz]
        clear hzz
        have q3 : (decide (0 ≤ z) && decide (z ≤ 6)) = false := by cases h : (decide (0 ≤ z) && decide (z ≤ 6)) with | false => rfl | true => exact absurd (by simpa using h) hzi
        clear hzi
        go_enter Try.func41, Try.ntmps41
        go_wp2_with (first | (go_at_call 60; refine (isHoles_any _ _).mono ?_; rw [q3]; rintro e w3 ⟨rfl, rfl⟩) | (go_at_call 51; refine (iTermValid_any ku nu us U cu _ (by omega) (hru.below hb1)).mono ?_; rw [hvu]; rintro e w2 ⟨rfl, hb2⟩; have hB02 := hB0.keep hb2; have hB12 := hB1.keep hb2; clear u0 u1 u2; have p0 := hB02.at_ (i := 0) rfl; have p1 := hB02.at_ (i := 1) rfl; have p2 := hB02.at_ (i := 2) rfl; have v0 := hB12.at_ (i := 0) rfl; have v1 := hB12.at_ (i := 1) rfl; have v2 := hB12.at_ (i := 2) rfl; replace hb2 : Below w.heap.size w w2 := hb1.trans (hb2.mono hb1.size)) | (go_at_call 51; refine (iTermValid_any k n ks A c _ (by omega) ((hr.alloc _).alloc _)).mono ?_; rw [hvp]; rintro e w1 ⟨rfl, hb1⟩; have hB0 : Blk w1 w.heap.size #[.int .i64 k, .int .i64 n, .slice A ks.length c] := ((Blk.new_ w 29 #[.int .i64 k, .int .i64 n, .slice A ks.length c] rfl).alloc (.cells #[.int .i64 ku, .int .i64 nu, .slice U us.length cu] 29)).keep hb1; have hB1 : Blk w1 (w.heap.size + 1) #[.int .i64 ku, .int .i64 nu, .slice U us.length cu] := (Blk.new_ (w.alloc (.cells #[.int .i64 k, .int .i64 n, .slice A ks.length c] 29)) 29 #[.int .i64 ku, .int .i64 nu, .slice U us.length cu] (by simp)).keep hb1; have u0 := hB1.at_ (i := 0) rfl; have u1 := hB1.at_ (i := 1) rfl; have u2 := hB1.at_ (i := 2) rfl; replace hb1 : Below w.heap.size w w1 := (((Below.refl _ _).alloc (Nat.le_refl _) _).alloc (by simp) _).trans (hb1.mono (by simp; omega))))
        go_ret2
        exact ⟨none, 0, rfl, Fresh.nil, hb2⟩
end Go.Proofs.Ytefifcmieicnlaa
