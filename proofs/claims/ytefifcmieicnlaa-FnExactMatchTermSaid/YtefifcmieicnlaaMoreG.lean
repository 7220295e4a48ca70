/-
  MoreGeneral of the reference and of the implementation. No condition.
-/
import Derived.Test.YtefifcmieicnlaaMatchT
namespace Go.Proofs.Ytefifcmieicnlaa
open Go.RowKit
set_option linter.unusedSimpArgs false
set_option linter.unusedVariables false

/-- what MoreGeneral answers -/
def moreS (p : Tm) (z : Int) (u : Tm) (y : Int) : Bool := if validT p = true ∧ validT u = true ∧ (0 ≤ z ∧ z ≤ 6) ∧ (0 ≤ y ∧ y ≤ 6) then (tryS z.toNat y p u).isSome else false

set_option maxHeartbeats 2000000 in
set_option maxRecDepth 100000 in
theorem sMoreGeneral_any (k n : Int) (ks : List Tm) (A : Option Addr) (c : Nat) (z : Int) (ku nu : Int) (us : List Tm) (U : Option Addr) (cu : Nat) (y : Int) (w : World) (hz : (Lit.int .i64 z).wf = true) (hy : (Lit.int .i64 y).wf = true) (hM : sizes ks ≤ 1048576) (hMu : sizes us ≤ 1048576) (hr : Rd w A 0 ks) (hru : Rd w U 0 us) :
    Calls Try.prog 38 #[.agg #[.int .i64 k, .int .i64 n, .slice A ks.length c], .int .i64 z, .agg #[.int .i64 ku, .int .i64 nu, .slice U us.length cu], .int .i64 y] w fun e w' => e = .returned (.bool (moreS (.mk k n ks) z (.mk ku nu us) y)) ∧ Below w.heap.size w w' := by
  have hzr := lit_range hz
  have hyr := lit_range hy
  clear hz hy
  by_cases hall : validT (.mk k n ks) = true ∧ validT (.mk ku nu us) = true ∧ (0 ≤ z ∧ z ≤ 6) ∧ (0 ≤ y ∧ y ≤ 6)
  · obtain ⟨hvp, hvu, hzi, hyi⟩ := hall
    have hmm : moreS (.mk k n ks) z (.mk ku nu us) y = (tryS z.toNat y (.mk k n ks) (.mk ku nu us)).isSome := by rw [moreS, if_pos ⟨hvp, hvu, hzi, hyi⟩]
    obtain ⟨m, rfl⟩ : ∃ m : Nat, z = (m : Int) := ⟨z.toNat, by omega⟩
    rw [hmm, Int.toNat_natCast]
    have hm : m ≤ 6 := by omega
    have q1 : decide ((m : Int) < 0) = false := decide_eq_false (by omega)
    have q2 : decide ((6 : Int) < (m : Int)) = false := decide_eq_false (by omega)
    have q3 : (decide (0 ≤ (m : Int)) && decide ((m : Int) ≤ 6)) = true := by simp; omega
    have q4 : decide (y < 0) = false := decide_eq_false (by omega)
    have q5 : decide (6 < y) = false := decide_eq_false (by omega)
    have q6 : (decide (0 ≤ y) && decide (y ≤ 6)) = true := by simp; omega
    generalize hoo : tryS m y (.mk k n ks) (.mk ku nu us) = oo
    have hoo' := hide hoo
    clear hmm hoo
    go_enter Try.func38, Try.ntmps38
    go_wp2_with (first | (go_at_call 74; refine (sTry_any m hm y hyi k n ks A c ku nu us U cu _ hvp hvu (hr.below hb2) (hru.below hb2)).mono ?_; rw [hoo'.out]; rintro e w3 ⟨A3, c3, rfl, hf3, hb3⟩) | (go_at_call 50; refine (sTermValid_any ku nu us U cu _ (by omega) (hru.below hb1)).mono ?_; rw [hvu]; rintro e w2 ⟨rfl, hb2⟩; have hB02 := hB0.keep hb2; have hB12 := hB1.keep hb2; clear u0 u1 u2; have p0 := hB02.at_ (i := 0) rfl; have p1 := hB02.at_ (i := 1) rfl; have p2 := hB02.at_ (i := 2) rfl; have v0 := hB12.at_ (i := 0) rfl; have v1 := hB12.at_ (i := 1) rfl; have v2 := hB12.at_ (i := 2) rfl; replace hb2 : Below w.heap.size w w2 := hb1.trans (hb2.mono hb1.size)) | (go_at_call 50; refine (sTermValid_any k n ks A c _ (by omega) ((hr.alloc _).alloc _)).mono ?_; rw [hvp]; rintro e w1 ⟨rfl, hb1⟩; have hB0 : Blk w1 w.heap.size #[.int .i64 k, .int .i64 n, .slice A ks.length c] := ((Blk.new_ w 29 #[.int .i64 k, .int .i64 n, .slice A ks.length c] rfl).alloc (.cells #[.int .i64 ku, .int .i64 nu, .slice U us.length cu] 29)).keep hb1; have hB1 : Blk w1 (w.heap.size + 1) #[.int .i64 ku, .int .i64 nu, .slice U us.length cu] := (Blk.new_ (w.alloc (.cells #[.int .i64 k, .int .i64 n, .slice A ks.length c] 29)) 29 #[.int .i64 ku, .int .i64 nu, .slice U us.length cu] (by simp)).keep hb1; have u0 := hB1.at_ (i := 0) rfl; have u1 := hB1.at_ (i := 1) rfl; have u2 := hB1.at_ (i := 2) rfl; replace hb1 : Below w.heap.size w w1 := (((Below.refl _ _).alloc (Nat.le_refl _) _).alloc (by simp) _).trans (hb1.mono (by simp; omega))))
    go_ret
    exact ⟨rfl, hb2.trans (hb3.mono hb2.size)⟩
  · rw [moreS, if_neg hall]
    cases hvp : validT (.mk k n ks) with
    | false =>
      clear hall
      go_enter Try.func38, Try.ntmps38
      go_wp2_with (go_at_call 50; refine (sTermValid_any k n ks A c _ (by omega) ((hr.alloc _).alloc _)).mono ?_; rw [hvp]; rintro e w1 ⟨rfl, hb1⟩; have hB0 : Blk w1 w.heap.size #[.int .i64 k, .int .i64 n, .slice A ks.length c] := ((Blk.new_ w 29 #[.int .i64 k, .int .i64 n, .slice A ks.length c] rfl).alloc (.cells #[.int .i64 ku, .int .i64 nu, .slice U us.length cu] 29)).keep hb1; have hB1 : Blk w1 (w.heap.size + 1) #[.int .i64 ku, .int .i64 nu, .slice U us.length cu] := (Blk.new_ (w.alloc (.cells #[.int .i64 k, .int .i64 n, .slice A ks.length c] 29)) 29 #[.int .i64 ku, .int .i64 nu, .slice U us.length cu] (by simp)).keep hb1; have u0 := hB1.at_ (i := 0) rfl; have u1 := hB1.at_ (i := 1) rfl; have u2 := hB1.at_ (i := 2) rfl; replace hb1 : Below w.heap.size w w1 := (((Below.refl _ _).alloc (Nat.le_refl _) _).alloc (by simp) _).trans (hb1.mono (by simp; omega)))
      go_ret
      exact ⟨rfl, hb1⟩
    | true =>
      cases hvu : validT (.mk ku nu us) with
      | false =>
        clear hall
        go_enter Try.func38, Try.ntmps38
        go_wp2_with (first | (go_at_call 50; refine (sTermValid_any ku nu us U cu _ (by omega) (hru.below hb1)).mono ?_; rw [hvu]; rintro e w2 ⟨rfl, hb2⟩; have hB02 := hB0.keep hb2; have hB12 := hB1.keep hb2; clear u0 u1 u2; have p0 := hB02.at_ (i := 0) rfl; have p1 := hB02.at_ (i := 1) rfl; have p2 := hB02.at_ (i := 2) rfl; have v0 := hB12.at_ (i := 0) rfl; have v1 := hB12.at_ (i := 1) rfl; have v2 := hB12.at_ (i := 2) rfl; replace hb2 : Below w.heap.size w w2 := hb1.trans (hb2.mono hb1.size)) | (go_at_call 50; refine (sTermValid_any k n ks A c _ (by omega) ((hr.alloc _).alloc _)).mono ?_; rw [hvp]; rintro e w1 ⟨rfl, hb1⟩; have hB0 : Blk w1 w.heap.size #[.int .i64 k, .int .i64 n, .slice A ks.length c] := ((Blk.new_ w 29 #[.int .i64 k, .int .i64 n, .slice A ks.length c] rfl).alloc (.cells #[.int .i64 ku, .int .i64 nu, .slice U us.length cu] 29)).keep hb1; have hB1 : Blk w1 (w.heap.size + 1) #[.int .i64 ku, .int .i64 nu, .slice U us.length cu] := (Blk.new_ (w.alloc (.cells #[.int .i64 k, .int .i64 n, .slice A ks.length c] 29)) 29 #[.int .i64 ku, .int .i64 nu, .slice U us.length cu] (by simp)).keep hb1; have u0 := hB1.at_ (i := 0) rfl; have u1 := hB1.at_ (i := 1) rfl; have u2 := hB1.at_ (i := 2) rfl; replace hb1 : Below w.heap.size w w1 := (((Below.refl _ _).alloc (Nat.le_refl _) _).alloc (by simp) _).trans (hb1.mono (by simp; omega))))
        go_ret
        exact ⟨rfl, hb2⟩
      | true =>
        by_cases h1 : z < 0
        · have q1 : decide (z < 0) = true := decide_eq_true h1
          clear hall h1
          go_enter Try.func38, Try.ntmps38
          go_wp2_with (first | (go_at_call 50; refine (sTermValid_any ku nu us U cu _ (by omega) (hru.below hb1)).mono ?_; rw [hvu]; rintro e w2 ⟨rfl, hb2⟩; have hB02 := hB0.keep hb2; have hB12 := hB1.keep hb2; clear u0 u1 u2; have p0 := hB02.at_ (i := 0) rfl; have p1 := hB02.at_ (i := 1) rfl; have p2 := hB02.at_ (i := 2) rfl; have v0 := hB12.at_ (i := 0) rfl; have v1 := hB12.at_ (i := 1) rfl; have v2 := hB12.at_ (i := 2) rfl; replace hb2 : Below w.heap.size w w2 := hb1.trans (hb2.mono hb1.size)) | (go_at_call 50; refine (sTermValid_any k n ks A c _ (by omega) ((hr.alloc _).alloc _)).mono ?_; rw [hvp]; rintro e w1 ⟨rfl, hb1⟩; have hB0 : Blk w1 w.heap.size #[.int .i64 k, .int .i64 n, .slice A ks.length c] := ((Blk.new_ w 29 #[.int .i64 k, .int .i64 n, .slice A ks.length c] rfl).alloc (.cells #[.int .i64 ku, .int .i64 nu, .slice U us.length cu] 29)).keep hb1; have hB1 : Blk w1 (w.heap.size + 1) #[.int .i64 ku, .int .i64 nu, .slice U us.length cu] := (Blk.new_ (w.alloc (.cells #[.int .i64 k, .int .i64 n, .slice A ks.length c] 29)) 29 #[.int .i64 ku, .int .i64 nu, .slice U us.length cu] (by simp)).keep hb1; have u0 := hB1.at_ (i := 0) rfl; have u1 := hB1.at_ (i := 1) rfl; have u2 := hB1.at_ (i := 2) rfl; replace hb1 : Below w.heap.size w w1 := (((Below.refl _ _).alloc (Nat.le_refl _) _).alloc (by simp) _).trans (hb1.mono (by simp; omega))))
          go_ret
          exact ⟨rfl, hb2⟩
        · have q1 : decide (z < 0) = false := decide_eq_false h1
          by_cases h2 : 6 < z
          · have q2 : decide (6 < z) = true := decide_eq_true h2
            clear hall h1 h2
            go_enter Try.func38, Try.ntmps38
            go_wp2_with (first | (go_at_call 50; refine (sTermValid_any ku nu us U cu _ (by omega) (hru.below hb1)).mono ?_; rw [hvu]; rintro e w2 ⟨rfl, hb2⟩; have hB02 := hB0.keep hb2; have hB12 := hB1.keep hb2; clear u0 u1 u2; have p0 := hB02.at_ (i := 0) rfl; have p1 := hB02.at_ (i := 1) rfl; have p2 := hB02.at_ (i := 2) rfl; have v0 := hB12.at_ (i := 0) rfl; have v1 := hB12.at_ (i := 1) rfl; have v2 := hB12.at_ (i := 2) rfl; replace hb2 : Below w.heap.size w w2 := hb1.trans (hb2.mono hb1.size)) | (go_at_call 50; refine (sTermValid_any k n ks A c _ (by omega) ((hr.alloc _).alloc _)).mono ?_; rw [hvp]; rintro e w1 ⟨rfl, hb1⟩; have hB0 : Blk w1 w.heap.size #[.int .i64 k, .int .i64 n, .slice A ks.length c] := ((Blk.new_ w 29 #[.int .i64 k, .int .i64 n, .slice A ks.length c] rfl).alloc (.cells #[.int .i64 ku, .int .i64 nu, .slice U us.length cu] 29)).keep hb1; have hB1 : Blk w1 (w.heap.size + 1) #[.int .i64 ku, .int .i64 nu, .slice U us.length cu] := (Blk.new_ (w.alloc (.cells #[.int .i64 k, .int .i64 n, .slice A ks.length c] 29)) 29 #[.int .i64 ku, .int .i64 nu, .slice U us.length cu] (by simp)).keep hb1; have u0 := hB1.at_ (i := 0) rfl; have u1 := hB1.at_ (i := 1) rfl; have u2 := hB1.at_ (i := 2) rfl; replace hb1 : Below w.heap.size w w1 := (((Below.refl _ _).alloc (Nat.le_refl _) _).alloc (by simp) _).trans (hb1.mono (by simp; omega))))
            go_ret
            exact ⟨rfl, hb2⟩
          · have q2 : decide (6 < z) = false := decide_eq_false h2
            by_cases h3 : y < 0
            · have q3 : decide (y < 0) = true := decide_eq_true h3
              clear hall h1 h2 h3
              go_enter Try.func38, Try.ntmps38
              go_wp2_with (first | (go_at_call 50; refine (sTermValid_any ku nu us U cu _ (by omega) (hru.below hb1)).mono ?_; rw [hvu]; rintro e w2 ⟨rfl, hb2⟩; have hB02 := hB0.keep hb2; have hB12 := hB1.keep hb2; clear u0 u1 u2; have p0 := hB02.at_ (i := 0) rfl; have p1 := hB02.at_ (i := 1) rfl; have p2 := hB02.at_ (i := 2) rfl; have v0 := hB12.at_ (i := 0) rfl; have v1 := hB12.at_ (i := 1) rfl; have v2 := hB12.at_ (i := 2) rfl; replace hb2 : Below w.heap.size w w2 := hb1.trans (hb2.mono hb1.size)) | (go_at_call 50; refine (sTermValid_any k n ks A c _ (by omega) ((hr.alloc _).alloc _)).mono ?_; rw [hvp]; rintro e w1 ⟨rfl, hb1⟩; have hB0 : Blk w1 w.heap.size #[.int .i64 k, .int .i64 n, .slice A ks.length c] := ((Blk.new_ w 29 #[.int .i64 k, .int .i64 n, .slice A ks.length c] rfl).alloc (.cells #[.int .i64 ku, .int .i64 nu, .slice U us.length cu] 29)).keep hb1; have hB1 : Blk w1 (w.heap.size + 1) #[.int .i64 ku, .int .i64 nu, .slice U us.length cu] := (Blk.new_ (w.alloc (.cells #[.int .i64 k, .int .i64 n, .slice A ks.length c] 29)) 29 #[.int .i64 ku, .int .i64 nu, .slice U us.length cu] (by simp)).keep hb1; have u0 := hB1.at_ (i := 0) rfl; have u1 := hB1.at_ (i := 1) rfl; have u2 := hB1.at_ (i := 2) rfl; replace hb1 : Below w.heap.size w w1 := (((Below.refl _ _).alloc (Nat.le_refl _) _).alloc (by simp) _).trans (hb1.mono (by simp; omega))))
              go_ret
              exact ⟨rfl, hb2⟩
            · have q3 : decide (y < 0) = false := decide_eq_false h3
              have q4 : decide (6 < y) = true := decide_eq_true (by by_cases h4 : 6 < y; (· exact h4); (· exact absurd ⟨hvp, hvu, by omega, by omega⟩ hall))
              clear hall h1 h2 h3
              go_enter Try.func38, Try.ntmps38
              go_wp2_with (first | (go_at_call 50; refine (sTermValid_any ku nu us U cu _ (by omega) (hru.below hb1)).mono ?_; rw [hvu]; rintro e w2 ⟨rfl, hb2⟩; have hB02 := hB0.keep hb2; have hB12 := hB1.keep hb2; clear u0 u1 u2; have p0 := hB02.at_ (i := 0) rfl; have p1 := hB02.at_ (i := 1) rfl; have p2 := hB02.at_ (i := 2) rfl; have v0 := hB12.at_ (i := 0) rfl; have v1 := hB12.at_ (i := 1) rfl; have v2 := hB12.at_ (i := 2) rfl; replace hb2 : Below w.heap.size w w2 := hb1.trans (hb2.mono hb1.size)) | (go_at_call 50; refine (sTermValid_any k n ks A c _ (by omega) ((hr.alloc _).alloc _)).mono ?_; rw [hvp]; rintro e w1 ⟨rfl, hb1⟩; have hB0 : Blk w1 w.heap.size #[.int .i64 k, .int .i64 n, .slice A ks.length c] := ((Blk.new_ w 29 #[.int .i64 k, .int .i64 n, .slice A ks.length c] rfl).alloc (.cells #[.int .i64 ku, .int .i64 nu, .slice U us.length cu] 29)).keep hb1; have hB1 : Blk w1 (w.heap.size + 1) #[.int .i64 ku, .int .i64 nu, .slice U us.length cu] := (Blk.new_ (w.alloc (.cells #[.int .i64 k, .int .i64 n, .slice A ks.length c] 29)) 29 #[.int .i64 ku, .int .i64 nu, .slice U us.length cu] (by simp)).keep hb1; have u0 := hB1.at_ (i := 0) rfl; have u1 := hB1.at_ (i := 1) rfl; have u2 := hB1.at_ (i := 2) rfl; replace hb1 : Below w.heap.size w w1 := (((Below.refl _ _).alloc (Nat.le_refl _) _).alloc (by simp) _).trans (hb1.mono (by simp; omega))))
              go_ret
              exact ⟨rfl, hb2⟩

set_option maxHeartbeats 2000000 in
set_option maxRecDepth 100000 in
theorem iMoreGeneral_any (k n : Int) (ks : List Tm) (A : Option Addr) (c : Nat) (z : Int) (ku nu : Int) (us : List Tm) (U : Option Addr) (cu : Nat) (y : Int) (w : World) (hz : (Lit.int .i64 z).wf = true) (hy : (Lit.int .i64 y).wf = true) (hM : sizes ks ≤ 1048576) (hMu : sizes us ≤ 1048576) (hr : Rd w A 0 ks) (hru : Rd w U 0 us) :
    Calls Try.prog 39 #[.agg #[.int .i64 k, .int .i64 n, .slice A ks.length c], .int .i64 z, .agg #[.int .i64 ku, .int .i64 nu, .slice U us.length cu], .int .i64 y] w fun e w' => e = .returned (.bool (moreS (.mk k n ks) z (.mk ku nu us) y)) ∧ Below w.heap.size w w' := by
  have hzr := lit_range hz
  have hyr := lit_range hy
  clear hz hy
  by_cases hall : validT (.mk k n ks) = true ∧ validT (.mk ku nu us) = true ∧ (0 ≤ z ∧ z ≤ 6) ∧ (0 ≤ y ∧ y ≤ 6)
  · obtain ⟨hvp, hvu, hzi, hyi⟩ := hall
    have hmm : moreS (.mk k n ks) z (.mk ku nu us) y = (tryS z.toNat y (.mk k n ks) (.mk ku nu us)).isSome := by rw [moreS, if_pos ⟨hvp, hvu, hzi, hyi⟩]
    obtain ⟨m, rfl⟩ : ∃ m : Nat, z = (m : Int) := ⟨z.toNat, by omega⟩
    rw [hmm, Int.toNat_natCast]
    have hm : m ≤ 6 := by omega
    have q1 : decide ((m : Int) < 0) = false := decide_eq_false (by omega)
    have q2 : decide ((6 : Int) < (m : Int)) = false := decide_eq_false (by omega)
    have q3 : (decide (0 ≤ (m : Int)) && decide ((m : Int) ≤ 6)) = true := by simp; omega
    have q4 : decide (y < 0) = false := decide_eq_false (by omega)
    have q5 : decide (6 < y) = false := decide_eq_false (by omega)
    have q6 : (decide (0 ≤ y) && decide (y ≤ 6)) = true := by simp; omega
    generalize hoo : tryS m y (.mk k n ks) (.mk ku nu us) = oo
    have hoo' := hide hoo
    clear hmm hoo
    go_enter Try.func39, Try.ntmps39
    go_wp2_with (first | (go_at_call 60; refine (isHoles_any _ _).mono ?_; rw [q3]; rintro e w3 ⟨rfl, rfl⟩) | (go_at_call 60; refine (isHoles_any _ _).mono ?_; rw [q6]; rintro e w4 ⟨rfl, rfl⟩) | (go_at_call 75; refine (iMatches_any m hm y hyi k n ks A c ku nu us U cu _ hvp hvu (hr.below hb2) (hru.below hb2)).mono ?_; rw [hoo'.out]; rintro e w3 ⟨A3, c3, rfl, hf3, hb3⟩) | (go_at_call 51; refine (iTermValid_any ku nu us U cu _ (by omega) (hru.below hb1)).mono ?_; rw [hvu]; rintro e w2 ⟨rfl, hb2⟩; have hB02 := hB0.keep hb2; have hB12 := hB1.keep hb2; clear u0 u1 u2; have p0 := hB02.at_ (i := 0) rfl; have p1 := hB02.at_ (i := 1) rfl; have p2 := hB02.at_ (i := 2) rfl; have v0 := hB12.at_ (i := 0) rfl; have v1 := hB12.at_ (i := 1) rfl; have v2 := hB12.at_ (i := 2) rfl; replace hb2 : Below w.heap.size w w2 := hb1.trans (hb2.mono hb1.size)) | (go_at_call 51; refine (iTermValid_any k n ks A c _ (by omega) ((hr.alloc _).alloc _)).mono ?_; rw [hvp]; rintro e w1 ⟨rfl, hb1⟩; have hB0 : Blk w1 w.heap.size #[.int .i64 k, .int .i64 n, .slice A ks.length c] := ((Blk.new_ w 29 #[.int .i64 k, .int .i64 n, .slice A ks.length c] rfl).alloc (.cells #[.int .i64 ku, .int .i64 nu, .slice U us.length cu] 29)).keep hb1; have hB1 : Blk w1 (w.heap.size + 1) #[.int .i64 ku, .int .i64 nu, .slice U us.length cu] := (Blk.new_ (w.alloc (.cells #[.int .i64 k, .int .i64 n, .slice A ks.length c] 29)) 29 #[.int .i64 ku, .int .i64 nu, .slice U us.length cu] (by simp)).keep hb1; have u0 := hB1.at_ (i := 0) rfl; have u1 := hB1.at_ (i := 1) rfl; have u2 := hB1.at_ (i := 2) rfl; replace hb1 : Below w.heap.size w w1 := (((Below.refl _ _).alloc (Nat.le_refl _) _).alloc (by simp) _).trans (hb1.mono (by simp; omega))))
    go_ret
    exact ⟨rfl, hb2.trans (hb3.mono hb2.size)⟩
  · rw [moreS, if_neg hall]
    cases hvp : validT (.mk k n ks) with
    | false =>
      clear hall
      go_enter Try.func39, Try.ntmps39
      go_wp2_with (go_at_call 51; refine (iTermValid_any k n ks A c _ (by omega) ((hr.alloc _).alloc _)).mono ?_; rw [hvp]; rintro e w1 ⟨rfl, hb1⟩; have hB0 : Blk w1 w.heap.size #[.int .i64 k, .int .i64 n, .slice A ks.length c] := ((Blk.new_ w 29 #[.int .i64 k, .int .i64 n, .slice A ks.length c] rfl).alloc (.cells #[.int .i64 ku, .int .i64 nu, .slice U us.length cu] 29)).keep hb1; have hB1 : Blk w1 (w.heap.size + 1) #[.int .i64 ku, .int .i64 nu, .slice U us.length cu] := (Blk.new_ (w.alloc (.cells #[.int .i64 k, .int .i64 n, .slice A ks.length c] 29)) 29 #[.int .i64 ku, .int .i64 nu, .slice U us.length cu] (by simp)).keep hb1; have u0 := hB1.at_ (i := 0) rfl; have u1 := hB1.at_ (i := 1) rfl; have u2 := hB1.at_ (i := 2) rfl; replace hb1 : Below w.heap.size w w1 := (((Below.refl _ _).alloc (Nat.le_refl _) _).alloc (by simp) _).trans (hb1.mono (by simp; omega)))
      go_ret
      exact ⟨rfl, hb1⟩
    | true =>
      cases hvu : validT (.mk ku nu us) with
      | false =>
        clear hall
        go_enter Try.func39, Try.ntmps39
        go_wp2_with (first | (go_at_call 51; refine (iTermValid_any ku nu us U cu _ (by omega) (hru.below hb1)).mono ?_; rw [hvu]; rintro e w2 ⟨rfl, hb2⟩; have hB02 := hB0.keep hb2; have hB12 := hB1.keep hb2; clear u0 u1 u2; have p0 := hB02.at_ (i := 0) rfl; have p1 := hB02.at_ (i := 1) rfl; have p2 := hB02.at_ (i := 2) rfl; have v0 := hB12.at_ (i := 0) rfl; have v1 := hB12.at_ (i := 1) rfl; have v2 := hB12.at_ (i := 2) rfl; replace hb2 : Below w.heap.size w w2 := hb1.trans (hb2.mono hb1.size)) | (go_at_call 51; refine (iTermValid_any k n ks A c _ (by omega) ((hr.alloc _).alloc _)).mono ?_; rw [hvp]; rintro e w1 ⟨rfl, hb1⟩; have hB0 : Blk w1 w.heap.size #[.int .i64 k, .int .i64 n, .slice A ks.length c] := ((Blk.new_ w 29 #[.int .i64 k, .int .i64 n, .slice A ks.length c] rfl).alloc (.cells #[.int .i64 ku, .int .i64 nu, .slice U us.length cu] 29)).keep hb1; have hB1 : Blk w1 (w.heap.size + 1) #[.int .i64 ku, .int .i64 nu, .slice U us.length cu] := (Blk.new_ (w.alloc (.cells #[.int .i64 k, .int .i64 n, .slice A ks.length c] 29)) 29 #[.int .i64 ku, .int .i64 nu, .slice U us.length cu] (by simp)).keep hb1; have u0 := hB1.at_ (i := 0) rfl; have u1 := hB1.at_ (i := 1) rfl; have u2 := hB1.at_ (i := 2) rfl; replace hb1 : Below w.heap.size w w1 := (((Below.refl _ _).alloc (Nat.le_refl _) _).alloc (by simp) _).trans (hb1.mono (by simp; omega))))
        go_ret
        exact ⟨rfl, hb2⟩
      | true =>
        cases qz : (decide (0 ≤ z) && decide (z ≤ 6)) with
        | false =>
          clear hall
          go_enter Try.func39, Try.ntmps39
          go_wp2_with (first | (go_at_call 60; refine (isHoles_any _ _).mono ?_; rw [qz]; rintro e w3 ⟨rfl, rfl⟩) | (go_at_call 51; refine (iTermValid_any ku nu us U cu _ (by omega) (hru.below hb1)).mono ?_; rw [hvu]; rintro e w2 ⟨rfl, hb2⟩; have hB02 := hB0.keep hb2; have hB12 := hB1.keep hb2; clear u0 u1 u2; have p0 := hB02.at_ (i := 0) rfl; have p1 := hB02.at_ (i := 1) rfl; have p2 := hB02.at_ (i := 2) rfl; have v0 := hB12.at_ (i := 0) rfl; have v1 := hB12.at_ (i := 1) rfl; have v2 := hB12.at_ (i := 2) rfl; replace hb2 : Below w.heap.size w w2 := hb1.trans (hb2.mono hb1.size)) | (go_at_call 51; refine (iTermValid_any k n ks A c _ (by omega) ((hr.alloc _).alloc _)).mono ?_; rw [hvp]; rintro e w1 ⟨rfl, hb1⟩; have hB0 : Blk w1 w.heap.size #[.int .i64 k, .int .i64 n, .slice A ks.length c] := ((Blk.new_ w 29 #[.int .i64 k, .int .i64 n, .slice A ks.length c] rfl).alloc (.cells #[.int .i64 ku, .int .i64 nu, .slice U us.length cu] 29)).keep hb1; have hB1 : Blk w1 (w.heap.size + 1) #[.int .i64 ku, .int .i64 nu, .slice U us.length cu] := (Blk.new_ (w.alloc (.cells #[.int .i64 k, .int .i64 n, .slice A ks.length c] 29)) 29 #[.int .i64 ku, .int .i64 nu, .slice U us.length cu] (by simp)).keep hb1; have u0 := hB1.at_ (i := 0) rfl; have u1 := hB1.at_ (i := 1) rfl; have u2 := hB1.at_ (i := 2) rfl; replace hb1 : Below w.heap.size w w1 := (((Below.refl _ _).alloc (Nat.le_refl _) _).alloc (by simp) _).trans (hb1.mono (by simp; omega))))
          go_ret
          exact ⟨rfl, hb2⟩
        | true =>
          have qy : (decide (0 ≤ y) && decide (y ≤ 6)) = false := by cases h : (decide (0 ≤ y) && decide (y ≤ 6)) with | false => rfl | true => exact absurd ⟨hvp, hvu, by simpa using qz, by simpa using h⟩ hall
          clear hall
          go_enter Try.func39, Try.ntmps39
          go_wp2_with (first | (go_at_call 60; refine (isHoles_any _ _).mono ?_; rw [qz]; rintro e w3 ⟨rfl, rfl⟩) | (go_at_call 60; refine (isHoles_any _ _).mono ?_; rw [qy]; rintro e w4 ⟨rfl, rfl⟩) | (go_at_call 51; refine (iTermValid_any ku nu us U cu _ (by omega) (hru.below hb1)).mono ?_; rw [hvu]; rintro e w2 ⟨rfl, hb2⟩; have hB02 := hB0.keep hb2; have hB12 := hB1.keep hb2; clear u0 u1 u2; have p0 := hB02.at_ (i := 0) rfl; have p1 := hB02.at_ (i := 1) rfl; have p2 := hB02.at_ (i := 2) rfl; have v0 := hB12.at_ (i := 0) rfl; have v1 := hB12.at_ (i := 1) rfl; have v2 := hB12.at_ (i := 2) rfl; replace hb2 : Below w.heap.size w w2 := hb1.trans (hb2.mono hb1.size)) | (go_at_call 51; refine (iTermValid_any k n ks A c _ (by omega) ((hr.alloc _).alloc _)).mono ?_; rw [hvp]; rintro e w1 ⟨rfl, hb1⟩; have hB0 : Blk w1 w.heap.size #[.int .i64 k, .int .i64 n, .slice A ks.length c] := ((Blk.new_ w 29 #[.int .i64 k, .int .i64 n, .slice A ks.length c] rfl).alloc (.cells #[.int .i64 ku, .int .i64 nu, .slice U us.length cu] 29)).keep hb1; have hB1 : Blk w1 (w.heap.size + 1) #[.int .i64 ku, .int .i64 nu, .slice U us.length cu] := (Blk.new_ (w.alloc (.cells #[.int .i64 k, .int .i64 n, .slice A ks.length c] 29)) 29 #[.int .i64 ku, .int .i64 nu, .slice U us.length cu] (by simp)).keep hb1; have u0 := hB1.at_ (i := 0) rfl; have u1 := hB1.at_ (i := 1) rfl; have u2 := hB1.at_ (i := 2) rfl; replace hb1 : Below w.heap.size w w1 := (((Below.refl _ _).alloc (Nat.le_refl _) _).alloc (by simp) _).trans (hb1.mono (by simp; omega))))
          go_ret
          exact ⟨rfl, hb2⟩
end Go.Proofs.Ytefifcmieicnlaa
