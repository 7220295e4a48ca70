/-
  Texts that are common to the laws: Block, Canon. No condition.
-/
import Derived.Test.YtodkenpmhhbppaaK3
import Derived.Deep.LoopGhost

namespace Go.Proofs.Ytodkenpmhhbppaa
open Go.RowKit
set_option linter.unusedSimpArgs false
set_option linter.unusedVariables false

/-- which operand is the main one -/
def mainI (k : Int) : Int := if k = 5 ∨ k = 15 ∨ k = 16 then 0 else if k = 12 then 1 else if k = 9 then 3 else -1
theorem main_no {k : Int} (h : ¬ (k = 5 ∨ k = 15 ∨ k = 16 ∨ k = 12 ∨ k = 9)) : mainI k = -1 := by
  unfold mainI; rw [if_neg (by omega), if_neg (by omega), if_neg (by omega)]
/-- the blocking variable, within a depth -/
def blk : Nat → Tm → Option Int
  | 0, _ => none
  | f + 1, .mk k n ks => if k = 1 then some n else if mainI k < 0 then none else blk f (ks.getD (mainI k).toNat default)
theorem blk_var {f : Nat} {n : Int} {ks : List Tm} : blk (f + 1) (.mk 1 n ks) = some n := by rw [blk, if_pos rfl]
theorem blk_no {f : Nat} {k n : Int} {ks : List Tm} (h1 : ¬ k = 1) (h : mainI k < 0) : blk (f + 1) (.mk k n ks) = none := by rw [blk, if_neg h1, if_pos h]
theorem blk_step {f : Nat} {k n : Int} {ks : List Tm} {j : Nat} (h : mainI k = (j : Int)) (hj : j < ks.length) : blk (f + 1) (.mk k n ks) = blk f ks[j] := by
  have h1 : ¬ k = 1 := by rintro rfl; have : mainI 1 = -1 := rfl; omega
  rw [blk, if_neg h1, if_neg (by omega), h]
  simp [List.getD, List.getElem?_eq_getElem hj]
theorem main_lt {k : Int} {ks : List Tm} (ha : arity k = (ks.length : Int)) (h : 0 ≤ mainI k) : ∃ j : Nat, mainI k = (j : Int) ∧ j < ks.length := by
  by_cases hk : k = 5 ∨ k = 15 ∨ k = 16 ∨ k = 12 ∨ k = 9
  · rcases hk with rfl | rfl | rfl | rfl | rfl
    · exact ⟨0, rfl, by have : arity 5 = 2 := rfl; omega⟩
    · exact ⟨0, rfl, by have : arity 15 = 1 := rfl; omega⟩
    · exact ⟨0, rfl, by have : arity 16 = 1 := rfl; omega⟩
    · exact ⟨1, rfl, by have : arity 12 = 3 := rfl; omega⟩
    · exact ⟨3, rfl, by have : arity 9 = 4 := rfl; omega⟩
  · rw [main_no hk] at h; omega

set_option maxRecDepth 100000 in
set_option maxHeartbeats 1000000 in
theorem sMain_any (k : Int) (w : World) : Calls Try.prog 112 #[.int .i64 k] w fun e w' => e = .returned (.int .i64 (mainI k)) ∧ Below w.heap.size w w' := by
  by_cases hk : k = 5 ∨ k = 15 ∨ k = 16 ∨ k = 12 ∨ k = 9
  · rcases hk with rfl | rfl | rfl | rfl | rfl
    all_goals
      go_enter Try.func112, Try.ntmps112
      go_wp2_with fail
      go_ret
      exact ⟨rfl, Below.refl _ _⟩
  · have h0 : mainI k = -1 := main_no hk
    have n5 := k_ne (k := k) (m := 5) (by omega)
    have n15 := k_ne (k := k) (m := 15) (by omega)
    have n16 := k_ne (k := k) (m := 16) (by omega)
    have n12 := k_ne (k := k) (m := 12) (by omega)
    have n9 := k_ne (k := k) (m := 9) (by omega)
    clear hk
    rw [h0]
    go_enter Try.func112, Try.ntmps112
    go_wp2_with fail
    go_ret
    exact ⟨rfl, Below.refl _ _⟩

set_option maxRecDepth 100000 in
set_option maxHeartbeats 2000000 in
theorem sBlock_any (d : Nat) (k n : Int) (ks : List Tm) (A : Option Addr) (c : Nat) (w : World) (hl : ks.length ≤ 9223372036854775807) (hsh : shape d (.mk k n ks) = true) (hr : Rd w A 0 ks) :
    Calls Try.prog 68 #[.agg #[.int .i64 k, .int .i64 n, .slice A ks.length c]] w fun e w' => e = .returned (.tuple #[.int .i64 ((blk d (.mk k n ks)).getD 0), .bool (blk d (.mk k n ks)).isSome]) ∧ Below w.heap.size w w' := by
  have hsh' := hide hsh
  clear hsh
  have hrp := hr.rdp
  go_enter Try.func68, Try.ntmps68
  go_wp2_with fail
  go_loopg [] d (fun f wr => ∃ (k1 n1 : Int) (ks1 : List Tm) (A1 : Option Addr) (c1 : Nat), Blk wr w.heap.size #[.int .i64 k1, .int .i64 n1, .slice A1 ks1.length c1] ∧ RdP (· < w.heap.size) wr A1 0 ks1 ∧ ks1.length ≤ 9223372036854775807 ∧
    Hid (shape f (.mk k1 n1 ks1) = true) ∧ Hid (blk f (.mk k1 n1 ks1) = blk d (.mk k n ks)) ∧ Below w.heap.size w wr)
  case atStart => exact ⟨k, n, ks, A, c, Blk.new_ _ _ _ (by simp), hrp.alloc _, hl, hsh', hide rfl, (Below.refl _ _).alloc (Nat.le_refl _) _⟩
  case round =>
    obtain ⟨k1, n1, ks1, A1, c1, hB, hr1, hl1, hs1, hbk, hb⟩ := hrel
    obtain ⟨f, rfl⟩ : ∃ f', gk = f' + 1 := by cases gk with | zero => have := hs1.out; simp [shape] at this | succ f => exact ⟨f, rfl⟩
    have hsp := hide ((shape_split f k1 n1 ks1).1 hs1.out)
    clear hs1
    have c0 := hB.at_ (i := 0) rfl
    have c1' := hB.at_ (i := 1) rfl
    have c2 := hB.at_ (i := 2) rfl
    have z0 := hB.frozen 0
    have z1 := hB.frozen 1
    have z2 := hB.frozen 2
    by_cases hk1 : k1 = 1
    · subst hk1
      go_wp2_with fail
      go_ret2
      refine ⟨?_, hb⟩
      rw [← hbk.out, blk_var]
      rfl
    · have q1 := k_ne hk1
      have hk1' := hide hk1
      clear hk1
      by_cases hm : mainI k1 < 0
      · have q2 : decide (mainI k1 < 0) = true := decide_eq_true hm
        have hm' := hide hm
        clear hm
        go_wp2_with (go_at_call 112; refine (sMain_any k1 _).mono ?_; rintro e w1 ⟨rfl, hb1⟩)
        go_ret2
        refine ⟨?_, hb.trans (hb1.mono hb.size)⟩
        rw [← hbk.out, blk_no hk1'.out hm'.out]
        rfl
      · have q2 : decide (mainI k1 < 0) = false := decide_eq_false hm
        obtain ⟨j, hm, hj⟩ := main_lt hsp.out.1 (by omega)
        rw [hm] at q2
        obtain ⟨b, off, k2, n2, ks2, A2, c2', rfl, hkj, -, -, -, -, -⟩ := hr1.at_ hj
        have H3 := hide hkj
        clear hkj
        have hm' := hide hm
        clear hm
        go_wp2_with (go_at_call 112; refine (sMain_any k1 _).mono ?_; rw [hm'.out]; rintro e w1 ⟨rfl, hb1⟩; replace hB := hB.keep hb1; replace hr1 := hr1.below hb1; replace hb := hb.trans (hb1.mono hb.size); obtain ⟨b3, off3, k3, n3, ks3, A3, c3, e3, hk3, x0, x1, x2, hl2, hr2⟩ := hr1.at_ hj; cases e3; have e4 := H3.out.symm.trans hk3; cases e4; clear hk3; have y0 := hB.at_ (i := 0) rfl; have y1 := hB.at_ (i := 1) rfl; have y2 := hB.at_ (i := 2) rfl; have z0 := hB.frozen 0; have z1 := hB.frozen 1; have z2 := hB.frozen 2)
        go_roundg f
        case measure => omega
        case rel =>
          refine ⟨k2, n2, ks2, A3, c3, ((hB.set_ 0 _).set_ 1 _).set_ 2 _, ((hr2.setCell (by simp) _).setCell (by simp) _).setCell (by simp) _, hl2, ?_, ?_, ((hb.setCell (by simp) _).setCell (by simp) _).setCell (by simp) _⟩
          · refine hide ?_
            have := hsp.out.2.2.2 _ (List.getElem_mem hj)
            rw [H3.out] at this
            exact this
          · refine hide ?_
            rw [← hbk.out, blk_step hm'.out hj, H3.out]

set_option maxRecDepth 100000 in
set_option maxHeartbeats 2000000 in
theorem iBlock_any (d : Nat) (k n : Int) (ks : List Tm) (A : Option Addr) (c : Nat) (w : World) (hl : ks.length ≤ 9223372036854775807) (hsh : shape d (.mk k n ks) = true) (hr : Rd w A 0 ks) :
    Calls Try.prog 66 #[.agg #[.int .i64 k, .int .i64 n, .slice A ks.length c]] w fun e w' => e = .returned (.tuple #[.int .i64 ((blk d (.mk k n ks)).getD 0), .bool (blk d (.mk k n ks)).isSome]) ∧ Below w.heap.size w w' := by
  have hsh' := hide hsh
  clear hsh
  have hrp := hr.rdp
  go_enter Try.func66, Try.ntmps66
  go_wp2_with fail
  go_loopg [] d (fun f wr => ∃ (k1 n1 : Int) (ks1 : List Tm) (A1 : Option Addr) (c1 : Nat), Blk wr w.heap.size #[.int .i64 k1, .int .i64 n1, .slice A1 ks1.length c1] ∧ RdP (· < w.heap.size) wr A1 0 ks1 ∧ ks1.length ≤ 9223372036854775807 ∧
    Hid (shape f (.mk k1 n1 ks1) = true) ∧ Hid (blk f (.mk k1 n1 ks1) = blk d (.mk k n ks)) ∧ Below w.heap.size w wr)
  case atStart => exact ⟨k, n, ks, A, c, Blk.new_ _ _ _ (by simp), hrp.alloc _, hl, hsh', hide rfl, (Below.refl _ _).alloc (Nat.le_refl _) _⟩
  case round =>
    obtain ⟨k1, n1, ks1, A1, c1, hB, hr1, hl1, hs1, hbk, hb⟩ := hrel
    obtain ⟨f, rfl⟩ : ∃ f', gk = f' + 1 := by cases gk with | zero => have := hs1.out; simp [shape] at this | succ f => exact ⟨f, rfl⟩
    have hsp := hide ((shape_split f k1 n1 ks1).1 hs1.out)
    clear hs1
    have c0 := hB.at_ (i := 0) rfl
    have c1' := hB.at_ (i := 1) rfl
    have c2 := hB.at_ (i := 2) rfl
    have z0 := hB.frozen 0
    have z1 := hB.frozen 1
    have z2 := hB.frozen 2
    by_cases hk1 : k1 = 1
    · subst hk1
      go_wp2_with fail
      go_ret2
      refine ⟨?_, hb⟩
      rw [← hbk.out, blk_var]
      rfl
    · by_cases hk : k1 = 5 ∨ k1 = 15 ∨ k1 = 16 ∨ k1 = 12 ∨ k1 = 9
      · rcases hk with rfl | rfl | rfl | rfl | rfl
        · have hj : 0 < ks1.length := by have h1 : arity 5 = 2 := rfl; have := hsp.out.1; omega
          have hm' := hide (show mainI 5 = ((0 : Nat) : Int) from rfl)
          obtain ⟨b3, off3, k2, n2, ks2, A3, c3, rfl, hk3, x0, x1, x2, hl2, hr2⟩ := hr1.at_ hj
          have H3 := hide hk3
          clear hk3
          simp only [Nat.reduceMul, Nat.zero_mul, Nat.add_zero, Nat.one_mul, Nat.zero_add, Nat.add_assoc, Nat.reduceAdd] at x0 x1 x2
          have hlen : (0 : Int) < (ks1.length : Int) := by omega
          clear hk1
          go_wp2_with fail
          go_roundg f
          case measure => omega
          case rel =>
            refine ⟨k2, n2, ks2, A3, c3, ((hB.set_ 0 _).set_ 1 _).set_ 2 _, ((hr2.setCell (by simp) _).setCell (by simp) _).setCell (by simp) _, hl2, ?_, ?_, ((hb.setCell (by simp) _).setCell (by simp) _).setCell (by simp) _⟩
            · refine hide ?_
              have := hsp.out.2.2.2 _ (List.getElem_mem hj)
              rw [H3.out] at this
              exact this
            · refine hide ?_
              rw [← hbk.out, blk_step hm'.out hj, H3.out]
        · have hj : 0 < ks1.length := by have h1 : arity 15 = 1 := rfl; have := hsp.out.1; omega
          have hm' := hide (show mainI 15 = ((0 : Nat) : Int) from rfl)
          obtain ⟨b3, off3, k2, n2, ks2, A3, c3, rfl, hk3, x0, x1, x2, hl2, hr2⟩ := hr1.at_ hj
          have H3 := hide hk3
          clear hk3
          simp only [Nat.reduceMul, Nat.zero_mul, Nat.add_zero, Nat.one_mul, Nat.zero_add, Nat.add_assoc, Nat.reduceAdd] at x0 x1 x2
          have hlen : (0 : Int) < (ks1.length : Int) := by omega
          clear hk1
          go_wp2_with fail
          go_roundg f
          case measure => omega
          case rel =>
            refine ⟨k2, n2, ks2, A3, c3, ((hB.set_ 0 _).set_ 1 _).set_ 2 _, ((hr2.setCell (by simp) _).setCell (by simp) _).setCell (by simp) _, hl2, ?_, ?_, ((hb.setCell (by simp) _).setCell (by simp) _).setCell (by simp) _⟩
            · refine hide ?_
              have := hsp.out.2.2.2 _ (List.getElem_mem hj)
              rw [H3.out] at this
              exact this
            · refine hide ?_
              rw [← hbk.out, blk_step hm'.out hj, H3.out]
        · have hj : 0 < ks1.length := by have h1 : arity 16 = 1 := rfl; have := hsp.out.1; omega
          have hm' := hide (show mainI 16 = ((0 : Nat) : Int) from rfl)
          obtain ⟨b3, off3, k2, n2, ks2, A3, c3, rfl, hk3, x0, x1, x2, hl2, hr2⟩ := hr1.at_ hj
          have H3 := hide hk3
          clear hk3
          simp only [Nat.reduceMul, Nat.zero_mul, Nat.add_zero, Nat.one_mul, Nat.zero_add, Nat.add_assoc, Nat.reduceAdd] at x0 x1 x2
          have hlen : (0 : Int) < (ks1.length : Int) := by omega
          clear hk1
          go_wp2_with fail
          go_roundg f
          case measure => omega
          case rel =>
            refine ⟨k2, n2, ks2, A3, c3, ((hB.set_ 0 _).set_ 1 _).set_ 2 _, ((hr2.setCell (by simp) _).setCell (by simp) _).setCell (by simp) _, hl2, ?_, ?_, ((hb.setCell (by simp) _).setCell (by simp) _).setCell (by simp) _⟩
            · refine hide ?_
              have := hsp.out.2.2.2 _ (List.getElem_mem hj)
              rw [H3.out] at this
              exact this
            · refine hide ?_
              rw [← hbk.out, blk_step hm'.out hj, H3.out]
        · have hj : 1 < ks1.length := by have h1 : arity 12 = 3 := rfl; have := hsp.out.1; omega
          have hm' := hide (show mainI 12 = ((1 : Nat) : Int) from rfl)
          obtain ⟨b3, off3, k2, n2, ks2, A3, c3, rfl, hk3, x0, x1, x2, hl2, hr2⟩ := hr1.at_ hj
          have H3 := hide hk3
          clear hk3
          simp only [Nat.reduceMul, Nat.zero_mul, Nat.add_zero, Nat.one_mul, Nat.zero_add, Nat.add_assoc, Nat.reduceAdd] at x0 x1 x2
          have hlen : (1 : Int) < (ks1.length : Int) := by omega
          clear hk1
          go_wp2_with fail
          go_roundg f
          case measure => omega
          case rel =>
            refine ⟨k2, n2, ks2, A3, c3, ((hB.set_ 0 _).set_ 1 _).set_ 2 _, ((hr2.setCell (by simp) _).setCell (by simp) _).setCell (by simp) _, hl2, ?_, ?_, ((hb.setCell (by simp) _).setCell (by simp) _).setCell (by simp) _⟩
            · refine hide ?_
              have := hsp.out.2.2.2 _ (List.getElem_mem hj)
              rw [H3.out] at this
              exact this
            · refine hide ?_
              rw [← hbk.out, blk_step hm'.out hj, H3.out]
        · have hj : 3 < ks1.length := by have h1 : arity 9 = 4 := rfl; have := hsp.out.1; omega
          have hm' := hide (show mainI 9 = ((3 : Nat) : Int) from rfl)
          obtain ⟨b3, off3, k2, n2, ks2, A3, c3, rfl, hk3, x0, x1, x2, hl2, hr2⟩ := hr1.at_ hj
          have H3 := hide hk3
          clear hk3
          simp only [Nat.reduceMul, Nat.zero_mul, Nat.add_zero, Nat.one_mul, Nat.zero_add, Nat.add_assoc, Nat.reduceAdd] at x0 x1 x2
          have hlen : (3 : Int) < (ks1.length : Int) := by omega
          clear hk1
          go_wp2_with fail
          go_roundg f
          case measure => omega
          case rel =>
            refine ⟨k2, n2, ks2, A3, c3, ((hB.set_ 0 _).set_ 1 _).set_ 2 _, ((hr2.setCell (by simp) _).setCell (by simp) _).setCell (by simp) _, hl2, ?_, ?_, ((hb.setCell (by simp) _).setCell (by simp) _).setCell (by simp) _⟩
            · refine hide ?_
              have := hsp.out.2.2.2 _ (List.getElem_mem hj)
              rw [H3.out] at this
              exact this
            · refine hide ?_
              rw [← hbk.out, blk_step hm'.out hj, H3.out]
      · have hm := main_no hk
        have n5 := k_ne (k := k1) (m := 5) (by omega)
        have n15 := k_ne (k := k1) (m := 15) (by omega)
        have n16 := k_ne (k := k1) (m := 16) (by omega)
        have n12 := k_ne (k := k1) (m := 12) (by omega)
        have n9 := k_ne (k := k1) (m := 9) (by omega)
        have n1' := k_ne hk1
        have hk1' := hide hk1
        have hm' := hide hm
        clear hk hk1 hm
        go_wp2_with fail
        go_ret2
        refine ⟨?_, hb⟩
        rw [← hbk.out, blk_no hk1'.out (by rw [hm'.out]; omega)]
        rfl
end Go.Proofs.Ytodkenpmhhbppaa

namespace Go.Proofs.Ytodkenpmhhbppaa
open Go.RowKit
set_option linter.unusedSimpArgs false
set_option linter.unusedVariables false

set_option maxRecDepth 100000 in
set_option maxHeartbeats 2000000 in
theorem iNormalTerm_any (k n : Int) (ks : List Tm) (A : Option Addr) (c : Nat) (w : World) (hM : sizes ks ≤ 1099511627775) (hr : Rd w A 0 ks) :
    Calls Try.prog 25 #[.agg #[.int .i64 k, .int .i64 n, .slice A ks.length c]] w fun e w' => e = .returned (.bool (validT (.mk k n ks) && nrm (.mk k n ks))) ∧ Below w.heap.size w w' := by
  have hlen := length_le_sizes ks
  cases hv : validT (.mk k n ks) with
  | false =>
    rw [Bool.false_and]
    go_enter Try.func25, Try.ntmps25
    go_wp2_with (go_at_call 34; refine (iTermValid_any k n ks A c _ hM (hr.alloc _)).mono ?_; rw [hv]; rintro e w1 ⟨rfl, hb1⟩; have hB1 := (Blk.new_ w 25 #[.int .i64 k, .int .i64 n, .slice A ks.length c] rfl).keep hb1; obtain ⟨p10, p11, p12⟩ := hB1.three; have hr1 := (hr.alloc (.cells #[.int .i64 k, .int .i64 n, .slice A ks.length c] 25)).below hb1; replace hb1 := ((Below.refl _ _).alloc (Nat.le_refl _) _).trans (hb1.mono (by simp)))
    go_ret
    exact ⟨rfl, hb1⟩
  | true =>
    have hs : shape 30 (.mk k n ks) = true := by simp only [validT, Bool.and_eq_true] at hv; exact hv.1
    rw [Bool.true_and]
    go_enter Try.func25, Try.ntmps25
    go_wp2_with (first | (go_at_call 34; refine (iTermValid_any k n ks A c _ hM (hr.alloc _)).mono ?_; rw [hv]; rintro e w1 ⟨rfl, hb1⟩; have hB1 := (Blk.new_ w 25 #[.int .i64 k, .int .i64 n, .slice A ks.length c] rfl).keep hb1; obtain ⟨p10, p11, p12⟩ := hB1.three; have hr1 := (hr.alloc (.cells #[.int .i64 k, .int .i64 n, .slice A ks.length c] 25)).below hb1; replace hb1 := ((Below.refl _ _).alloc (Nat.le_refl _) _).trans (hb1.mono (by simp))) | (go_at_call 71; refine (outer_any (sizes ks + 1) 30 k n ks A c _ (by omega) (by omega) hs hM hr1).mono ?_; rintro e w2 ⟨A2, m2, c2, rfl, hm2, hp2, hb2⟩; replace hb2 := hb1.trans (hb2.mono hb1.size)))
    go_ret
    exact ⟨ret_bool (by simp), hb2⟩

/-- a valid normal term -/
def nf (t : Tm) : Bool := validT t && nrm t
theorem nf_shape {t : Tm} (h : nf t = true) : shape 30 t = true := by
  simp only [nf, validT, Bool.and_eq_true] at h; exact h.1.1
/-- which canonical form a kind makes -/
def formC (k : Int) : Int :=
  if k = 2 ∨ k = 3 ∨ k = 6 ∨ k = 10 ∨ k = 13 then 1 else if k = 4 then 2 else if k = 7 ∨ k = 8 then 3 else if k = 11 then 4 else if k = 14 then 5 else 0
/-- the kinds of canonical forms -/
def isForm (k : Int) : Prop := k = 2 ∨ k = 3 ∨ k = 6 ∨ k = 10 ∨ k = 13 ∨ k = 4 ∨ k = 7 ∨ k = 8 ∨ k = 11 ∨ k = 14
theorem formC_no {k : Int} (h : ¬ isForm k) : formC k = 0 := by
  unfold isForm at h; unfold formC; rw [if_neg (by omega), if_neg (by omega), if_neg (by omega), if_neg (by omega), if_neg (by omega)]
theorem formC_lt (k : Int) : formC k < 6 := by unfold formC; repeat' split <;> omega
theorem blk_form {f : Nat} {k n : Int} {ks : List Tm} (h : isForm k) : blk f (.mk k n ks) = none := by
  unfold isForm at h
  cases f with
  | zero => rfl
  | succ f => exact blk_no (by omega) (by rw [main_no (by omega)]; decide)
/-- what FormOf answers -/
def formOf (t : Tm) : Int := if nf t = true then (if (blk 30 t).isSome = true then 6 else formC t.k) else 0
/-- what BlockingVar answers -/
def bvar (t : Tm) : Option Int := if nf t = true then blk 30 t else none

set_option maxRecDepth 100000 in
set_option maxHeartbeats 2000000 in
theorem sForm_any (k : Int) (w : World) : Calls Try.prog 89 #[.int .i64 k] w fun e w' => e = .returned (.int .i64 (formC k)) ∧ Below w.heap.size w w' := by
  by_cases hk : isForm k
  · rcases hk with rfl | rfl | rfl | rfl | rfl | rfl | rfl | rfl | rfl | rfl
    all_goals
      go_enter Try.func89, Try.ntmps89
      go_wp2_with fail
      go_ret
      exact ⟨rfl, Below.refl _ _⟩
  · have h0 := formC_no hk
    unfold isForm at hk
    have n2 := k_ne (k := k) (m := 2) (by omega)
    have n3 := k_ne (k := k) (m := 3) (by omega)
    have n6 := k_ne (k := k) (m := 6) (by omega)
    have n10 := k_ne (k := k) (m := 10) (by omega)
    have n13 := k_ne (k := k) (m := 13) (by omega)
    have n4 := k_ne (k := k) (m := 4) (by omega)
    have n7 := k_ne (k := k) (m := 7) (by omega)
    have n8 := k_ne (k := k) (m := 8) (by omega)
    have n11 := k_ne (k := k) (m := 11) (by omega)
    have n14 := k_ne (k := k) (m := 14) (by omega)
    clear hk
    rw [h0]
    go_enter Try.func89, Try.ntmps89
    go_wp2_with fail
    go_ret
    exact ⟨rfl, Below.refl _ _⟩

set_option maxRecDepth 100000 in
set_option maxHeartbeats 2000000 in
theorem sFormOf_any (k n : Int) (ks : List Tm) (A : Option Addr) (c : Nat) (w : World) (hM : sizes ks ≤ 1099511627775) (hr : Rd w A 0 ks) :
    Calls Try.prog 45 #[.agg #[.int .i64 k, .int .i64 n, .slice A ks.length c]] w fun e w' => e = .returned (.int .i64 (formOf (.mk k n ks))) ∧ Below w.heap.size w w' := by
  have hlen := length_le_sizes ks
  cases hnf : nf (.mk k n ks) with
  | false =>
    have hz : formOf (.mk k n ks) = 0 := by simp [formOf, hnf]
    have hnf' : (validT (.mk k n ks) && nrm (.mk k n ks)) = false := hnf
    rw [hz]
    go_enter Try.func45, Try.ntmps45
    go_wp2_with (go_at_call 67; refine (sNormalTerm_any k n ks A c _ hM (hr.alloc _)).mono ?_; rw [hnf']; rintro e w1 ⟨rfl, hb1⟩; have hB1 := (Blk.new_ w 25 #[.int .i64 k, .int .i64 n, .slice A ks.length c] rfl).keep hb1; obtain ⟨p10, p11, p12⟩ := hB1.three; have hr1 := (hr.alloc (.cells #[.int .i64 k, .int .i64 n, .slice A ks.length c] 25)).below hb1; replace hb1 := ((Below.refl _ _).alloc (Nat.le_refl _) _).trans (hb1.mono (by simp)))
    go_ret
    exact ⟨rfl, hb1⟩
  | true =>
    have hs := nf_shape hnf
    have hnf' : (validT (.mk k n ks) && nrm (.mk k n ks)) = true := hnf
    cases hb : blk 30 (.mk k n ks) with
    | none =>
      have hz : formOf (.mk k n ks) = formC k := by simp [formOf, hnf, hb, Tm.k]
      have hi : (blk 30 (.mk k n ks)).isSome = false := by rw [hb]; rfl
      have hg : (blk 30 (.mk k n ks)).getD 0 = 0 := by rw [hb]; rfl
      rw [hz]
      clear hb hz hnf
      go_enter Try.func45, Try.ntmps45
      go_wp2_with (first | (go_at_call 67; refine (sNormalTerm_any k n ks A c _ hM (hr.alloc _)).mono ?_; rw [hnf']; rintro e w1 ⟨rfl, hb1⟩; have hB1 := (Blk.new_ w 25 #[.int .i64 k, .int .i64 n, .slice A ks.length c] rfl).keep hb1; obtain ⟨p10, p11, p12⟩ := hB1.three; have hr1 := (hr.alloc (.cells #[.int .i64 k, .int .i64 n, .slice A ks.length c] 25)).below hb1; replace hb1 := ((Below.refl _ _).alloc (Nat.le_refl _) _).trans (hb1.mono (by simp))) | (go_at_call 68; refine (sBlock_any 30 k n ks A c _ (by omega) hs hr1).mono ?_; rw [hi, hg]; rintro e w2 ⟨rfl, hb2⟩; have hB2 := hB1.keep hb2; obtain ⟨p20, p21, p22⟩ := hB2.three; replace hb2 := hb1.trans (hb2.mono hb1.size)) | (go_at_call 89; refine (sForm_any k _).mono ?_; rintro e w3 ⟨rfl, hb3⟩))
      go_ret
      exact ⟨rfl, hb2.trans (hb3.mono hb2.size)⟩
    | some v =>
      have hz : formOf (.mk k n ks) = 6 := by simp [formOf, hnf, hb]
      have hi : (blk 30 (.mk k n ks)).isSome = true := by rw [hb]; rfl
      have hg : (blk 30 (.mk k n ks)).getD 0 = v := by rw [hb]; rfl
      rw [hz]
      clear hb hz hnf
      go_enter Try.func45, Try.ntmps45
      go_wp2_with (first | (go_at_call 67; refine (sNormalTerm_any k n ks A c _ hM (hr.alloc _)).mono ?_; rw [hnf']; rintro e w1 ⟨rfl, hb1⟩; have hB1 := (Blk.new_ w 25 #[.int .i64 k, .int .i64 n, .slice A ks.length c] rfl).keep hb1; obtain ⟨p10, p11, p12⟩ := hB1.three; have hr1 := (hr.alloc (.cells #[.int .i64 k, .int .i64 n, .slice A ks.length c] 25)).below hb1; replace hb1 := ((Below.refl _ _).alloc (Nat.le_refl _) _).trans (hb1.mono (by simp))) | (go_at_call 68; refine (sBlock_any 30 k n ks A c _ (by omega) hs hr1).mono ?_; rw [hi, hg]; rintro e w2 ⟨rfl, hb2⟩; have hB2 := hB1.keep hb2; obtain ⟨p20, p21, p22⟩ := hB2.three; replace hb2 := hb1.trans (hb2.mono hb1.size)))
      go_ret
      exact ⟨rfl, hb2⟩

set_option maxRecDepth 100000 in
set_option maxHeartbeats 2000000 in
theorem iFormOf_any (k n : Int) (ks : List Tm) (A : Option Addr) (c : Nat) (w : World) (hM : sizes ks ≤ 1099511627775) (hr : Rd w A 0 ks) :
    Calls Try.prog 38 #[.agg #[.int .i64 k, .int .i64 n, .slice A ks.length c]] w fun e w' => e = .returned (.int .i64 (formOf (.mk k n ks))) ∧ Below w.heap.size w w' := by
  have hlen := length_le_sizes ks
  cases hnf : nf (.mk k n ks) with
  | false =>
    have hz : formOf (.mk k n ks) = 0 := by simp [formOf, hnf]
    have hnf' : (validT (.mk k n ks) && nrm (.mk k n ks)) = false := hnf
    rw [hz]
    go_enter Try.func38, Try.ntmps38
    go_wp2_with (go_at_call 25; refine (iNormalTerm_any k n ks A c _ hM (hr.alloc _)).mono ?_; rw [hnf']; rintro e w1 ⟨rfl, hb1⟩; have hB1 := (Blk.new_ w 25 #[.int .i64 k, .int .i64 n, .slice A ks.length c] rfl).keep hb1; obtain ⟨p10, p11, p12⟩ := hB1.three; have hr1 := (hr.alloc (.cells #[.int .i64 k, .int .i64 n, .slice A ks.length c] 25)).below hb1; replace hb1 := ((Below.refl _ _).alloc (Nat.le_refl _) _).trans (hb1.mono (by simp)))
    go_ret
    exact ⟨rfl, hb1⟩
  | true =>
    have hs := nf_shape hnf
    have hnf' : (validT (.mk k n ks) && nrm (.mk k n ks)) = true := hnf
    by_cases hk : isForm k
    · have hz : formOf (.mk k n ks) = formC k := by simp [formOf, hnf, blk_form hk, Tm.k]
      rw [hz]
      clear hz hnf
      rcases hk with rfl | rfl | rfl | rfl | rfl | rfl | rfl | rfl | rfl | rfl
      all_goals
        go_enter Try.func38, Try.ntmps38
        go_wp2_with (go_at_call 25; refine (iNormalTerm_any _ n ks A c _ hM (hr.alloc _)).mono ?_; rw [hnf']; rintro e w1 ⟨rfl, hb1⟩; have hB1 := (Blk.new_ w 25 #[.int .i64 _, .int .i64 n, .slice A ks.length c] rfl).keep hb1; obtain ⟨p10, p11, p12⟩ := hB1.three; have hr1 := (hr.alloc (.cells #[.int .i64 _, .int .i64 n, .slice A ks.length c] 25)).below hb1; replace hb1 := ((Below.refl _ _).alloc (Nat.le_refl _) _).trans (hb1.mono (by simp)))
        go_ret
        exact ⟨rfl, hb1⟩
    · have hz : formOf (.mk k n ks) = if (blk 30 (.mk k n ks)).isSome = true then 6 else 0 := by simp [formOf, hnf, formC_no hk, Tm.k]
      unfold isForm at hk
      have n2 := k_ne (k := k) (m := 2) (by omega)
      have n3 := k_ne (k := k) (m := 3) (by omega)
      have n6 := k_ne (k := k) (m := 6) (by omega)
      have n10 := k_ne (k := k) (m := 10) (by omega)
      have n13 := k_ne (k := k) (m := 13) (by omega)
      have n4 := k_ne (k := k) (m := 4) (by omega)
      have n7 := k_ne (k := k) (m := 7) (by omega)
      have n8 := k_ne (k := k) (m := 8) (by omega)
      have n11 := k_ne (k := k) (m := 11) (by omega)
      have n14 := k_ne (k := k) (m := 14) (by omega)
      clear hk
      cases hb : blk 30 (.mk k n ks) with
      | none =>
        have hi : (blk 30 (.mk k n ks)).isSome = false := by rw [hb]; rfl
        have hg : (blk 30 (.mk k n ks)).getD 0 = 0 := by rw [hb]; rfl
        rw [hz, hi]
        clear hb hz hnf
        go_enter Try.func38, Try.ntmps38
        go_wp2_with (first | (go_at_call 25; refine (iNormalTerm_any k n ks A c _ hM (hr.alloc _)).mono ?_; rw [hnf']; rintro e w1 ⟨rfl, hb1⟩; have hB1 := (Blk.new_ w 25 #[.int .i64 k, .int .i64 n, .slice A ks.length c] rfl).keep hb1; obtain ⟨p10, p11, p12⟩ := hB1.three; have hr1 := (hr.alloc (.cells #[.int .i64 k, .int .i64 n, .slice A ks.length c] 25)).below hb1; replace hb1 := ((Below.refl _ _).alloc (Nat.le_refl _) _).trans (hb1.mono (by simp))) | (go_at_call 66; refine (iBlock_any 30 k n ks A c _ (by omega) hs hr1).mono ?_; rw [hi, hg]; rintro e w2 ⟨rfl, hb2⟩; have hB2 := hB1.keep hb2; obtain ⟨p20, p21, p22⟩ := hB2.three; replace hb2 := hb1.trans (hb2.mono hb1.size)))
        go_ret
        exact ⟨rfl, hb2⟩
      | some v =>
        have hi : (blk 30 (.mk k n ks)).isSome = true := by rw [hb]; rfl
        have hg : (blk 30 (.mk k n ks)).getD 0 = v := by rw [hb]; rfl
        rw [hz, hi]
        clear hb hz hnf
        go_enter Try.func38, Try.ntmps38
        go_wp2_with (first | (go_at_call 25; refine (iNormalTerm_any k n ks A c _ hM (hr.alloc _)).mono ?_; rw [hnf']; rintro e w1 ⟨rfl, hb1⟩; have hB1 := (Blk.new_ w 25 #[.int .i64 k, .int .i64 n, .slice A ks.length c] rfl).keep hb1; obtain ⟨p10, p11, p12⟩ := hB1.three; have hr1 := (hr.alloc (.cells #[.int .i64 k, .int .i64 n, .slice A ks.length c] 25)).below hb1; replace hb1 := ((Below.refl _ _).alloc (Nat.le_refl _) _).trans (hb1.mono (by simp))) | (go_at_call 66; refine (iBlock_any 30 k n ks A c _ (by omega) hs hr1).mono ?_; rw [hi, hg]; rintro e w2 ⟨rfl, hb2⟩; have hB2 := hB1.keep hb2; obtain ⟨p20, p21, p22⟩ := hB2.three; replace hb2 := hb1.trans (hb2.mono hb1.size)))
        go_ret
        exact ⟨rfl, hb2⟩

set_option maxRecDepth 100000 in
set_option maxHeartbeats 2000000 in
theorem sNeutral_any (k n : Int) (ks : List Tm) (A : Option Addr) (c : Nat) (w : World) (hM : sizes ks ≤ 1099511627775) (hr : Rd w A 0 ks) :
    Calls Try.prog 43 #[.agg #[.int .i64 k, .int .i64 n, .slice A ks.length c]] w fun e w' => e = .returned (.bool (formOf (.mk k n ks) == 6)) ∧ Below w.heap.size w w' := by
  have hlen := length_le_sizes ks
  go_enter Try.func43, Try.ntmps43
  go_wp2_with (go_at_call 45; refine (sFormOf_any k n ks A c _ hM (hr.alloc _)).mono ?_; rintro e w1 ⟨rfl, hb1⟩; have hB1 := (Blk.new_ w 25 #[.int .i64 k, .int .i64 n, .slice A ks.length c] rfl).keep hb1; obtain ⟨p10, p11, p12⟩ := hB1.three; have hr1 := (hr.alloc (.cells #[.int .i64 k, .int .i64 n, .slice A ks.length c] 25)).below hb1; replace hb1 := ((Below.refl _ _).alloc (Nat.le_refl _) _).trans (hb1.mono (by simp)))
  go_ret
  exact ⟨rfl, hb1⟩

set_option maxRecDepth 100000 in
set_option maxHeartbeats 2000000 in
theorem iNeutral_any (k n : Int) (ks : List Tm) (A : Option Addr) (c : Nat) (w : World) (hM : sizes ks ≤ 1099511627775) (hr : Rd w A 0 ks) :
    Calls Try.prog 46 #[.agg #[.int .i64 k, .int .i64 n, .slice A ks.length c]] w fun e w' => e = .returned (.bool (formOf (.mk k n ks) == 6)) ∧ Below w.heap.size w w' := by
  have hlen := length_le_sizes ks
  go_enter Try.func46, Try.ntmps46
  go_wp2_with (go_at_call 38; refine (iFormOf_any k n ks A c _ hM (hr.alloc _)).mono ?_; rintro e w1 ⟨rfl, hb1⟩; have hB1 := (Blk.new_ w 25 #[.int .i64 k, .int .i64 n, .slice A ks.length c] rfl).keep hb1; obtain ⟨p10, p11, p12⟩ := hB1.three; have hr1 := (hr.alloc (.cells #[.int .i64 k, .int .i64 n, .slice A ks.length c] 25)).below hb1; replace hb1 := ((Below.refl _ _).alloc (Nat.le_refl _) _).trans (hb1.mono (by simp)))
  go_ret
  exact ⟨rfl, hb1⟩

set_option maxRecDepth 100000 in
set_option maxHeartbeats 2000000 in
theorem sBlockingVar_any (k n : Int) (ks : List Tm) (A : Option Addr) (c : Nat) (w : World) (hM : sizes ks ≤ 1099511627775) (hr : Rd w A 0 ks) :
    Calls Try.prog 23 #[.agg #[.int .i64 k, .int .i64 n, .slice A ks.length c]] w fun e w' => e = .returned (.tuple #[.int .i64 ((bvar (.mk k n ks)).getD 0), .bool (bvar (.mk k n ks)).isSome]) ∧ Below w.heap.size w w' := by
  have hlen := length_le_sizes ks
  cases hnf : nf (.mk k n ks) with
  | false =>
    have hz : bvar (.mk k n ks) = none := by simp [bvar, hnf]
    have hnf' : (validT (.mk k n ks) && nrm (.mk k n ks)) = false := hnf
    rw [hz]
    go_enter Try.func23, Try.ntmps23
    go_wp2_with (go_at_call 67; refine (sNormalTerm_any k n ks A c _ hM (hr.alloc _)).mono ?_; rw [hnf']; rintro e w1 ⟨rfl, hb1⟩; have hB1 := (Blk.new_ w 25 #[.int .i64 k, .int .i64 n, .slice A ks.length c] rfl).keep hb1; obtain ⟨p10, p11, p12⟩ := hB1.three; have hr1 := (hr.alloc (.cells #[.int .i64 k, .int .i64 n, .slice A ks.length c] 25)).below hb1; replace hb1 := ((Below.refl _ _).alloc (Nat.le_refl _) _).trans (hb1.mono (by simp)))
    go_ret2
    exact ⟨rfl, hb1⟩
  | true =>
    have hs := nf_shape hnf
    have hnf' : (validT (.mk k n ks) && nrm (.mk k n ks)) = true := hnf
    have hz : bvar (.mk k n ks) = blk 30 (.mk k n ks) := by simp [bvar, hnf]
    rw [hz]
    clear hz hnf
    go_enter Try.func23, Try.ntmps23
    go_wp2_with (first | (go_at_call 67; refine (sNormalTerm_any k n ks A c _ hM (hr.alloc _)).mono ?_; rw [hnf']; rintro e w1 ⟨rfl, hb1⟩; have hB1 := (Blk.new_ w 25 #[.int .i64 k, .int .i64 n, .slice A ks.length c] rfl).keep hb1; obtain ⟨p10, p11, p12⟩ := hB1.three; have hr1 := (hr.alloc (.cells #[.int .i64 k, .int .i64 n, .slice A ks.length c] 25)).below hb1; replace hb1 := ((Below.refl _ _).alloc (Nat.le_refl _) _).trans (hb1.mono (by simp))) | (go_at_call 68; refine (sBlock_any 30 k n ks A c _ (by omega) hs hr1).mono ?_; rintro e w2 ⟨rfl, hb2⟩; have hB2 := hB1.keep hb2; obtain ⟨p20, p21, p22⟩ := hB2.three; replace hb2 := hb1.trans (hb2.mono hb1.size)))
    go_ret2
    exact ⟨rfl, hb2⟩

set_option maxRecDepth 100000 in
set_option maxHeartbeats 2000000 in
theorem iBlockingVar_any (k n : Int) (ks : List Tm) (A : Option Addr) (c : Nat) (w : World) (hM : sizes ks ≤ 1099511627775) (hr : Rd w A 0 ks) :
    Calls Try.prog 22 #[.agg #[.int .i64 k, .int .i64 n, .slice A ks.length c]] w fun e w' => e = .returned (.tuple #[.int .i64 ((bvar (.mk k n ks)).getD 0), .bool (bvar (.mk k n ks)).isSome]) ∧ Below w.heap.size w w' := by
  have hlen := length_le_sizes ks
  cases h6 : formOf (.mk k n ks) == 6 with
  | false =>
    have hz : bvar (.mk k n ks) = none := by
      cases hnf : nf (.mk k n ks) with
      | false => simp [bvar, hnf]
      | true =>
        cases hb : blk 30 (.mk k n ks) with
        | none => simp [bvar, hnf, hb]
        | some v => simp [formOf, hnf, hb] at h6
    rw [hz]
    clear hz
    go_enter Try.func22, Try.ntmps22
    go_wp2_with (go_at_call 46; refine (iNeutral_any k n ks A c _ hM (hr.alloc _)).mono ?_; rw [h6]; rintro e w1 ⟨rfl, hb1⟩; have hB1 := (Blk.new_ w 25 #[.int .i64 k, .int .i64 n, .slice A ks.length c] rfl).keep hb1; obtain ⟨p10, p11, p12⟩ := hB1.three; have hr1 := (hr.alloc (.cells #[.int .i64 k, .int .i64 n, .slice A ks.length c] 25)).below hb1; replace hb1 := ((Below.refl _ _).alloc (Nat.le_refl _) _).trans (hb1.mono (by simp)))
    go_ret2
    exact ⟨rfl, hb1⟩
  | true =>
    have hnf : nf (.mk k n ks) = true := by
      cases hnf : nf (.mk k n ks) with
      | false => simp [formOf, hnf] at h6
      | true => rfl
    have hs := nf_shape hnf
    have hz : bvar (.mk k n ks) = blk 30 (.mk k n ks) := by simp [bvar, hnf]
    rw [hz]
    clear hz hnf
    go_enter Try.func22, Try.ntmps22
    go_wp2_with (first | (go_at_call 46; refine (iNeutral_any k n ks A c _ hM (hr.alloc _)).mono ?_; rw [h6]; rintro e w1 ⟨rfl, hb1⟩; have hB1 := (Blk.new_ w 25 #[.int .i64 k, .int .i64 n, .slice A ks.length c] rfl).keep hb1; obtain ⟨p10, p11, p12⟩ := hB1.three; have hr1 := (hr.alloc (.cells #[.int .i64 k, .int .i64 n, .slice A ks.length c] 25)).below hb1; replace hb1 := ((Below.refl _ _).alloc (Nat.le_refl _) _).trans (hb1.mono (by simp))) | (go_at_call 66; refine (iBlock_any 30 k n ks A c _ (by omega) hs hr1).mono ?_; rintro e w2 ⟨rfl, hb2⟩; have hB2 := hB1.keep hb2; obtain ⟨p20, p21, p22⟩ := hB2.three; replace hb2 := hb1.trans (hb2.mono hb1.size)))
    go_ret2
    exact ⟨rfl, hb2⟩
end Go.Proofs.Ytodkenpmhhbppaa
