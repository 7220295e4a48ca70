/-
  Contracts of the functions that the law reaches, and plain lemmas. No condition.
-/
import Derived.Test.YthgmofdfecioaaaGreatDoorK4
import Derived.Test.YthgmofdfecioaaaGreatDoorK11
import Derived.Test.YthgmofdfecioaaaGreatDoorK16
import Derived.Test.YthgmofdfecioaaaGreatDoorK30
import Derived.Test.YthgmofdfecioaaaGreatDoorK32
import Derived.Deep.LoopGhost
import Derived.Handed
import Derived.HandedShaped
import Derived.Shelf.Vars
namespace Go.Proofs.YthgmofdfecioaaaGreatDoor
set_option linter.unusedSimpArgs false
set_option linter.unusedVariables false
open Go.RowKit
/-- which operand is the main one -/
def mainI (k : Int) : Int := if k = 5 ∨ k = 15 ∨ k = 16 then 0 else if k = 12 then 1 else if k = 9 then 3 else -1
theorem main_no {k : Int} (h : ¬ (k = 5 ∨ k = 15 ∨ k = 16 ∨ k = 12 ∨ k = 9)) : mainI k = -1 := by
  unfold mainI; rw [if_neg (by omega), if_neg (by omega), if_neg (by omega)]
/-- the blocking variable, within a depth -/
def blk : Nat → Tm → Option Int
  | 0, _ => none
  | f + 1, .mk k n ks => if k = 1 then some n else if mainI k < 0 then none else blk f (ks.getD (mainI k).toNat default)
theorem blk_var {f : Nat} {n : Int} {ks : List Tm} : blk (f + 1) (.mk 1 n ks) = some n := by rw [blk, if_pos rfl]
theorem blk_no {f : Nat} {k n : Int} {ks : List Tm} (h1 : ¬ k = 1) (h : mainI k < 0) : blk (f + 1) (.mk k n ks) = none := by rw [blk, if_neg h1, if_pos h]
theorem blk_step {f : Nat} {k n : Int} {ks : List Tm} {j : Nat} (h : mainI k = (j : Int)) (hj : j < ks.length) : blk (f + 1) (.mk k n ks) = blk f ks[j] := by
  have h1 : ¬ k = 1 := by rintro rfl; have : mainI 1 = -1 := rfl; omega
  rw [blk, if_neg h1, if_neg (by omega), h]
  simp [List.getD, List.getElem?_eq_getElem hj]
set_option maxRecDepth 100000 in
set_option maxHeartbeats 2000000 in
theorem iBlock_any (d : Nat) (k n : Int) (ks : List Tm) (A : Option Addr) (c : Nat) (w : World) (hl : ks.length ≤ 9223372036854775807) (hsh : shape d (.mk k n ks) = true) (hr : Rd w A 0 ks) :
    Calls Tryz.prog 48 #[.agg #[.int .i64 k, .int .i64 n, .slice A ks.length c]] w fun e w' => e = .returned (.tuple #[.int .i64 ((blk d (.mk k n ks)).getD 0), .bool (blk d (.mk k n ks)).isSome]) ∧ Below w.heap.size w w' := by
  have hsh' := hide hsh
  clear hsh
  have hrp := hr.rdp
  go_enter Tryz.func48, Tryz.ntmps48
  go_wp2_with fail
  go_loopg [] d (fun f wr => ∃ (k1 n1 : Int) (ks1 : List Tm) (A1 : Option Addr) (c1 : Nat), Blk wr w.heap.size #[.int .i64 k1, .int .i64 n1, .slice A1 ks1.length c1] ∧ RdP (· < w.heap.size) wr A1 0 ks1 ∧ ks1.length ≤ 9223372036854775807 ∧
    Hid (shape f (.mk k1 n1 ks1) = true) ∧ Hid (blk f (.mk k1 n1 ks1) = blk d (.mk k n ks)) ∧ Below w.heap.size w wr)
  case atStart => exact ⟨k, n, ks, A, c, Blk.new_ _ _ _ (by simp), hrp.alloc _, hl, hsh', hide rfl, (Below.refl _ _).alloc (Nat.le_refl _) _⟩
  case round =>
    obtain ⟨k1, n1, ks1, A1, c1, hB, hr1, hl1, hs1, hbk, hb⟩ := hrel
    obtain ⟨f, rfl⟩ : ∃ f', gk = f' + 1 := by cases gk with | zero => have := hs1.out; simp [shape] at this | succ f => exact ⟨f, rfl⟩
    have hsp := hide ((shape_split f k1 n1 ks1).1 hs1.out)
    clear hs1
    have c0 := hB.at_ (i := 0) rfl
    have c1' := hB.at_ (i := 1) rfl
    have c2 := hB.at_ (i := 2) rfl
    have z0 := hB.frozen 0
    have z1 := hB.frozen 1
    have z2 := hB.frozen 2
    by_cases hk1 : k1 = 1
    · subst hk1
      go_wp2_with fail
      go_ret2
      refine ⟨?_, hb⟩
      rw [← hbk.out, blk_var]
      rfl
    · by_cases hk : k1 = 5 ∨ k1 = 15 ∨ k1 = 16 ∨ k1 = 12 ∨ k1 = 9
      · rcases hk with rfl | rfl | rfl | rfl | rfl
        · have hj : 0 < ks1.length := by have h1 : arity 5 = 2 := rfl; have := hsp.out.1; omega
          have hm' := hide (show mainI 5 = ((0 : Nat) : Int) from rfl)
          obtain ⟨b3, off3, k2, n2, ks2, A3, c3, rfl, hk3, x0, x1, x2, hl2, hr2⟩ := hr1.at_ hj
          have H3 := hide hk3
          clear hk3
          simp only [Nat.reduceMul, Nat.zero_mul, Nat.add_zero, Nat.one_mul, Nat.zero_add, Nat.add_assoc, Nat.reduceAdd] at x0 x1 x2
          have hlen : (0 : Int) < (ks1.length : Int) := by omega
          clear hk1
          go_wp2_with fail
          go_roundg f
          case measure => omega
          case rel =>
            refine ⟨k2, n2, ks2, A3, c3, ((hB.set_ 0 _).set_ 1 _).set_ 2 _, ((hr2.setCell (by simp) _).setCell (by simp) _).setCell (by simp) _, hl2, ?_, ?_, ((hb.setCell (by simp) _).setCell (by simp) _).setCell (by simp) _⟩
            · refine hide ?_
              have := hsp.out.2.2.2 _ (List.getElem_mem hj)
              rw [H3.out] at this
              exact this
            · refine hide ?_
              rw [← hbk.out, blk_step hm'.out hj, H3.out]
        · have hj : 0 < ks1.length := by have h1 : arity 15 = 1 := rfl; have := hsp.out.1; omega
          have hm' := hide (show mainI 15 = ((0 : Nat) : Int) from rfl)
          obtain ⟨b3, off3, k2, n2, ks2, A3, c3, rfl, hk3, x0, x1, x2, hl2, hr2⟩ := hr1.at_ hj
          have H3 := hide hk3
          clear hk3
          simp only [Nat.reduceMul, Nat.zero_mul, Nat.add_zero, Nat.one_mul, Nat.zero_add, Nat.add_assoc, Nat.reduceAdd] at x0 x1 x2
          have hlen : (0 : Int) < (ks1.length : Int) := by omega
          clear hk1
          go_wp2_with fail
          go_roundg f
          case measure => omega
          case rel =>
            refine ⟨k2, n2, ks2, A3, c3, ((hB.set_ 0 _).set_ 1 _).set_ 2 _, ((hr2.setCell (by simp) _).setCell (by simp) _).setCell (by simp) _, hl2, ?_, ?_, ((hb.setCell (by simp) _).setCell (by simp) _).setCell (by simp) _⟩
            · refine hide ?_
              have := hsp.out.2.2.2 _ (List.getElem_mem hj)
              rw [H3.out] at this
              exact this
            · refine hide ?_
              rw [← hbk.out, blk_step hm'.out hj, H3.out]
        · have hj : 0 < ks1.length := by have h1 : arity 16 = 1 := rfl; have := hsp.out.1; omega
          have hm' := hide (show mainI 16 = ((0 : Nat) : Int) from rfl)
          obtain ⟨b3, off3, k2, n2, ks2, A3, c3, rfl, hk3, x0, x1, x2, hl2, hr2⟩ := hr1.at_ hj
          have H3 := hide hk3
          clear hk3
          simp only [Nat.reduceMul, Nat.zero_mul, Nat.add_zero, Nat.one_mul, Nat.zero_add, Nat.add_assoc, Nat.reduceAdd] at x0 x1 x2
          have hlen : (0 : Int) < (ks1.length : Int) := by omega
          clear hk1
          go_wp2_with fail
          go_roundg f
          case measure => omega
          case rel =>
            refine ⟨k2, n2, ks2, A3, c3, ((hB.set_ 0 _).set_ 1 _).set_ 2 _, ((hr2.setCell (by simp) _).setCell (by simp) _).setCell (by simp) _, hl2, ?_, ?_, ((hb.setCell (by simp) _).setCell (by simp) _).setCell (by simp) _⟩
            · refine hide ?_
              have := hsp.out.2.2.2 _ (List.getElem_mem hj)
              rw [H3.out] at this
              exact this
            · refine hide ?_
              rw [← hbk.out, blk_step hm'.out hj, H3.out]
        · have hj : 1 < ks1.length := by have h1 : arity 12 = 3 := rfl; have := hsp.out.1; omega
          have hm' := hide (show mainI 12 = ((1 : Nat) : Int) from rfl)
          obtain ⟨b3, off3, k2, n2, ks2, A3, c3, rfl, hk3, x0, x1, x2, hl2, hr2⟩ := hr1.at_ hj
          have H3 := hide hk3
          clear hk3
          simp only [Nat.reduceMul, Nat.zero_mul, Nat.add_zero, Nat.one_mul, Nat.zero_add, Nat.add_assoc, Nat.reduceAdd] at x0 x1 x2
          have hlen : (1 : Int) < (ks1.length : Int) := by omega
          clear hk1
          go_wp2_with fail
          go_roundg f
          case measure => omega
          case rel =>
            refine ⟨k2, n2, ks2, A3, c3, ((hB.set_ 0 _).set_ 1 _).set_ 2 _, ((hr2.setCell (by simp) _).setCell (by simp) _).setCell (by simp) _, hl2, ?_, ?_, ((hb.setCell (by simp) _).setCell (by simp) _).setCell (by simp) _⟩
            · refine hide ?_
              have := hsp.out.2.2.2 _ (List.getElem_mem hj)
              rw [H3.out] at this
              exact this
            · refine hide ?_
              rw [← hbk.out, blk_step hm'.out hj, H3.out]
        · have hj : 3 < ks1.length := by have h1 : arity 9 = 4 := rfl; have := hsp.out.1; omega
          have hm' := hide (show mainI 9 = ((3 : Nat) : Int) from rfl)
          obtain ⟨b3, off3, k2, n2, ks2, A3, c3, rfl, hk3, x0, x1, x2, hl2, hr2⟩ := hr1.at_ hj
          have H3 := hide hk3
          clear hk3
          simp only [Nat.reduceMul, Nat.zero_mul, Nat.add_zero, Nat.one_mul, Nat.zero_add, Nat.add_assoc, Nat.reduceAdd] at x0 x1 x2
          have hlen : (3 : Int) < (ks1.length : Int) := by omega
          clear hk1
          go_wp2_with fail
          go_roundg f
          case measure => omega
          case rel =>
            refine ⟨k2, n2, ks2, A3, c3, ((hB.set_ 0 _).set_ 1 _).set_ 2 _, ((hr2.setCell (by simp) _).setCell (by simp) _).setCell (by simp) _, hl2, ?_, ?_, ((hb.setCell (by simp) _).setCell (by simp) _).setCell (by simp) _⟩
            · refine hide ?_
              have := hsp.out.2.2.2 _ (List.getElem_mem hj)
              rw [H3.out] at this
              exact this
            · refine hide ?_
              rw [← hbk.out, blk_step hm'.out hj, H3.out]
      · have hm := main_no hk
        have n5 := k_ne (k := k1) (m := 5) (by omega)
        have n15 := k_ne (k := k1) (m := 15) (by omega)
        have n16 := k_ne (k := k1) (m := 16) (by omega)
        have n12 := k_ne (k := k1) (m := 12) (by omega)
        have n9 := k_ne (k := k1) (m := 9) (by omega)
        have n1' := k_ne hk1
        have hk1' := hide hk1
        have hm' := hide hm
        clear hk hk1 hm
        go_wp2_with fail
        go_ret2
        refine ⟨?_, hb⟩
        rw [← hbk.out, blk_no hk1'.out (by rw [hm'.out]; omega)]
        rfl
open Go.RowKit
set_option maxRecDepth 100000 in
set_option maxHeartbeats 2000000 in
theorem iNormalTerm_any (k n : Int) (ks : List Tm) (A : Option Addr) (c : Nat) (w : World) (hM : sizes ks ≤ 1099511627775) (hr : Rd w A 0 ks) :
    Calls Tryz.prog 47 #[.agg #[.int .i64 k, .int .i64 n, .slice A ks.length c]] w fun e w' => e = .returned (.bool (validT (.mk k n ks) && nrm (.mk k n ks))) ∧ Below w.heap.size w w' := by
  have hlen := length_le_sizes ks
  cases hv : validT (.mk k n ks) with
  | false =>
    rw [Bool.false_and]
    go_enter Tryz.func47, Tryz.ntmps47
    go_wp2_with (go_at_call 35; refine (iTermValid_any k n ks A c _ hM (hr.alloc _)).mono ?_; rw [hv]; rintro e w1 ⟨rfl, hb1⟩; have hB1 := (Blk.new_ w 27 #[.int .i64 k, .int .i64 n, .slice A ks.length c] rfl).keep hb1; obtain ⟨p10, p11, p12⟩ := hB1.three; have hr1 := (hr.alloc (.cells #[.int .i64 k, .int .i64 n, .slice A ks.length c] 27)).below hb1; replace hb1 := ((Below.refl _ _).alloc (Nat.le_refl _) _).trans (hb1.mono (by simp)))
    go_ret
    exact ⟨rfl, hb1⟩
  | true =>
    have hs : shape 30 (.mk k n ks) = true := by simp only [validT, Bool.and_eq_true] at hv; exact hv.1
    rw [Bool.true_and]
    go_enter Tryz.func47, Tryz.ntmps47
    go_wp2_with (first | (go_at_call 35; refine (iTermValid_any k n ks A c _ hM (hr.alloc _)).mono ?_; rw [hv]; rintro e w1 ⟨rfl, hb1⟩; have hB1 := (Blk.new_ w 27 #[.int .i64 k, .int .i64 n, .slice A ks.length c] rfl).keep hb1; obtain ⟨p10, p11, p12⟩ := hB1.three; have hr1 := (hr.alloc (.cells #[.int .i64 k, .int .i64 n, .slice A ks.length c] 27)).below hb1; replace hb1 := ((Below.refl _ _).alloc (Nat.le_refl _) _).trans (hb1.mono (by simp))) | (go_at_call 46; refine (outer_any (sizes ks + 1) 30 k n ks A c _ (by omega) (by omega) hs hM hr1).mono ?_; rintro e w2 ⟨A2, m2, c2, rfl, hm2, hp2, hb2⟩; replace hb2 := hb1.trans (hb2.mono hb1.size)))
    go_ret
    exact ⟨ret_bool (by simp), hb2⟩
/-- a valid normal term -/
def nf (t : Tm) : Bool := validT t && nrm t
theorem nf_shape {t : Tm} (h : nf t = true) : shape 30 t = true := by
  simp only [nf, validT, Bool.and_eq_true] at h; exact h.1.1
/-- which canonical form a kind makes -/
def formC (k : Int) : Int :=
  if k = 2 ∨ k = 3 ∨ k = 6 ∨ k = 10 ∨ k = 13 then 1 else if k = 4 then 2 else if k = 7 ∨ k = 8 then 3 else if k = 11 then 4 else if k = 14 then 5 else 0
/-- the kinds of canonical forms -/
def isForm (k : Int) : Prop := k = 2 ∨ k = 3 ∨ k = 6 ∨ k = 10 ∨ k = 13 ∨ k = 4 ∨ k = 7 ∨ k = 8 ∨ k = 11 ∨ k = 14
theorem formC_no {k : Int} (h : ¬ isForm k) : formC k = 0 := by
  unfold isForm at h; unfold formC; rw [if_neg (by omega), if_neg (by omega), if_neg (by omega), if_neg (by omega), if_neg (by omega)]
theorem blk_form {f : Nat} {k n : Int} {ks : List Tm} (h : isForm k) : blk f (.mk k n ks) = none := by
  unfold isForm at h
  cases f with
  | zero => rfl
  | succ f => exact blk_no (by omega) (by rw [main_no (by omega)]; decide)
/-- what FormOf answers -/
def formOf (t : Tm) : Int := if nf t = true then (if (blk 30 t).isSome = true then 6 else formC t.k) else 0
set_option maxRecDepth 100000 in
set_option maxHeartbeats 2000000 in
theorem iFormOf_any (k n : Int) (ks : List Tm) (A : Option Addr) (c : Nat) (w : World) (hM : sizes ks ≤ 1099511627775) (hr : Rd w A 0 ks) :
    Calls Tryz.prog 20 #[.agg #[.int .i64 k, .int .i64 n, .slice A ks.length c]] w fun e w' => e = .returned (.int .i64 (formOf (.mk k n ks))) ∧ Below w.heap.size w w' := by
  have hlen := length_le_sizes ks
  cases hnf : nf (.mk k n ks) with
  | false =>
    have hz : formOf (.mk k n ks) = 0 := by simp [formOf, hnf]
    have hnf' : (validT (.mk k n ks) && nrm (.mk k n ks)) = false := hnf
    rw [hz]
    go_enter Tryz.func20, Tryz.ntmps20
    go_wp2_with (go_at_call 47; refine (iNormalTerm_any k n ks A c _ hM (hr.alloc _)).mono ?_; rw [hnf']; rintro e w1 ⟨rfl, hb1⟩; have hB1 := (Blk.new_ w 27 #[.int .i64 k, .int .i64 n, .slice A ks.length c] rfl).keep hb1; obtain ⟨p10, p11, p12⟩ := hB1.three; have hr1 := (hr.alloc (.cells #[.int .i64 k, .int .i64 n, .slice A ks.length c] 27)).below hb1; replace hb1 := ((Below.refl _ _).alloc (Nat.le_refl _) _).trans (hb1.mono (by simp)))
    go_ret
    exact ⟨rfl, hb1⟩
  | true =>
    have hs := nf_shape hnf
    have hnf' : (validT (.mk k n ks) && nrm (.mk k n ks)) = true := hnf
    by_cases hk : isForm k
    · have hz : formOf (.mk k n ks) = formC k := by simp [formOf, hnf, blk_form hk, Tm.k]
      rw [hz]
      clear hz hnf
      rcases hk with rfl | rfl | rfl | rfl | rfl | rfl | rfl | rfl | rfl | rfl
      all_goals
        go_enter Tryz.func20, Tryz.ntmps20
        go_wp2_with (go_at_call 47; refine (iNormalTerm_any _ n ks A c _ hM (hr.alloc _)).mono ?_; rw [hnf']; rintro e w1 ⟨rfl, hb1⟩; have hB1 := (Blk.new_ w 27 #[.int .i64 _, .int .i64 n, .slice A ks.length c] rfl).keep hb1; obtain ⟨p10, p11, p12⟩ := hB1.three; have hr1 := (hr.alloc (.cells #[.int .i64 _, .int .i64 n, .slice A ks.length c] 27)).below hb1; replace hb1 := ((Below.refl _ _).alloc (Nat.le_refl _) _).trans (hb1.mono (by simp)))
        go_ret
        exact ⟨rfl, hb1⟩
    · have hz : formOf (.mk k n ks) = if (blk 30 (.mk k n ks)).isSome = true then 6 else 0 := by simp [formOf, hnf, formC_no hk, Tm.k]
      unfold isForm at hk
      have n2 := k_ne (k := k) (m := 2) (by omega)
      have n3 := k_ne (k := k) (m := 3) (by omega)
      have n6 := k_ne (k := k) (m := 6) (by omega)
      have n10 := k_ne (k := k) (m := 10) (by omega)
      have n13 := k_ne (k := k) (m := 13) (by omega)
      have n4 := k_ne (k := k) (m := 4) (by omega)
      have n7 := k_ne (k := k) (m := 7) (by omega)
      have n8 := k_ne (k := k) (m := 8) (by omega)
      have n11 := k_ne (k := k) (m := 11) (by omega)
      have n14 := k_ne (k := k) (m := 14) (by omega)
      clear hk
      cases hb : blk 30 (.mk k n ks) with
      | none =>
        have hi : (blk 30 (.mk k n ks)).isSome = false := by rw [hb]; rfl
        have hg : (blk 30 (.mk k n ks)).getD 0 = 0 := by rw [hb]; rfl
        rw [hz, hi]
        clear hb hz hnf
        go_enter Tryz.func20, Tryz.ntmps20
        go_wp2_with (first | (go_at_call 47; refine (iNormalTerm_any k n ks A c _ hM (hr.alloc _)).mono ?_; rw [hnf']; rintro e w1 ⟨rfl, hb1⟩; have hB1 := (Blk.new_ w 27 #[.int .i64 k, .int .i64 n, .slice A ks.length c] rfl).keep hb1; obtain ⟨p10, p11, p12⟩ := hB1.three; have hr1 := (hr.alloc (.cells #[.int .i64 k, .int .i64 n, .slice A ks.length c] 27)).below hb1; replace hb1 := ((Below.refl _ _).alloc (Nat.le_refl _) _).trans (hb1.mono (by simp))) | (go_at_call 48; refine (iBlock_any 30 k n ks A c _ (by omega) hs hr1).mono ?_; rw [hi, hg]; rintro e w2 ⟨rfl, hb2⟩; have hB2 := hB1.keep hb2; obtain ⟨p20, p21, p22⟩ := hB2.three; replace hb2 := hb1.trans (hb2.mono hb1.size)))
        go_ret
        exact ⟨rfl, hb2⟩
      | some v =>
        have hi : (blk 30 (.mk k n ks)).isSome = true := by rw [hb]; rfl
        have hg : (blk 30 (.mk k n ks)).getD 0 = v := by rw [hb]; rfl
        rw [hz, hi]
        clear hb hz hnf
        go_enter Tryz.func20, Tryz.ntmps20
        go_wp2_with (first | (go_at_call 47; refine (iNormalTerm_any k n ks A c _ hM (hr.alloc _)).mono ?_; rw [hnf']; rintro e w1 ⟨rfl, hb1⟩; have hB1 := (Blk.new_ w 27 #[.int .i64 k, .int .i64 n, .slice A ks.length c] rfl).keep hb1; obtain ⟨p10, p11, p12⟩ := hB1.three; have hr1 := (hr.alloc (.cells #[.int .i64 k, .int .i64 n, .slice A ks.length c] 27)).below hb1; replace hb1 := ((Below.refl _ _).alloc (Nat.le_refl _) _).trans (hb1.mono (by simp))) | (go_at_call 48; refine (iBlock_any 30 k n ks A c _ (by omega) hs hr1).mono ?_; rw [hi, hg]; rintro e w2 ⟨rfl, hb2⟩; have hB2 := hB1.keep hb2; obtain ⟨p20, p21, p22⟩ := hB2.three; replace hb2 := hb1.trans (hb2.mono hb1.size)))
        go_ret
        exact ⟨rfl, hb2⟩
open Go.RowKit
theorem name_callsT {P : Program} {f : FuncId} {args : Array Value} {w : World} {Q : Ending → World → Prop} (h : ∀ wx, wx = w → Calls P f args wx Q) : Calls P f args w Q := h w rfl
/-- a statement with a proof that the inference accepts; both are closed -/
def prfB (s p : Tm) : Bool := validT s && validT p && clsT 0 s && clsT 0 p && (lvS (infS 40 [] s)).isSome && chkS (infS 40 [] p) s
set_option maxRecDepth 100000 in
theorem prf1 : prfB thS1 thP1 = true := by decide +kernel
set_option maxRecDepth 100000 in
theorem prf2 : prfB thS2 thP2 = true := by decide +kernel
set_option maxRecDepth 100000 in
theorem prf3 : prfB thS3 thP3 = true := by decide +kernel
set_option maxRecDepth 100000 in
theorem prf4 : prfB thS4 thP4 = true := by decide +kernel
set_option maxRecDepth 100000 in
theorem prf5 : prfB thS5 thP5 = true := by decide +kernel
structure PrfOk (s p : Tm) (l : Int) : Prop where
  vs : validT s = true
  vp : validT p = true
  cs : clsT 0 s = true
  cp : clsT 0 p = true
  lv : lvS (infS 40 [] s) = some l
  ck : chkS (infS 40 [] p) s = true
theorem prf_ok {s p : Tm} (h : prfB s p = true) : ∃ l, PrfOk s p l := by
  simp only [prfB, Bool.and_eq_true] at h
  obtain ⟨⟨⟨⟨⟨h1, h2⟩, h3⟩, h4⟩, h5⟩, h6⟩ := h
  obtain ⟨l, hl⟩ := Option.isSome_iff_exists.1 h5
  exact ⟨l, h1, h2, h3, h4, hl, h6⟩
theorem prf_at {thm : Int} {sR pR sB pB : List UInt8} {oS oP : Option Tm} (h : ThmAt thm sR pR sB pB oS oP) : (oS = none ∧ oP = none) ∨ ∃ s p l, oS = some s ∧ oP = some p ∧ PrfOk s p l := by
  rcases h with ⟨_, _, _, _, _, h, h2⟩ | ⟨_, _, _, _, _, h, h2⟩ | ⟨_, _, _, _, _, h, h2⟩ | ⟨_, _, _, _, _, h, h2⟩ | ⟨_, _, _, _, _, h, h2⟩ | ⟨_, _, _, _, _, h, h2⟩
  · obtain ⟨l, hl⟩ := prf_ok prf1; exact .inr ⟨_, _, l, h, h2, hl⟩
  · obtain ⟨l, hl⟩ := prf_ok prf2; exact .inr ⟨_, _, l, h, h2, hl⟩
  · obtain ⟨l, hl⟩ := prf_ok prf3; exact .inr ⟨_, _, l, h, h2, hl⟩
  · obtain ⟨l, hl⟩ := prf_ok prf4; exact .inr ⟨_, _, l, h, h2, hl⟩
  · obtain ⟨l, hl⟩ := prf_ok prf5; exact .inr ⟨_, _, l, h, h2, hl⟩
  · exact .inl ⟨h, h2⟩
/-- what is asked of a normal term -/
def nmB (r : Option Tm × Int) : Bool := match r with
  | (some x, c) => c != 0 || formOf x == 4 || formOf x == 2
  | (none, c) => c != 0
/-- an instance of a statement with the instance of its proof that the inference accepts -/
def insB (s p : Tm) (m : Nat) : Bool := match substI 0 (numT m) (kidT s.ks 1) with
  | some u => (lvS (infS 60 [] u)).isSome && chkS (infS 60 [] (appT p (numT m))) u && nmB (redI outP 200 (appT p (numT m)))
  | none => true
set_option maxRecDepth 100000 in
theorem ins1 : ([0, 1, 2, 3, 5, 20].all fun m => insB thS1 thP1 m) = true := by decide +kernel
set_option maxRecDepth 100000 in
theorem ins2 : ([0, 1, 2, 3, 5, 20].all fun m => insB thS2 thP2 m) = true := by decide +kernel
set_option maxRecDepth 100000 in
theorem ins3 : ([0, 1, 2, 3, 5, 20].all fun m => insB thS3 thP3 m) = true := by decide +kernel
set_option maxRecDepth 100000 in
theorem ins5 : ([0, 1, 2, 3, 5, 20].all fun m => insB thS5 thP5 m) = true := by decide +kernel
theorem num_mem2 {m : Nat} (h : (m : Int) ∈ numL) (h2 : m ≤ 20) : m ∈ [0, 1, 2, 3, 5, 20] := by
  simp only [numL, List.mem_cons, List.not_mem_nil, or_false] at h ⊢
  omega
theorem ins_all {thm : Int} {sR pR sB pB : List UInt8} {s p : Tm} (h : ThmAt thm sR pR sB pB (some s) (some p)) {m : Nat} (hm : (m : Int) ∈ numL) (h2 : m ≤ 20) {b : Tm} (hs : s = .mk 3 0 [.mk 6 0 [], b]) : insB s p m = true := by
  have hmm := num_mem2 hm h2
  rcases h with ⟨_, _, _, _, _, h, h2⟩ | ⟨_, _, _, _, _, h, h2⟩ | ⟨_, _, _, _, _, h, h2⟩ | ⟨_, _, _, _, _, h, h2⟩ | ⟨_, _, _, _, _, h, h2⟩ | ⟨_, _, _, _, _, h, h2⟩
  · injection h with h; injection h2 with h2; subst h h2; exact List.all_eq_true.1 ins1 m hmm
  · injection h with h; injection h2 with h2; subst h h2; exact List.all_eq_true.1 ins2 m hmm
  · injection h with h; injection h2 with h2; subst h h2; exact List.all_eq_true.1 ins3 m hmm
  · injection h with h; subst h; simp [thS4] at hs
  · injection h with h; injection h2 with h2; subst h h2; exact List.all_eq_true.1 ins5 m hmm
  · cases h
/-- what is used: nothing; or a term with its type -/
structure InsOk (k1 n1 : Int) (ks1 : List Tm) (k2 n2 : Int) (ks2 : List Tm) (l : Int) : Prop where
  v1 : validT (.mk k1 n1 ks1) = true
  v2 : validT (.mk k2 n2 ks2) = true
  lv : lvS (infS 60 [] (.mk k2 n2 ks2)) = some l
  ck : chkS (infS 60 [] (.mk k1 n1 ks1)) (.mk k2 n2 ks2) = true
  nm : nmB (redI outP 200 (.mk k1 n1 ks1)) = true
theorem ins_of {thm n : Int} {sR pR sB pB : List UInt8} {oS oP : Option Tm} (h : ThmAt thm sR pR sB pB oS oP) (hn : n ∈ numL) {r : Option (Tm × Tm)} (hu : UseAt oS oP n r) :
    r = none ∨ ∃ k1 n1 ks1 k2 n2 ks2 l, r = some (.mk k1 n1 ks1, .mk k2 n2 ks2) ∧ InsOk k1 n1 ks1 k2 n2 ks2 l := by
  rcases hu with ⟨s, p, m, pk, pn, pks, kb, nb, kbs, rk, rn, rks, rfl, rfl, rfl, hu, rfl⟩ | ⟨hno, rfl⟩
  · have ho := ins_all h hn hu.hm hu.hs
    have hp := hu.hp
    subst hp
    rw [insB, hu.hs, show kidT (Tm.mk 3 0 [.mk 6 0 [], .mk kb nb kbs]).ks 1 = .mk kb nb kbs from rfl, hu.hj] at ho
    simp only [Bool.and_eq_true] at ho
    obtain ⟨⟨h1, h2⟩, h3⟩ := ho
    obtain ⟨l, hl⟩ := Option.isSome_iff_exists.1 h1
    exact .inr ⟨_, _, _, _, _, _, l, rfl, hu.hav, hu.hr, hl, h2, h3⟩
  · exact .inl rfl
open Go.RowKit
theorem change_and_shaped {H : Type} {enc : TypeId × Value → H} {a : Assume} {C : Checked} {os : Os} {f : FuncId} {fn : Func} {s : ChangeSpec} {conds : List PathCond} {apart fresh handsOn again : Bool} {X : World → Array Value → Prop}
    (hX : ∀ (w w' : World) (args : Array Value), w.heap = w'.heap → X w args → X w' args)
    (own : ownKnob C.prog.godebug = none) (started : os.Started) (noInit : C.prog.inits.idxOf? f = none) (hfn : C.prog.funcs[f]? = some fn)
    (witness : ∃ (w : World) (tape : Tape) (i : Input), w.os = os ∧ (w.forCall tape i).Shaped C.prog ∧ i.vars = [] ∧ Input.okWide C.prog (w.forCall tape i) .any w.heap.size f i ∧
      ((s.pre enc C.prog fn conds apart (w.forCall tape i).memory i.args ∧ X (w.forCall tape i).memory i.args) ∧ sizedMet enc C.prog fn (OpenSpec.ofChange s) apart (w.forCall tape i).memory i.args) ∧ a.holds C.prog (lone (Frame.enter C.prog f i.args .normal) [] (w.forCall tape i)))
    (contract : ∀ (W : World) (base : Nat) (args : Array Value) (ds gs : List (DataW H)) (before : List MemPlace),
      (∀ (j : Nat) t v, fn.params[j]? = some t → args[j]? = some v → Value.okWide C.prog W .any base t v) →
      DataW.Whole enc C.prog fn.params.toList s.vars apart W args.toList ds gs before →
      W.ShapedOpen C.prog → X W args →
      Calls C.prog f args W fun e W' => ∃ v, e = .returned v ∧ s.post enc C.prog fn apart fresh handsOn again W args v W') :
    ReturnsInHanded a C os f .any (fun w args => (s.pre enc C.prog fn conds apart w args ∧ X w args) ∧ sizedMet enc C.prog fn (OpenSpec.ofChange s) apart w args) (s.post enc C.prog fn apart fresh handsOn again) := by
  refine returnsInHanded_of_calls own started noInit witness ?_
  intro w tape i _ hsh _ hok hpre hholds
  obtain ⟨_, _, _, fn', hfn', _, _, _, _, hval⟩ := hok
  obtain rfl : fn' = fn := Option.some.inj (hfn'.symm.trans hfn)
  obtain ⟨⟨⟨ds, gs, before, hw, hc⟩, hx⟩, hz⟩ := hpre
  refine (contract (w.forCall tape i) w.heap.size i.args ds gs before hval (DataW.Whole.of_heap (w' := w.forCall tape i) (by rfl) hw) hsh (hX _ _ _ (by rfl) hx)).mono fun e W' ⟨v, he, hp⟩ => ?_
  subst he
  exact ChangeSpec.post_blind hp
theorem gm_of {w : World} (h : w.ShapedOpen Tryz.prog) : GM w :=
  cell_of_shapedOpen_int (zero := #[.int .i64 0]) (t := 3) h (of_decide_eq_true (by kernel_rfl)) (by kernel_rfl) rfl (by kernel_rfl) (by kernel_rfl) Tryz.underlying3
end Go.Proofs.YthgmofdfecioaaaGreatDoor
