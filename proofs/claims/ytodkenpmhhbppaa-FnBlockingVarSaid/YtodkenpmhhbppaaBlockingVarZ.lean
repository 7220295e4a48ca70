/-
  The statement FnBlockingVarSaid, proved.
-/
import Derived.Test.YtodkenpmhhbppaaK1
import Derived.Test.YtodkenpmhhbppaaK2
import Derived.Test.YtodkenpmhhbppaaK3
import Derived.Test.YtodkenpmhhbppaaK4
import Derived.Test.YtodkenpmhhbppaaK6
import Derived.Test.YtodkenpmhhbppaaK11
import Derived.Test.YtodkenpmhhbppaaK12
import Derived.Test.YtodkenpmhhbppaaK13
import Derived.Test.YtodkenpmhhbppaaK15
import Derived.Deep.LoopGhost

namespace Go.Proofs.Ytodkenpmhhbppaa
open Go.RowKit
set_option linter.unusedSimpArgs false
set_option linter.unusedVariables false

/-- which operand is the main one -/
def mainI (k : Int) : Int := if k = 5 ∨ k = 15 ∨ k = 16 then 0 else if k = 12 then 1 else if k = 9 then 3 else -1
theorem main_no {k : Int} (h : ¬ (k = 5 ∨ k = 15 ∨ k = 16 ∨ k = 12 ∨ k = 9)) : mainI k = -1 := by
  unfold mainI; rw [if_neg (by omega), if_neg (by omega), if_neg (by omega)]
/-- the blocking variable, within a depth -/
def blk : Nat → Tm → Option Int
  | 0, _ => none
  | f + 1, .mk k n ks => if k = 1 then some n else if mainI k < 0 then none else blk f (ks.getD (mainI k).toNat default)
theorem blk_var {f : Nat} {n : Int} {ks : List Tm} : blk (f + 1) (.mk 1 n ks) = some n := by rw [blk, if_pos rfl]
theorem blk_no {f : Nat} {k n : Int} {ks : List Tm} (h1 : ¬ k = 1) (h : mainI k < 0) : blk (f + 1) (.mk k n ks) = none := by rw [blk, if_neg h1, if_pos h]
theorem blk_step {f : Nat} {k n : Int} {ks : List Tm} {j : Nat} (h : mainI k = (j : Int)) (hj : j < ks.length) : blk (f + 1) (.mk k n ks) = blk f ks[j] := by
  have h1 : ¬ k = 1 := by rintro rfl; have : mainI 1 = -1 := rfl; omega
  rw [blk, if_neg h1, if_neg (by omega), h]
  simp [List.getD, List.getElem?_eq_getElem hj]
theorem main_lt {k : Int} {ks : List Tm} (ha : arity k = (ks.length : Int)) (h : 0 ≤ mainI k) : ∃ j : Nat, mainI k = (j : Int) ∧ j < ks.length := by
  by_cases hk : k = 5 ∨ k = 15 ∨ k = 16 ∨ k = 12 ∨ k = 9
  · rcases hk with rfl | rfl | rfl | rfl | rfl
    · exact ⟨0, rfl, by have : arity 5 = 2 := rfl; omega⟩
    · exact ⟨0, rfl, by have : arity 15 = 1 := rfl; omega⟩
    · exact ⟨0, rfl, by have : arity 16 = 1 := rfl; omega⟩
    · exact ⟨1, rfl, by have : arity 12 = 3 := rfl; omega⟩
    · exact ⟨3, rfl, by have : arity 9 = 4 := rfl; omega⟩
  · rw [main_no hk] at h; omega

set_option maxRecDepth 100000 in
set_option maxHeartbeats 1000000 in
theorem sMain_any (k : Int) (w : World) : Calls Try.prog 112 #[.int .i64 k] w fun e w' => e = .returned (.int .i64 (mainI k)) ∧ Below w.heap.size w w' := by
  by_cases hk : k = 5 ∨ k = 15 ∨ k = 16 ∨ k = 12 ∨ k = 9
  · rcases hk with rfl | rfl | rfl | rfl | rfl
    all_goals
      go_enter Try.func112, Try.ntmps112
      go_wp2_with fail
      go_ret
      exact ⟨rfl, Below.refl _ _⟩
  · have h0 : mainI k = -1 := main_no hk
    have n5 := k_ne (k := k) (m := 5) (by omega)
    have n15 := k_ne (k := k) (m := 15) (by omega)
    have n16 := k_ne (k := k) (m := 16) (by omega)
    have n12 := k_ne (k := k) (m := 12) (by omega)
    have n9 := k_ne (k := k) (m := 9) (by omega)
    clear hk
    rw [h0]
    go_enter Try.func112, Try.ntmps112
    go_wp2_with fail
    go_ret
    exact ⟨rfl, Below.refl _ _⟩

set_option maxRecDepth 100000 in
set_option maxHeartbeats 2000000 in
theorem sBlock_any (d : Nat) (k n : Int) (ks : List Tm) (A : Option Addr) (c : Nat) (w : World) (hl : ks.length ≤ 9223372036854775807) (hsh : shape d (.mk k n ks) = true) (hr : Rd w A 0 ks) :
    Calls Try.prog 68 #[.agg #[.int .i64 k, .int .i64 n, .slice A ks.length c]] w fun e w' => e = .returned (.tuple #[.int .i64 ((blk d (.mk k n ks)).getD 0), .bool (blk d (.mk k n ks)).isSome]) ∧ Below w.heap.size w w' := by
  have hsh' := hide hsh
  clear hsh
  have hrp := hr.rdp
  go_enter Try.func68, Try.ntmps68
  go_wp2_with fail
  go_loopg [] d (fun f wr => ∃ (k1 n1 : Int) (ks1 : List Tm) (A1 : Option Addr) (c1 : Nat), Blk wr w.heap.size #[.int .i64 k1, .int .i64 n1, .slice A1 ks1.length c1] ∧ RdP (· < w.heap.size) wr A1 0 ks1 ∧ ks1.length ≤ 9223372036854775807 ∧
    Hid (shape f (.mk k1 n1 ks1) = true) ∧ Hid (blk f (.mk k1 n1 ks1) = blk d (.mk k n ks)) ∧ Below w.heap.size w wr)
  case atStart => exact ⟨k, n, ks, A, c, Blk.new_ _ _ _ (by simp), hrp.alloc _, hl, hsh', hide rfl, (Below.refl _ _).alloc (Nat.le_refl _) _⟩
  case round =>
    obtain ⟨k1, n1, ks1, A1, c1, hB, hr1, hl1, hs1, hbk, hb⟩ := hrel
    obtain ⟨f, rfl⟩ : ∃ f', gk = f' + 1 := by cases gk with | zero => have := hs1.out; simp [shape] at this | succ f => exact ⟨f, rfl⟩
    have hsp := hide ((shape_split f k1 n1 ks1).1 hs1.out)
    clear hs1
    have c0 := hB.at_ (i := 0) rfl
    have c1' := hB.at_ (i := 1) rfl
    have c2 := hB.at_ (i := 2) rfl
    have z0 := hB.frozen 0
    have z1 := hB.frozen 1
    have z2 := hB.frozen 2
    by_cases hk1 : k1 = 1
    · subst hk1
      go_wp2_with fail
      go_ret2
      refine ⟨?_, hb⟩
      rw [← hbk.out, blk_var]
      rfl
    · have q1 := k_ne hk1
      have hk1' := hide hk1
      clear hk1
      by_cases hm : mainI k1 < 0
      · have q2 : decide (mainI k1 < 0) = true := decide_eq_true hm
        have hm' := hide hm
        clear hm
        go_wp2_with (go_at_call 112; refine (sMain_any k1 _).mono ?_; rintro e w1 ⟨rfl, hb1⟩)
        go_ret2
        refine ⟨?_, hb.trans (hb1.mono hb.size)⟩
        rw [← hbk.out, blk_no hk1'.out hm'.out]
        rfl
      · have q2 : decide (mainI k1 < 0) = false := decide_eq_false hm
        obtain ⟨j, hm, hj⟩ := main_lt hsp.out.1 (by omega)
        rw [hm] at q2
        obtain ⟨b, off, k2, n2, ks2, A2, c2', rfl, hkj, -, -, -, -, -⟩ := hr1.at_ hj
        have H3 := hide hkj
        clear hkj
        have hm' := hide hm
        clear hm
        go_wp2_with (go_at_call 112; refine (sMain_any k1 _).mono ?_; rw [hm'.out]; rintro e w1 ⟨rfl, hb1⟩; replace hB := hB.keep hb1; replace hr1 := hr1.below hb1; replace hb := hb.trans (hb1.mono hb.size); obtain ⟨b3, off3, k3, n3, ks3, A3, c3, e3, hk3, x0, x1, x2, hl2, hr2⟩ := hr1.at_ hj; cases e3; have e4 := H3.out.symm.trans hk3; cases e4; clear hk3; have y0 := hB.at_ (i := 0) rfl; have y1 := hB.at_ (i := 1) rfl; have y2 := hB.at_ (i := 2) rfl; have z0 := hB.frozen 0; have z1 := hB.frozen 1; have z2 := hB.frozen 2)
        go_roundg f
        case measure => omega
        case rel =>
          refine ⟨k2, n2, ks2, A3, c3, ((hB.set_ 0 _).set_ 1 _).set_ 2 _, ((hr2.setCell (by simp) _).setCell (by simp) _).setCell (by simp) _, hl2, ?_, ?_, ((hb.setCell (by simp) _).setCell (by simp) _).setCell (by simp) _⟩
          · refine hide ?_
            have := hsp.out.2.2.2 _ (List.getElem_mem hj)
            rw [H3.out] at this
            exact this
          · refine hide ?_
            rw [← hbk.out, blk_step hm'.out hj, H3.out]

set_option maxRecDepth 100000 in
set_option maxHeartbeats 2000000 in
theorem iBlock_any (d : Nat) (k n : Int) (ks : List Tm) (A : Option Addr) (c : Nat) (w : World) (hl : ks.length ≤ 9223372036854775807) (hsh : shape d (.mk k n ks) = true) (hr : Rd w A 0 ks) :
    Calls Try.prog 66 #[.agg #[.int .i64 k, .int .i64 n, .slice A ks.length c]] w fun e w' => e = .returned (.tuple #[.int .i64 ((blk d (.mk k n ks)).getD 0), .bool (blk d (.mk k n ks)).isSome]) ∧ Below w.heap.size w w' := by
  have hsh' := hide hsh
  clear hsh
  have hrp := hr.rdp
  go_enter Try.func66, Try.ntmps66
  go_wp2_with fail
  go_loopg [] d (fun f wr => ∃ (k1 n1 : Int) (ks1 : List Tm) (A1 : Option Addr) (c1 : Nat), Blk wr w.heap.size #[.int .i64 k1, .int .i64 n1, .slice A1 ks1.length c1] ∧ RdP (· < w.heap.size) wr A1 0 ks1 ∧ ks1.length ≤ 9223372036854775807 ∧
    Hid (shape f (.mk k1 n1 ks1) = true) ∧ Hid (blk f (.mk k1 n1 ks1) = blk d (.mk k n ks)) ∧ Below w.heap.size w wr)
  case atStart => exact ⟨k, n, ks, A, c, Blk.new_ _ _ _ (by simp), hrp.alloc _, hl, hsh', hide rfl, (Below.refl _ _).alloc (Nat.le_refl _) _⟩
  case round =>
    obtain ⟨k1, n1, ks1, A1, c1, hB, hr1, hl1, hs1, hbk, hb⟩ := hrel
    obtain ⟨f, rfl⟩ : ∃ f', gk = f' + 1 := by cases gk with | zero => have := hs1.out; simp [shape] at this | succ f => exact ⟨f, rfl⟩
    have hsp := hide ((shape_split f k1 n1 ks1).1 hs1.out)
    clear hs1
    have c0 := hB.at_ (i := 0) rfl
    have c1' := hB.at_ (i := 1) rfl
    have c2 := hB.at_ (i := 2) rfl
    have z0 := hB.frozen 0
    have z1 := hB.frozen 1
    have z2 := hB.frozen 2
    by_cases hk1 : k1 = 1
    · subst hk1
      go_wp2_with fail
      go_ret2
      refine ⟨?_, hb⟩
      rw [← hbk.out, blk_var]
      rfl
    · by_cases hk : k1 = 5 ∨ k1 = 15 ∨ k1 = 16 ∨ k1 = 12 ∨ k1 = 9
      · rcases hk with rfl | rfl | rfl | rfl | rfl
        · have hj : 0 < ks1.length := by have h1 : arity 5 = 2 := rfl; have := hsp.out.1; omega
          have hm' := hide (show mainI 5 = ((0 : Nat) : Int) from rfl)
          obtain ⟨b3, off3, k2, n2, ks2, A3, c3, rfl, hk3, x0, x1, x2, hl2, hr2⟩ := hr1.at_ hj
          have H3 := hide hk3
          clear hk3
          simp only [Nat.reduceMul, Nat.zero_mul, Nat.add_zero, Nat.one_mul, Nat.zero_add, Nat.add_assoc, Nat.reduceAdd] at x0 x1 x2
          have hlen : (0 : Int) < (ks1.length : Int) := by omega
          clear hk1
          go_wp2_with fail
          go_roundg f
          case measure => omega
          case rel =>
            refine ⟨k2, n2, ks2, A3, c3, ((hB.set_ 0 _).set_ 1 _).set_ 2 _, ((hr2.setCell (by simp) _).setCell (by simp) _).setCell (by simp) _, hl2, ?_, ?_, ((hb.setCell (by simp) _).setCell (by simp) _).setCell (by simp) _⟩
            · refine hide ?_
              have := hsp.out.2.2.2 _ (List.getElem_mem hj)
              rw [H3.out] at this
              exact this
            · refine hide ?_
              rw [← hbk.out, blk_step hm'.out hj, H3.out]
        · have hj : 0 < ks1.length := by have h1 : arity 15 = 1 := rfl; have := hsp.out.1; omega
          have hm' := hide (show mainI 15 = ((0 : Nat) : Int) from rfl)
          obtain ⟨b3, off3, k2, n2, ks2, A3, c3, rfl, hk3, x0, x1, x2, hl2, hr2⟩ := hr1.at_ hj
          have H3 := hide hk3
          clear hk3
          simp only [Nat.reduceMul, Nat.zero_mul, Nat.add_zero, Nat.one_mul, Nat.zero_add, Nat.add_assoc, Nat.reduceAdd] at x0 x1 x2
          have hlen : (0 : Int) < (ks1.length : Int) := by omega
          clear hk1
          go_wp2_with fail
          go_roundg f
          case measure => omega
          case rel =>
            refine ⟨k2, n2, ks2, A3, c3, ((hB.set_ 0 _).set_ 1 _).set_ 2 _, ((hr2.setCell (by simp) _).setCell (by simp) _).setCell (by simp) _, hl2, ?_, ?_, ((hb.setCell (by simp) _).setCell (by simp) _).setCell (by simp) _⟩
            · refine hide ?_
              have := hsp.out.2.2.2 _ (List.getElem_mem hj)
              rw [H3.out] at this
              exact this
            · refine hide ?_
              rw [← hbk.out, blk_step hm'.out hj, H3.out]
        · have hj : 0 < ks1.length := by have h1 : arity 16 = 1 := rfl; have := hsp.out.1; omega
          have hm' := hide (show mainI 16 = ((0 : Nat) : Int) from rfl)
          obtain ⟨b3, off3, k2, n2, ks2, A3, c3, rfl, hk3, x0, x1, x2, hl2, hr2⟩ := hr1.at_ hj
          have H3 := hide hk3
          clear hk3
          simp only [Nat.reduceMul, Nat.zero_mul, Nat.add_zero, Nat.one_mul, Nat.zero_add, Nat.add_assoc, Nat.reduceAdd] at x0 x1 x2
          have hlen : (0 : Int) < (ks1.length : Int) := by omega
          clear hk1
          go_wp2_with fail
          go_roundg f
          case measure => omega
          case rel =>
            refine ⟨k2, n2, ks2, A3, c3, ((hB.set_ 0 _).set_ 1 _).set_ 2 _, ((hr2.setCell (by simp) _).setCell (by simp) _).setCell (by simp) _, hl2, ?_, ?_, ((hb.setCell (by simp) _).setCell (by simp) _).setCell (by simp) _⟩
            · refine hide ?_
              have := hsp.out.2.2.2 _ (List.getElem_mem hj)
              rw [H3.out] at this
              exact this
            · refine hide ?_
              rw [← hbk.out, blk_step hm'.out hj, H3.out]
        · have hj : 1 < ks1.length := by have h1 : arity 12 = 3 := rfl; have := hsp.out.1; omega
          have hm' := hide (show mainI 12 = ((1 : Nat) : Int) from rfl)
          obtain ⟨b3, off3, k2, n2, ks2, A3, c3, rfl, hk3, x0, x1, x2, hl2, hr2⟩ := hr1.at_ hj
          have H3 := hide hk3
          clear hk3
          simp only [Nat.reduceMul, Nat.zero_mul, Nat.add_zero, Nat.one_mul, Nat.zero_add, Nat.add_assoc, Nat.reduceAdd] at x0 x1 x2
          have hlen : (1 : Int) < (ks1.length : Int) := by omega
          clear hk1
          go_wp2_with fail
          go_roundg f
          case measure => omega
          case rel =>
            refine ⟨k2, n2, ks2, A3, c3, ((hB.set_ 0 _).set_ 1 _).set_ 2 _, ((hr2.setCell (by simp) _).setCell (by simp) _).setCell (by simp) _, hl2, ?_, ?_, ((hb.setCell (by simp) _).setCell (by simp) _).setCell (by simp) _⟩
            · refine hide ?_
              have := hsp.out.2.2.2 _ (List.getElem_mem hj)
              rw [H3.out] at this
              exact this
            · refine hide ?_
              rw [← hbk.out, blk_step hm'.out hj, H3.out]
        · have hj : 3 < ks1.length := by have h1 : arity 9 = 4 := rfl; have := hsp.out.1; omega
          have hm' := hide (show mainI 9 = ((3 : Nat) : Int) from rfl)
          obtain ⟨b3, off3, k2, n2, ks2, A3, c3, rfl, hk3, x0, x1, x2, hl2, hr2⟩ := hr1.at_ hj
          have H3 := hide hk3
          clear hk3
          simp only [Nat.reduceMul, Nat.zero_mul, Nat.add_zero, Nat.one_mul, Nat.zero_add, Nat.add_assoc, Nat.reduceAdd] at x0 x1 x2
          have hlen : (3 : Int) < (ks1.length : Int) := by omega
          clear hk1
          go_wp2_with fail
          go_roundg f
          case measure => omega
          case rel =>
            refine ⟨k2, n2, ks2, A3, c3, ((hB.set_ 0 _).set_ 1 _).set_ 2 _, ((hr2.setCell (by simp) _).setCell (by simp) _).setCell (by simp) _, hl2, ?_, ?_, ((hb.setCell (by simp) _).setCell (by simp) _).setCell (by simp) _⟩
            · refine hide ?_
              have := hsp.out.2.2.2 _ (List.getElem_mem hj)
              rw [H3.out] at this
              exact this
            · refine hide ?_
              rw [← hbk.out, blk_step hm'.out hj, H3.out]
      · have hm := main_no hk
        have n5 := k_ne (k := k1) (m := 5) (by omega)
        have n15 := k_ne (k := k1) (m := 15) (by omega)
        have n16 := k_ne (k := k1) (m := 16) (by omega)
        have n12 := k_ne (k := k1) (m := 12) (by omega)
        have n9 := k_ne (k := k1) (m := 9) (by omega)
        have n1' := k_ne hk1
        have hk1' := hide hk1
        have hm' := hide hm
        clear hk hk1 hm
        go_wp2_with fail
        go_ret2
        refine ⟨?_, hb⟩
        rw [← hbk.out, blk_no hk1'.out (by rw [hm'.out]; omega)]
        rfl
end Go.Proofs.Ytodkenpmhhbppaa

namespace Go.Proofs.Ytodkenpmhhbppaa
open Go.RowKit
set_option linter.unusedSimpArgs false
set_option linter.unusedVariables false

/-- what subst puts in a variable's place -/
def sbF (x : Int) (u : Tm) (n d : Int) : Tm := if n - d = x then (shiftI d 0 u).getD (.mk 0 0 []) else if x < n - d then .mk 1 (n - 1) [] else .mk 1 n []
def sbOk (x : Int) (u : Tm) (n d : Int) : Bool := if n - d = x then (shiftI d 0 u).isSome else true
set_option maxHeartbeats 4000000 in
set_option maxRecDepth 100000 in
theorem subst1_ok {x k' n' : Int} {ks' : List Tm} {A' : Option Addr} {c' bi ba g : Nat} {W0 : World} (hx : 0 ≤ x ∧ x ≤ 20) (hsh : shape 30 (.mk k' n' ks') = true) (hsz : sizes ks' ≤ 1000000000) (hI : Blk W0 bi #[.int .i64 x]) (hA : Blk W0 ba #[.int .i64 k', .int .i64 n', .slice A' ks'.length c']) (hR : RdP (· ≠ g) W0 A' 0 ks') (hig : bi ≠ g) (hag : ba ≠ g) :
    FunOk 113 [.pointer (some ⟨bi, 0, none⟩), .pointer (some ⟨ba, 0, none⟩), .pointer (some ⟨g, 0, none⟩)] W0 g (sbF x (.mk k' n' ks')) (sbOk x (.mk k' n' ks')) := by
  intro n d w b hn0 hn1 hd0 hd1 hW hg
  have hIw := hI.grown hW (by simpa using hig)
  have hAw := hA.grown hW (by simpa using hag)
  have hRw := hR.grown hW (fun b hb e => hb (by injection e))
  have i0 := hIw.at_ (i := 0) rfl
  have x0 := hAw.at_ (i := 0) rfl
  have x1 := hAw.at_ (i := 1) rfl
  have x3 := hAw.at_ (i := 2) rfl
  have x2 := hg.at_ (i := 0) rfl
  have z2 := hg.frozen 0
  have li := hIw.lt
  have l0 := hAw.lt
  have l2 := hg.lt
  have hrd := hRw.rd
  have H4 := hide hsh
  clear hsh
  by_cases h1 : n - d = x
  · have hz : sbF x (.mk k' n' ks') n d = (shiftI d 0 (.mk k' n' ks')).getD (.mk 0 0 []) := by rw [sbF, if_pos h1]
    have hzo : sbOk x (.mk k' n' ks') n d = (shiftI d 0 (.mk k' n' ks')).isSome := by rw [sbOk, if_pos h1]
    rw [hz, hzo]
    have q1 : ((n - d) == x) = true := by simpa using h1
    have H := hide h1
    clear h1 hz hzo
    cases hsi : shiftI d 0 (.mk k' n' ks') with
    | none =>
      rw [show (none : Option Tm).getD (.mk 0 0 []) = .mk 0 0 [] from rfl, show (none : Option Tm).isSome = false from rfl, Bool.and_false]
      cases b
      all_goals
        go_enter Try.func113, Try.ntmps113
        go_wp2_with (go_at_call 92; refine (shift_any k' n' ks' A' c' d 0 _ (by omega) (by omega) (by omega) H4.out (hrd.alloc _)).mono ?_; rw [hsi]; intro e w1 hp; obtain ⟨he, hb1⟩ := gotO_none hp; subst he; clear hp; have hT : Blk w1 w.heap.size #[.int .i64 0, .int .i64 0, .slice none 0 0] := (Blk.new_ _ 25 _ rfl).keep hb1; obtain ⟨d0, d1, d2⟩ := hT.three; have e0 := hT.frozen 0; have e1 := hT.frozen 1; have e2 := hT.frozen 2; have hG1 := (hg.alloc (.cells #[.int .i64 0, .int .i64 0, .slice none 0 0] 25)).keep hb1; have g1 := hG1.at_ (i := 0) rfl; have gz := hG1.frozen 0; have lT := hT.lt; have lG := hG1.lt; replace hb1 : w.grownBy w1 (some g) := only_below (only_alloc (World.grownBy.refl _ _) _) hb1)
        have y := fun (v : Value) (o : Obj) => ((((((hT.far (p := ⟨g, 0, none⟩) (by simp; omega) v).set_ 0 (.int .i64 0)).set_ 1 (.int .i64 0)).set_ 2 (.slice none 0 0)).alloc o : Blk _ _ #[.int .i64 0, .int .i64 0, .slice none 0 0])).three
        refine bodyPost_ret (v := .agg #[.int .i64 0, .int .i64 0, .slice none 0 0]) (by simp [results, Try.results113, go_sem, y]) rfl ⟨_, _, rfl, ?_, ?_, ?_, ?_⟩
        · simp [Tm.ks]
        · exact Fresh.nil
        · exact ((((hG1.set_ 0 (.bool false)).far (by simp; omega) _).far (by simp; omega) _).far (by simp; omega) _).alloc _
        · exact only_alloc (only_setCell (only_setCell (only_setCell (only_setCell hb1 (.inl rfl) _) (.inr (by simp)) _) (.inr (by simp)) _) (.inr (by simp)) _) _
    | some t =>
      obtain ⟨k2, n2, ks2⟩ := t
      rw [show (some (Tm.mk k2 n2 ks2)).getD (.mk 0 0 []) = .mk k2 n2 ks2 from rfl, show (some (Tm.mk k2 n2 ks2)).isSome = true from rfl, Bool.and_true]
      cases b
      · go_enter Try.func113, Try.ntmps113
        go_wp2_with (go_at_call 92; refine (shift_any k' n' ks' A' c' d 0 _ (by omega) (by omega) (by omega) H4.out (hrd.alloc _)).mono ?_; rw [hsi]; intro e w1 hp; obtain ⟨A1, c1, rfl, hl1, hf1, hb1⟩ := gotO_some hp; clear hp; have hT : Blk w1 w.heap.size #[.int .i64 0, .int .i64 0, .slice none 0 0] := (Blk.new_ _ 25 _ rfl).keep hb1; obtain ⟨d0, d1, d2⟩ := hT.three; have e0 := hT.frozen 0; have e1 := hT.frozen 1; have e2 := hT.frozen 2; have hG1 := (hg.alloc (.cells #[.int .i64 0, .int .i64 0, .slice none 0 0] 25)).keep hb1; have g1 := hG1.at_ (i := 0) rfl; have gz := hG1.frozen 0; have lT := hT.lt; have lG := hG1.lt; replace hf1 : Fresh (w.heap.size + 1) w1 A1 ks2 := hf1.mono (by simp); replace hb1 : w.grownBy w1 (some g) := only_below (only_alloc (World.grownBy.refl _ _) _) hb1)
        have y := fun (v : Value) (o : Obj) => ((((((hT.far (p := ⟨g, 0, none⟩) (by simp; omega) v).set_ 0 (.int .i64 k2)).set_ 1 (.int .i64 n2)).set_ 2 (.slice A1 ks2.length c1)).alloc o : Blk _ _ #[.int .i64 k2, .int .i64 n2, .slice A1 ks2.length c1])).three
        refine bodyPost_ret (v := .agg #[.int .i64 k2, .int .i64 n2, .slice A1 ks2.length c1]) (by simp [results, Try.results113, go_sem, y]) rfl ⟨_, _, rfl, ?_, ?_, ?_, ?_⟩
        · exact hl1
        · exact (((((hf1.setCell (by simp; omega) _).setCell (by simp) _).setCell (by simp) _).setCell (by simp) _).alloc _).mono (by simp)
        · exact ((((hG1.set_ 0 (.bool false)).far (by simp; omega) _).far (by simp; omega) _).far (by simp; omega) _).alloc _
        · exact only_alloc (only_setCell (only_setCell (only_setCell (only_setCell hb1 (.inl rfl) _) (.inr (by simp)) _) (.inr (by simp)) _) (.inr (by simp)) _) _
      · go_enter Try.func113, Try.ntmps113
        go_wp2_with (go_at_call 92; refine (shift_any k' n' ks' A' c' d 0 _ (by omega) (by omega) (by omega) H4.out (hrd.alloc _)).mono ?_; rw [hsi]; intro e w1 hp; obtain ⟨A1, c1, rfl, hl1, hf1, hb1⟩ := gotO_some hp; clear hp; have hT : Blk w1 w.heap.size #[.int .i64 0, .int .i64 0, .slice none 0 0] := (Blk.new_ _ 25 _ rfl).keep hb1; obtain ⟨d0, d1, d2⟩ := hT.three; have e0 := hT.frozen 0; have e1 := hT.frozen 1; have e2 := hT.frozen 2; have hG1 := (hg.alloc (.cells #[.int .i64 0, .int .i64 0, .slice none 0 0] 25)).keep hb1; have g1 := hG1.at_ (i := 0) rfl; have gz := hG1.frozen 0; have lT := hT.lt; have lG := hG1.lt; replace hf1 : Fresh (w.heap.size + 1) w1 A1 ks2 := hf1.mono (by simp); replace hb1 : w.grownBy w1 (some g) := only_below (only_alloc (World.grownBy.refl _ _) _) hb1)
        have y := fun (v : Value) (o : Obj) => ((((((hT.far (p := ⟨g, 0, none⟩) (by simp; omega) v).set_ 0 (.int .i64 k2)).set_ 1 (.int .i64 n2)).set_ 2 (.slice A1 ks2.length c1)).alloc o : Blk _ _ #[.int .i64 k2, .int .i64 n2, .slice A1 ks2.length c1])).three
        refine bodyPost_ret (v := .agg #[.int .i64 k2, .int .i64 n2, .slice A1 ks2.length c1]) (by simp [results, Try.results113, go_sem, y]) rfl ⟨_, _, rfl, ?_, ?_, ?_, ?_⟩
        · exact hl1
        · exact (((((hf1.setCell (by simp; omega) _).setCell (by simp) _).setCell (by simp) _).setCell (by simp) _).alloc _).mono (by simp)
        · exact ((((hG1.set_ 0 (.bool true)).far (by simp; omega) _).far (by simp; omega) _).far (by simp; omega) _).alloc _
        · exact only_alloc (only_setCell (only_setCell (only_setCell (only_setCell hb1 (.inl rfl) _) (.inr (by simp)) _) (.inr (by simp)) _) (.inr (by simp)) _) _
  · have q1 : ((n - d) == x) = false := by simpa using h1
    have hzo : sbOk x (.mk k' n' ks') n d = true := by rw [sbOk, if_neg h1]
    by_cases h2 : x < n - d
    · have hz : sbF x (.mk k' n' ks') n d = .mk 1 (n - 1) [] := by rw [sbF, if_neg h1, if_pos h2]
      rw [hz, hzo, Bool.and_true]
      have q2 : decide (x < n - d) = true := decide_eq_true h2
      have H := hide h1
      clear h1 h2 hz hzo
      go_enter Try.func113, Try.ntmps113
      go_wp2_with (go_at_call 104; refine (variable_any _ _).mono ?_; rintro e w1 ⟨rfl, hv1⟩; have hT : Blk w1 w.heap.size #[.int .i64 0, .int .i64 0, .slice none 0 0] := (Blk.new_ _ 25 _ rfl).keep hv1; obtain ⟨d0, d1, d2⟩ := hT.three; have e0 := hT.frozen 0; have e1 := hT.frozen 1; have e2 := hT.frozen 2; have hG1 := (hg.alloc (.cells #[.int .i64 0, .int .i64 0, .slice none 0 0] 25)).keep hv1; replace hv1 : w.grownBy w1 (some g) := only_below (only_alloc (World.grownBy.refl _ _) _) hv1)
      refine bodyPost_ret (v := .agg #[.int .i64 1, .int .i64 (n - 1), .slice none 0 0]) (by simp [results, Try.results113, go_sem, d0, d1, d2]) rfl ⟨none, 0, rfl, by simp [Tm.ks], Fresh.nil, ?_, ?_⟩
      · exact ((hG1.far (by simp; omega) _).far (by simp; omega) _).far (by simp; omega) _
      · exact only_setCell (only_setCell (only_setCell hv1 (.inr (by simp)) _) (.inr (by simp)) _) (.inr (by simp)) _
    · have hz : sbF x (.mk k' n' ks') n d = .mk 1 n [] := by rw [sbF, if_neg h1, if_neg h2]
      rw [hz, hzo, Bool.and_true]
      have q2 : decide (x < n - d) = false := decide_eq_false h2
      have H := hide h1
      clear h1 h2 hz hzo
      go_enter Try.func113, Try.ntmps113
      go_wp2_with (go_at_call 104; refine (variable_any _ _).mono ?_; rintro e w1 ⟨rfl, hv1⟩; have hT : Blk w1 w.heap.size #[.int .i64 0, .int .i64 0, .slice none 0 0] := (Blk.new_ _ 25 _ rfl).keep hv1; obtain ⟨d0, d1, d2⟩ := hT.three; have e0 := hT.frozen 0; have e1 := hT.frozen 1; have e2 := hT.frozen 2; have hG1 := (hg.alloc (.cells #[.int .i64 0, .int .i64 0, .slice none 0 0] 25)).keep hv1; replace hv1 : w.grownBy w1 (some g) := only_below (only_alloc (World.grownBy.refl _ _) _) hv1)
      refine bodyPost_ret (v := .agg #[.int .i64 1, .int .i64 (n), .slice none 0 0]) (by simp [results, Try.results113, go_sem, d0, d1, d2]) rfl ⟨none, 0, rfl, by simp [Tm.ks], Fresh.nil, ?_, ?_⟩
      · exact ((hG1.far (by simp; omega) _).far (by simp; omega) _).far (by simp; omega) _
      · exact only_setCell (only_setCell (only_setCell hv1 (.inr (by simp)) _) (.inr (by simp)) _) (.inr (by simp)) _

/-- what subst answers -/
def substI (x : Int) (u : Tm) (t : Tm) : Option Tm := if chgOk (sbOk x u) 0 t = true then (if validT (chg (sbF x u) 0 t) = true then some (chg (sbF x u) 0 t) else none) else none
theorem sbF_size (x : Int) (u : Tm) (n d : Int) : (sbF x u n d).size ≤ 400 := by
  unfold sbF
  split
  · unfold shiftI
    split
    · split
      · rename_i h; exact validT_size h
      · simp [Tm.size, sizes]
    · simp [Tm.size, sizes]
  · split <;> simp [Tm.size, sizes]

set_option maxHeartbeats 4000000 in
set_option maxRecDepth 100000 in
theorem subst_any (k n : Int) (ks : List Tm) (A : Option Addr) (c : Nat) (x ku nu : Int) (us : List Tm) (B : Option Addr) (cb : Nat) (w : World) (hx : 0 ≤ x ∧ x ≤ 20) (hsa : shape 30 (.mk ku nu us) = true) (hza : sizes us ≤ 1000000000) (hRa : Rd w B 0 us) (hM : sizes ks ≤ 1000) (hs : shape 30 (.mk k n ks) = true) (hr : Rd w A 0 ks) :
    Calls Try.prog 70 #[(.agg #[.int .i64 k, .int .i64 n, .slice A ks.length c]), .int .i64 x, .agg #[.int .i64 ku, .int .i64 nu, .slice B us.length cb]] w (GotO w (substI x (.mk ku nu us) (.mk k n ks))) := by
  have hrp : RdP (· ≠ w.heap.size + 4) w A 0 ks := hr.rdp.mono (fun b hb => by have hb : b < w.heap.size := hb; show b ≠ _; omega)
  have hRp : RdP (· ≠ w.heap.size + 4) w B 0 us := hRa.rdp.mono (fun b hb => by have hb : b < w.heap.size := hb; show b ≠ _; omega)
  obtain ⟨k2, n2, ks2, hct⟩ := tm_eta (chg (sbF x (.mk ku nu us)) 0 (.mk k n ks))
  have hsz2 : sizes ks2 ≤ 1000000001 := by
    have := (chg_size (by omega) (sbF_size x (.mk ku nu us))).1 (.mk k n ks) 0
    rw [hct, Tm.size, Tm.size] at this
    omega
  cases hok : chgOk (sbOk x (.mk ku nu us)) 0 (.mk k n ks) with
  | false =>
    have hz : substI x (.mk ku nu us) (.mk k n ks) = none := by rw [substI, hok]; rfl
    rw [hz]
    clear hz
    go_enter Try.func70, Try.ntmps70
    go_wp2_with (go_at_call 102; refine (changed_any (subst1_ok (x := x) (k' := ku) (n' := nu) (ks' := us) (A' := B) (c' := cb) (bi := w.heap.size + 1) (ba := w.heap.size + 2) (g := w.heap.size + 4) hx hsa hza ((((Blk.new_ _ 3 _ (by simp)).alloc _).alloc _).alloc _) (((Blk.new_ _ 25 _ (by simp)).alloc _).alloc _) (((((hRp.alloc _).alloc _).alloc _).alloc _).alloc _) (by omega) (by omega)) (run_enter Try.func113 (by kernel_rfl) (by kernel_rfl)) (sizes ks + 1) k n ks A c 0 30 _ true (by omega) hs (by omega) (by omega) (by omega) (World.grownBy.refl _ _) (Blk.new_ _ 4 _ (by simp)) (((((hrp.alloc _).alloc _).alloc _).alloc _).alloc _)).mono ?_; rw [hct, hok]; intro e w6 hpost; obtain ⟨A6, c6, rfl, hl6, hf6, hG6, hg6⟩ := gotG_mk hpost; clear hpost; have hT6 : Blk w6 (w.heap.size + 1 + 1 + 1) #[.int .i64 0, .int .i64 0, .slice none 0 0] := ((Blk.new_ _ 25 _ (by simp)).alloc _).grown hg6 (by simp); have f0 := hG6.at_ (i := 0) rfl; obtain ⟨d0, d1, d2⟩ := hT6.three; have e0 := hT6.frozen 0; have e1 := hT6.frozen 1; have e2 := hT6.frozen 2; have lT := hT6.lt; have lG := hG6.lt; have hb6 : Below w.heap.size w w6 := ((((((Below.refl _ _).alloc (Nat.le_refl _) _).alloc (by simp) _).alloc (by simp; omega) _).alloc (by simp; omega) _).alloc (by simp; omega) _).grown hg6 (by simp; omega) (fun k e => by cases e; omega); replace hf6 := hf6.mono (B' := w.heap.size + 5) (by simp))
    have y := fun o => (((((hT6.set_ 0 (.int .i64 0)).set_ 1 (.int .i64 0)).set_ 2 (.slice none 0 0)).alloc o : Blk _ _ #[.int .i64 0, .int .i64 0, .slice none 0 0])).three
    refine bodyPost_ret (v := .tuple #[zeroV, .bool false]) (by simp [results, Try.results70, go_sem, y, zeroV]) rfl ⟨rfl, ?_⟩
    exact (((hb6.setCell (by simp; omega) _).setCell (by simp; omega) _).setCell (by simp; omega) _).alloc (by simp [World.setCell]; omega) _
  | true =>
    cases hv : validT (.mk k2 n2 ks2) with
    | false =>
      have hz : substI x (.mk ku nu us) (.mk k n ks) = none := by rw [substI, hok, if_pos rfl, hct, hv]; rfl
      rw [hz]
      clear hz
      go_enter Try.func70, Try.ntmps70
      go_wp2_with (first | (go_at_call 102; refine (changed_any (subst1_ok (x := x) (k' := ku) (n' := nu) (ks' := us) (A' := B) (c' := cb) (bi := w.heap.size + 1) (ba := w.heap.size + 2) (g := w.heap.size + 4) hx hsa hza ((((Blk.new_ _ 3 _ (by simp)).alloc _).alloc _).alloc _) (((Blk.new_ _ 25 _ (by simp)).alloc _).alloc _) (((((hRp.alloc _).alloc _).alloc _).alloc _).alloc _) (by omega) (by omega)) (run_enter Try.func113 (by kernel_rfl) (by kernel_rfl)) (sizes ks + 1) k n ks A c 0 30 _ true (by omega) hs (by omega) (by omega) (by omega) (World.grownBy.refl _ _) (Blk.new_ _ 4 _ (by simp)) (((((hrp.alloc _).alloc _).alloc _).alloc _).alloc _)).mono ?_; rw [hct, hok]; intro e w6 hpost; obtain ⟨A6, c6, rfl, hl6, hf6, hG6, hg6⟩ := gotG_mk hpost; clear hpost; have hT6 : Blk w6 (w.heap.size + 1 + 1 + 1) #[.int .i64 0, .int .i64 0, .slice none 0 0] := ((Blk.new_ _ 25 _ (by simp)).alloc _).grown hg6 (by simp); have f0 := hG6.at_ (i := 0) rfl; obtain ⟨d0, d1, d2⟩ := hT6.three; have e0 := hT6.frozen 0; have e1 := hT6.frozen 1; have e2 := hT6.frozen 2; have lT := hT6.lt; have lG := hG6.lt; have hb6 : Below w.heap.size w w6 := ((((((Below.refl _ _).alloc (Nat.le_refl _) _).alloc (by simp) _).alloc (by simp; omega) _).alloc (by simp; omega) _).alloc (by simp; omega) _).grown hg6 (by simp; omega) (fun k e => by cases e; omega); replace hf6 := hf6.mono (B' := w.heap.size + 5) (by simp)) | (go_at_call 82; refine (valid_no k2 n2 ks2 A6 c6 _ (by omega) (hf6.rd.alloc _) hv).mono ?_; rintro e w8 ⟨rfl, hb8⟩; have hT8 : Blk w8 (w.heap.size + 1 + 1 + 1) #[.int .i64 0, .int .i64 0, .slice none 0 0] := (hT6.alloc _).keep hb8; obtain ⟨x0, x1, x2⟩ := hT8.three; have e80 := hT8.frozen 0; have e81 := hT8.frozen 1; have e82 := hT8.frozen 2; replace hb8 : Below w.heap.size w w8 := (hb6.alloc hb6.size _).trans (hb8.mono (by have := hb6.size; simp; omega)); have hzz : zeroV = .agg #[.int .i64 0, .int .i64 0, .slice none 0 0] := rfl))
      refine bodyPost_ret (v := .tuple #[zeroV, .bool false]) (by simp [results, Try.results70, go_sem, x0, x1, x2, zeroV]) rfl ⟨rfl, ?_⟩
      exact ((hb8.setCell (by simp; omega) _).setCell (by simp; omega) _).setCell (by simp; omega) _
    | true =>
      have hz : substI x (.mk ku nu us) (.mk k n ks) = some (.mk k2 n2 ks2) := by rw [substI, hok, if_pos rfl, hct, hv]; rfl
      rw [hz]
      clear hz
      go_enter Try.func70, Try.ntmps70
      go_wp2_with (first | (go_at_call 102; refine (changed_any (subst1_ok (x := x) (k' := ku) (n' := nu) (ks' := us) (A' := B) (c' := cb) (bi := w.heap.size + 1) (ba := w.heap.size + 2) (g := w.heap.size + 4) hx hsa hza ((((Blk.new_ _ 3 _ (by simp)).alloc _).alloc _).alloc _) (((Blk.new_ _ 25 _ (by simp)).alloc _).alloc _) (((((hRp.alloc _).alloc _).alloc _).alloc _).alloc _) (by omega) (by omega)) (run_enter Try.func113 (by kernel_rfl) (by kernel_rfl)) (sizes ks + 1) k n ks A c 0 30 _ true (by omega) hs (by omega) (by omega) (by omega) (World.grownBy.refl _ _) (Blk.new_ _ 4 _ (by simp)) (((((hrp.alloc _).alloc _).alloc _).alloc _).alloc _)).mono ?_; rw [hct, hok]; intro e w6 hpost; obtain ⟨A6, c6, rfl, hl6, hf6, hG6, hg6⟩ := gotG_mk hpost; clear hpost; have hT6 : Blk w6 (w.heap.size + 1 + 1 + 1) #[.int .i64 0, .int .i64 0, .slice none 0 0] := ((Blk.new_ _ 25 _ (by simp)).alloc _).grown hg6 (by simp); have f0 := hG6.at_ (i := 0) rfl; obtain ⟨d0, d1, d2⟩ := hT6.three; have e0 := hT6.frozen 0; have e1 := hT6.frozen 1; have e2 := hT6.frozen 2; have lT := hT6.lt; have lG := hG6.lt; have hb6 : Below w.heap.size w w6 := ((((((Below.refl _ _).alloc (Nat.le_refl _) _).alloc (by simp) _).alloc (by simp; omega) _).alloc (by simp; omega) _).alloc (by simp; omega) _).grown hg6 (by simp; omega) (fun k e => by cases e; omega); replace hf6 := hf6.mono (B' := w.heap.size + 5) (by simp)) | (go_at_call 82; refine (valid_yes k2 n2 ks2 A6 c6 _ (by omega) (hf6.rd.alloc _) hv).mono ?_; rintro e w8 ⟨rfl, hb8⟩; have hf8 := (hf6.alloc (.cells #[.int .i64 k2, .int .i64 n2, .slice A6 ks2.length c6] 25)).below hb8; have hT8 : Blk w8 (w.heap.size + 1 + 1 + 1) #[.int .i64 0, .int .i64 0, .slice none 0 0] := (hT6.alloc _).keep hb8; obtain ⟨x0, x1, x2⟩ := hT8.three; have e80 := hT8.frozen 0; have e81 := hT8.frozen 1; have e82 := hT8.frozen 2; replace hb8 : Below w.heap.size w w8 := (hb6.alloc hb6.size _).trans (hb8.mono (by have := hb6.size; simp; omega))))
      refine bodyPost_ret (v := .tuple #[.agg #[.int .i64 k2, .int .i64 n2, .slice A6 ks2.length c6], .bool true]) (by simp [results, Try.results70, go_sem, x0, x1, x2]) rfl ⟨A6, c6, rfl, hl6, ?_, ?_⟩
      · exact (((hf8.setCell (by simp) _).setCell (by simp) _).setCell (by simp) _).mono (by omega)
      · exact ((hb8.setCell (by simp; omega) _).setCell (by simp; omega) _).setCell (by simp; omega) _
end Go.Proofs.Ytodkenpmhhbppaa

namespace Go.Proofs.Ytodkenpmhhbppaa
open Go.RowKit
set_option linter.unusedSimpArgs false
set_option linter.unusedVariables false

def substTI (x : Int) (u t : Tm) : Option Tm := if validT t = true ∧ validT u = true then substI x u t else none
theorem substTI_size {x : Int} {u t : Tm} {k n : Int} {ks : List Tm} (ht : (substTI x u t).getD (.mk 0 0 []) = .mk k n ks) : sizes ks ≤ 400 := by
  unfold substTI at ht
  split at ht
  · unfold substI at ht
    split at ht
    · split at ht
      · rename_i h
        have := validT_size h
        rw [Option.getD_some] at ht
        rw [ht, Tm.size] at this; omega
      · injection ht with _ _ h3; subst h3; simp [sizes]
    · injection ht with _ _ h3; subst h3; simp [sizes]
  · injection ht with _ _ h3; subst h3; simp [sizes]
set_option maxHeartbeats 8000000 in
set_option maxRecDepth 100000 in
theorem substTerm_any (k n : Int) (ks : List Tm) (A : Option Addr) (c : Nat) (x ku nu : Int) (us : List Tm) (B : Option Addr) (cb : Nat) (w : World) (hx : 0 ≤ x ∧ x ≤ 20) (hM : sizes ks ≤ 1048576) (hMu : sizes us ≤ 1048576) (hr : Rd w A 0 ks) (hru : Rd w B 0 us) :
    Calls Try.prog 24 #[.agg #[.int .i64 k, .int .i64 n, .slice A ks.length c], .int .i64 x, .agg #[.int .i64 ku, .int .i64 nu, .slice B us.length cb]] w (GotO w (substTI x (.mk ku nu us) (.mk k n ks))) := by
  have q1 : decide (0 ≤ x) = true := decide_eq_true hx.1
  have q2 : decide (x ≤ 20) = true := decide_eq_true hx.2
  cases hv : validT (.mk k n ks) with
  | false =>
    have hz : substTI x (.mk ku nu us) (.mk k n ks) = none := by rw [substTI, if_neg (by rw [hv]; simp)]
    rw [hz]
    have hv' := hide hv
    clear hz hv
    go_enter Try.func24, Try.ntmps24
    go_wp2_with (go_at_call 34; refine (iTermValid_any k n ks A c _ (by omega) (((hr.alloc _).alloc _).alloc _)).mono ?_; rw [hv'.out]; rintro e w1 ⟨rfl, hb1⟩; have hT : Blk w1 (w.heap.size + 1 + 1) #[.int .i64 0, .int .i64 0, .slice none 0 0] := (Blk.new_ _ 25 _ (by simp)).keep hb1; obtain ⟨d0, d1, d2⟩ := hT.three; have e0 := hT.frozen 0; have e1 := hT.frozen 1; have e2 := hT.frozen 2; have g1 : Below w.heap.size w w1 := ((((Below.refl _ _).alloc (Nat.le_refl _) _).alloc (by simp) _).alloc (by simp; omega) _).trans (hb1.mono (by simp; omega)))
    refine bodyPost_ret (v := .tuple #[zeroV, .bool false]) (by simp [results, Try.results24, go_sem, d0, d1, d2, zeroV]) rfl ⟨rfl, ?_⟩
    exact ((g1.setCell (by simp; omega) _).setCell (by simp; omega) _).setCell (by simp; omega) _
  | true =>
    cases hvu : validT (.mk ku nu us) with
    | false =>
      have hz : substTI x (.mk ku nu us) (.mk k n ks) = none := by rw [substTI, if_neg (by rw [hvu]; simp)]
      rw [hz]
      have hv' := hide hv
      have hvu' := hide hvu
      clear hz hv hvu
      go_enter Try.func24, Try.ntmps24
      go_wp2_with (first
        | (go_at_call 34; have _t := tok; refine (iTermValid_any ku nu us B cb _ (by omega) ((((hru.alloc _).alloc _).alloc _).below hb1)).mono ?_; rw [hvu'.out]; rintro e w2 ⟨rfl, hb2⟩; replace hT := hT.keep hb2; obtain ⟨d0, d1, d2⟩ := hT.three; have e0 := hT.frozen 0; have e1 := hT.frozen 1; have e2 := hT.frozen 2; have g2 := g1.trans (hb2.mono g1.size); clear tok)
        | (go_at_call 34; refine (iTermValid_any k n ks A c _ (by omega) (((hr.alloc _).alloc _).alloc _)).mono ?_; rw [hv'.out]; rintro e w1 ⟨rfl, hb1⟩; have tok := trivial; have hU : Blk w1 (w.heap.size + 1) #[.int .i64 ku, .int .i64 nu, .slice B us.length cb] := ((Blk.new_ _ 25 _ (by simp)).alloc _).keep hb1; obtain ⟨u0, u1, u2⟩ := hU.three; have hT : Blk w1 (w.heap.size + 1 + 1) #[.int .i64 0, .int .i64 0, .slice none 0 0] := (Blk.new_ _ 25 _ (by simp)).keep hb1; have g1 : Below w.heap.size w w1 := ((((Below.refl _ _).alloc (Nat.le_refl _) _).alloc (by simp) _).alloc (by simp; omega) _).trans (hb1.mono (by simp; omega))))
      refine bodyPost_ret (v := .tuple #[zeroV, .bool false]) (by simp [results, Try.results24, go_sem, d0, d1, d2, zeroV]) rfl ⟨rfl, ?_⟩
      exact ((g2.setCell (by simp; omega) _).setCell (by simp; omega) _).setCell (by simp; omega) _
    | true =>
      have hz : substTI x (.mk ku nu us) (.mk k n ks) = substI x (.mk ku nu us) (.mk k n ks) := by rw [substTI, if_pos ⟨hv, hvu⟩]
      have hsz := validT_size hv
      have hszu := validT_size hvu
      rw [Tm.size] at hsz hszu
      have hs : shape 30 (.mk k n ks) = true := by simp only [validT, Bool.and_eq_true] at hv; exact hv.1
      have hsu : shape 30 (.mk ku nu us) = true := by simp only [validT, Bool.and_eq_true] at hvu; exact hvu.1
      rw [hz]
      have hv' := hide hv
      have hvu' := hide hvu
      have hs' := hide hs
      have hsu' := hide hsu
      clear hz hv hvu hs hsu
      cases ho : substI x (.mk ku nu us) (.mk k n ks) with
      | none =>
        have ho' := hide ho
        clear ho
        go_enter Try.func24, Try.ntmps24
        go_wp2_with (first
          | (go_at_call 70; refine (subst_any k n ks A c x ku nu us B cb _ hx hsu'.out (by omega) (((((hru.alloc _).alloc _).alloc _).below hb1).below hb2) (by omega) hs'.out (((((hr.alloc _).alloc _).alloc _).below hb1).below hb2)).mono ?_; rw [ho'.out]; intro e w3 hgo; obtain ⟨rfl, hb3⟩ := gotO_none hgo; clear hgo d0 d1 d2 e0 e1 e2; replace hT := hT.keep hb3; obtain ⟨d0, d1, d2⟩ := hT.three; have e0 := hT.frozen 0; have e1 := hT.frozen 1; have e2 := hT.frozen 2; have g3 := g2.trans (hb3.mono g2.size))
          | (go_at_call 69; refine (within_any _ _ _ _).mono ?_; rintro e w9 ⟨rfl, rfl⟩)
          | (go_at_call 34; have _t := tok; refine (iTermValid_any ku nu us B cb _ (by omega) ((((hru.alloc _).alloc _).alloc _).below hb1)).mono ?_; rw [hvu'.out]; rintro e w2 ⟨rfl, hb2⟩; replace hT := hT.keep hb2; replace hU := hU.keep hb2; replace hX := hX.keep hb2; clear u0 u1 u2; obtain ⟨u0, u1, u2⟩ := hU.three; obtain ⟨x0, x1, x2⟩ := hX.three; obtain ⟨d0, d1, d2⟩ := hT.three; have e0 := hT.frozen 0; have e1 := hT.frozen 1; have e2 := hT.frozen 2; have g2 := g1.trans (hb2.mono g1.size); clear tok)
          | (go_at_call 34; refine (iTermValid_any k n ks A c _ (by omega) (((hr.alloc _).alloc _).alloc _)).mono ?_; rw [hv'.out]; rintro e w1 ⟨rfl, hb1⟩; have tok := trivial; have hX : Blk w1 w.heap.size #[.int .i64 k, .int .i64 n, .slice A ks.length c] := (((Blk.new_ _ 25 _ rfl).alloc _).alloc _).keep hb1; have hU : Blk w1 (w.heap.size + 1) #[.int .i64 ku, .int .i64 nu, .slice B us.length cb] := ((Blk.new_ _ 25 _ (by simp)).alloc _).keep hb1; obtain ⟨u0, u1, u2⟩ := hU.three; have hT : Blk w1 (w.heap.size + 1 + 1) #[.int .i64 0, .int .i64 0, .slice none 0 0] := (Blk.new_ _ 25 _ (by simp)).keep hb1; have g1 : Below w.heap.size w w1 := ((((Below.refl _ _).alloc (Nat.le_refl _) _).alloc (by simp) _).alloc (by simp; omega) _).trans (hb1.mono (by simp; omega))))
        refine bodyPost_ret (v := .tuple #[zeroV, .bool false]) (by simp [results, Try.results24, go_sem, d0, d1, d2, zeroV]) rfl ⟨rfl, ?_⟩
        exact ((g3.setCell (by simp; omega) _).setCell (by simp; omega) _).setCell (by simp; omega) _
      | some t =>
        obtain ⟨k2, n2, ks2⟩ := t
        have ho' := hide ho
        clear ho
        go_enter Try.func24, Try.ntmps24
        go_wp2_with (first
          | (go_at_call 70; refine (subst_any k n ks A c x ku nu us B cb _ hx hsu'.out (by omega) (((((hru.alloc _).alloc _).alloc _).below hb1).below hb2) (by omega) hs'.out (((((hr.alloc _).alloc _).alloc _).below hb1).below hb2)).mono ?_; rw [ho'.out]; intro e w3 hgo; obtain ⟨A3, c3, rfl, hl3, hf3, hb3⟩ := gotO_some hgo; clear hgo d0 d1 d2 e0 e1 e2; replace hT := hT.keep hb3; obtain ⟨d0, d1, d2⟩ := hT.three; have e0 := hT.frozen 0; have e1 := hT.frozen 1; have e2 := hT.frozen 2; have g3 := g2.trans (hb3.mono g2.size))
          | (go_at_call 69; refine (within_any _ _ _ _).mono ?_; rintro e w9 ⟨rfl, rfl⟩)
          | (go_at_call 34; have _t := tok; refine (iTermValid_any ku nu us B cb _ (by omega) ((((hru.alloc _).alloc _).alloc _).below hb1)).mono ?_; rw [hvu'.out]; rintro e w2 ⟨rfl, hb2⟩; have lT1 := hT.lt; replace hT := hT.keep hb2; replace hU := hU.keep hb2; replace hX := hX.keep hb2; clear u0 u1 u2; obtain ⟨u0, u1, u2⟩ := hU.three; obtain ⟨x0, x1, x2⟩ := hX.three; obtain ⟨d0, d1, d2⟩ := hT.three; have e0 := hT.frozen 0; have e1 := hT.frozen 1; have e2 := hT.frozen 2; have g2 := g1.trans (hb2.mono g1.size); have s2 := hb2.size; clear tok)
          | (go_at_call 34; refine (iTermValid_any k n ks A c _ (by omega) (((hr.alloc _).alloc _).alloc _)).mono ?_; rw [hv'.out]; rintro e w1 ⟨rfl, hb1⟩; have tok := trivial; have hX : Blk w1 w.heap.size #[.int .i64 k, .int .i64 n, .slice A ks.length c] := (((Blk.new_ _ 25 _ rfl).alloc _).alloc _).keep hb1; have hU : Blk w1 (w.heap.size + 1) #[.int .i64 ku, .int .i64 nu, .slice B us.length cb] := ((Blk.new_ _ 25 _ (by simp)).alloc _).keep hb1; obtain ⟨u0, u1, u2⟩ := hU.three; have hT : Blk w1 (w.heap.size + 1 + 1) #[.int .i64 0, .int .i64 0, .slice none 0 0] := (Blk.new_ _ 25 _ (by simp)).keep hb1; have g1 : Below w.heap.size w w1 := ((((Below.refl _ _).alloc (Nat.le_refl _) _).alloc (by simp) _).alloc (by simp; omega) _).trans (hb1.mono (by simp; omega))))
        refine bodyPost_ret (v := .tuple #[.agg #[.int .i64 k2, .int .i64 n2, .slice A3 ks2.length c3], .bool true]) (by simp [results, Try.results24, go_sem, d0, d1, d2]) rfl ⟨A3, c3, rfl, hl3, ?_, ?_⟩
        · exact (((hf3.setCell (by simp; omega) _).setCell (by simp; omega) _).setCell (by simp; omega) _).mono (by omega)
        · exact ((g3.setCell (by simp; omega) _).setCell (by simp; omega) _).setCell (by simp; omega) _
set_option maxHeartbeats 4000000 in
set_option maxRecDepth 100000 in
theorem instantiate_any (k n : Int) (ks : List Tm) (A : Option Addr) (c : Nat) (ku nu : Int) (us : List Tm) (B : Option Addr) (cb : Nat) (w : World) (hM : sizes ks ≤ 1048576) (hMu : sizes us ≤ 1048576) (hr : Rd w A 0 ks) (hru : Rd w B 0 us) :
    Calls Try.prog 20 #[.agg #[.int .i64 k, .int .i64 n, .slice A ks.length c], .agg #[.int .i64 ku, .int .i64 nu, .slice B us.length cb]] w (GotO w (substTI 0 (.mk ku nu us) (.mk k n ks))) := by
  have hs := hide (fun w hr hru => substTerm_any k n ks A c 0 ku nu us B cb w (by omega) hM hMu hr hru)
  cases ho : substTI 0 (.mk ku nu us) (.mk k n ks) with
  | none =>
    have ho' := hide ho
    clear ho
    go_enter Try.func20, Try.ntmps20
    go_wp2_with (go_at_call 24; refine (hs.out _ (((hr.alloc _).alloc _).alloc _) (((hru.alloc _).alloc _).alloc _)).mono ?_; rw [ho'.out]; intro e w3 hgo; obtain ⟨rfl, hb3⟩ := gotO_none hgo; clear hgo; have hT : Blk w3 (w.heap.size + 1 + 1) #[.int .i64 0, .int .i64 0, .slice none 0 0] := (Blk.new_ _ 25 _ (by simp)).keep hb3; obtain ⟨d0, d1, d2⟩ := hT.three; have e0 := hT.frozen 0; have e1 := hT.frozen 1; have e2 := hT.frozen 2; have g3 : Below w.heap.size w w3 := ((((Below.refl _ _).alloc (Nat.le_refl _) _).alloc (by simp) _).alloc (by simp; omega) _).trans (hb3.mono (by simp; omega)))
    refine bodyPost_ret (v := .tuple #[zeroV, .bool false]) (by simp [results, Try.results20, go_sem, d0, d1, d2, zeroV]) rfl ⟨rfl, ?_⟩
    exact ((g3.setCell (by simp; omega) _).setCell (by simp; omega) _).setCell (by simp; omega) _
  | some t =>
    obtain ⟨k2, n2, ks2⟩ := t
    have ho' := hide ho
    clear ho
    go_enter Try.func20, Try.ntmps20
    go_wp2_with (go_at_call 24; refine (hs.out _ (((hr.alloc _).alloc _).alloc _) (((hru.alloc _).alloc _).alloc _)).mono ?_; rw [ho'.out]; intro e w3 hgo; obtain ⟨A3, c3, rfl, hl3, hf3, hb3⟩ := gotO_some hgo; clear hgo; have hT : Blk w3 (w.heap.size + 1 + 1) #[.int .i64 0, .int .i64 0, .slice none 0 0] := (Blk.new_ _ 25 _ (by simp)).keep hb3; obtain ⟨d0, d1, d2⟩ := hT.three; have e0 := hT.frozen 0; have e1 := hT.frozen 1; have e2 := hT.frozen 2; have g3 : Below w.heap.size w w3 := ((((Below.refl _ _).alloc (Nat.le_refl _) _).alloc (by simp) _).alloc (by simp; omega) _).trans (hb3.mono (by simp; omega)))
    refine bodyPost_ret (v := .tuple #[.agg #[.int .i64 k2, .int .i64 n2, .slice A3 ks2.length c3], .bool true]) (by simp [results, Try.results20, go_sem, d0, d1, d2]) rfl ⟨A3, c3, rfl, hl3, ?_, ?_⟩
    · exact (((hf3.setCell (by simp) _).setCell (by simp) _).setCell (by simp) _).mono (by simp; omega)
    · exact ((g3.setCell (by simp; omega) _).setCell (by simp; omega) _).setCell (by simp; omega) _
end Go.Proofs.Ytodkenpmhhbppaa

namespace Go.Proofs.Ytodkenpmhhbppaa
open Go.RowKit
set_option linter.unusedSimpArgs false
set_option linter.unusedVariables false

theorem blks_small {k n : Int} {ks : List Tm} (h : Tm.mk k n ks ∈ blks) : sizes ks ≤ 20 := by
  have h1 : (blks.all fun t => decide (t.size ≤ 21)) = true := by decide
  have := of_decide_eq_true (List.all_eq_true.1 h1 _ h)
  rw [Tm.size] at this
  omega
/-- a term, drawn -/
def DrawnT1 (w : World) (e : Ending) (w' : World) : Prop :=
  ∃ (k n : Int) (ks : List Tm) (A : Option Addr) (c : Nat), e = .returned (.agg #[.int .i64 k, .int .i64 n, .slice A ks.length c]) ∧ ks.length ≤ 9223372036854775807 ∧ sizes ks ≤ 1000 ∧ Rd w' A 0 ks ∧ Below w.heap.size w w'
set_option maxHeartbeats 8000000 in
set_option maxRecDepth 100000 in
theorem drawBlk_any (bs : List Int) (A : Option Addr) (c : Nat) (w : World) (hl : bs.length ≤ 9223372036854775807) (hc : bs.length ≤ c) (hr : RdY w A bs) : Calls Try.prog 21 #[.slice A bs.length c] w (DrawnT1 w) := by
  have hpl : blks.length = 7 := rfl
  go_enter Try.func21, Try.ntmps21
  go_wp2_with (first
    | (go_at_call 65; refine (read_any blks blksX rfl (by decide) blks_good.at_ w1.heap.size _ (Blk.new_ _ 9 (strs blksX) (by simp))).mono ?_; rintro e w2 ⟨A2, c2, rfl, hf2, hb2⟩; replace hZ := (hZ.alloc (.cells (strs blksX) 9)).keep hb2; have g2 : w1.grownBy w2 (some r) := only_below (only_alloc (World.grownBy.refl _ _) _) hb2; have s2 : w1.heap.size + 1 ≤ w2.heap.size := (by have := hb2.size; simpa using this); have hr2 : Rdr w1.heap.size w2 r 0 := (hr1.alloc (Nat.le_refl _) _).below hb2 (by simp); have hf := hf2.rdp)
    | (go_at_call 50; refine (open_any bs A c _ hl hc (hr.keeps (.alloc _ _))).mono ?_; rintro e w1 ⟨r, rfl, hr0, hrlt, hr1, hb1⟩; have hZ := (Blk.new_ w 25 #[.int .i64 0, .int .i64 0, .slice none 0 0] rfl).keep hb1; have g1 : Below w.heap.size w w1 := ((Below.refl _ _).alloc (Nat.le_refl _) _).trans (hb1.mono (by simp)); have s1 : w.heap.size + 1 ≤ w1.heap.size := (by have := hb1.size; simpa using this); have hr0' : w.heap.size + 1 ≤ r := (by simpa using hr0)))
  refine (pick_any w1.heap.size r 0 7 _ (by omega) (by omega) (by omega) hr2).mono ?_
  rintro e w3 ⟨m, rfl, hm, hm0, hr3, hg3⟩
  have hm := hm (by omega)
  clear hm0
  have hm' : m < blks.length := by omega
  have g3 := grown_trans g2 hg3
  have s3 := hg3.size
  replace hZ := hZ.grown hg3 (by simp; omega)
  obtain ⟨b, off, k, n, ks, A', c', rfl, hk, y0, y1, y2, hlk, hrk⟩ := (hf.grown hg3 (fun b hb => by have := hb.1; simp at this; simp; omega)).at_ hm'
  have hsm := blks_small (k := k) (n := n) (ks := ks) (hk ▸ List.getElem_mem hm')
  clear hk
  have bl : b < w3.heap.size := World.block_lt_of_cell? _ _ y0
  have lz := hZ.lt
  go_wp2_with (go_at_call 54; refine (mutate_any w1.heap.size r (0 + 1) k n ks A' c' _ (by omega) (by omega) hr3 (by omega) hrk.rd).mono ?_; rintro e w4 ⟨k4, n4, ks4, A4, c4, p4, rfl, hl4, hs4, hp4, hk4, hr4, hg4⟩; have g4 := grown_trans g3 hg4; have s4 := hg4.size; replace hZ := hZ.grown hg4 (by simp; omega); have d0 := hZ.at_ (i := 0) rfl; have d1 := hZ.at_ (i := 1) rfl; have d2 := hZ.at_ (i := 2) rfl; have e0 := hZ.frozen 0; have e1 := hZ.frozen 1; have e2 := hZ.frozen 2)
  refine bodyPost_ret (v := .agg #[.int .i64 k4, .int .i64 n4, .slice A4 ks4.length c4]) (by simp [results, Try.results21, go_sem, d0, d1, d2]) rfl ⟨k4, n4, ks4, A4, c4, rfl, hl4, by omega, ?_, ?_⟩
  · exact (((hk4.setCell (by simp; omega) _).setCell (by simp; omega) _).setCell (by simp; omega) _).rd
  · exact (((g1.trans (grown_below g4 (by omega) (by omega))).setCell (by simp) _).setCell (by simp) _).setCell (by simp) _
end Go.Proofs.Ytodkenpmhhbppaa

namespace Go.Proofs.Ytodkenpmhhbppaa
open Go.RowKit
set_option linter.unusedSimpArgs false
set_option linter.unusedVariables false

set_option maxRecDepth 100000 in
set_option maxHeartbeats 2000000 in
theorem iNormalTerm_any (k n : Int) (ks : List Tm) (A : Option Addr) (c : Nat) (w : World) (hM : sizes ks ≤ 1099511627775) (hr : Rd w A 0 ks) :
    Calls Try.prog 25 #[.agg #[.int .i64 k, .int .i64 n, .slice A ks.length c]] w fun e w' => e = .returned (.bool (validT (.mk k n ks) && nrm (.mk k n ks))) ∧ Below w.heap.size w w' := by
  have hlen := length_le_sizes ks
  cases hv : validT (.mk k n ks) with
  | false =>
    rw [Bool.false_and]
    go_enter Try.func25, Try.ntmps25
    go_wp2_with (go_at_call 34; refine (iTermValid_any k n ks A c _ hM (hr.alloc _)).mono ?_; rw [hv]; rintro e w1 ⟨rfl, hb1⟩; have hB1 := (Blk.new_ w 25 #[.int .i64 k, .int .i64 n, .slice A ks.length c] rfl).keep hb1; obtain ⟨p10, p11, p12⟩ := hB1.three; have hr1 := (hr.alloc (.cells #[.int .i64 k, .int .i64 n, .slice A ks.length c] 25)).below hb1; replace hb1 := ((Below.refl _ _).alloc (Nat.le_refl _) _).trans (hb1.mono (by simp)))
    go_ret
    exact ⟨rfl, hb1⟩
  | true =>
    have hs : shape 30 (.mk k n ks) = true := by simp only [validT, Bool.and_eq_true] at hv; exact hv.1
    rw [Bool.true_and]
    go_enter Try.func25, Try.ntmps25
    go_wp2_with (first | (go_at_call 34; refine (iTermValid_any k n ks A c _ hM (hr.alloc _)).mono ?_; rw [hv]; rintro e w1 ⟨rfl, hb1⟩; have hB1 := (Blk.new_ w 25 #[.int .i64 k, .int .i64 n, .slice A ks.length c] rfl).keep hb1; obtain ⟨p10, p11, p12⟩ := hB1.three; have hr1 := (hr.alloc (.cells #[.int .i64 k, .int .i64 n, .slice A ks.length c] 25)).below hb1; replace hb1 := ((Below.refl _ _).alloc (Nat.le_refl _) _).trans (hb1.mono (by simp))) | (go_at_call 71; refine (outer_any (sizes ks + 1) 30 k n ks A c _ (by omega) (by omega) hs hM hr1).mono ?_; rintro e w2 ⟨A2, m2, c2, rfl, hm2, hp2, hb2⟩; replace hb2 := hb1.trans (hb2.mono hb1.size)))
    go_ret
    exact ⟨ret_bool (by simp), hb2⟩

/-- a valid normal term -/
def nf (t : Tm) : Bool := validT t && nrm t
theorem nf_shape {t : Tm} (h : nf t = true) : shape 30 t = true := by
  simp only [nf, validT, Bool.and_eq_true] at h; exact h.1.1
/-- which canonical form a kind makes -/
def formC (k : Int) : Int :=
  if k = 2 ∨ k = 3 ∨ k = 6 ∨ k = 10 ∨ k = 13 then 1 else if k = 4 then 2 else if k = 7 ∨ k = 8 then 3 else if k = 11 then 4 else if k = 14 then 5 else 0
/-- the kinds of canonical forms -/
def isForm (k : Int) : Prop := k = 2 ∨ k = 3 ∨ k = 6 ∨ k = 10 ∨ k = 13 ∨ k = 4 ∨ k = 7 ∨ k = 8 ∨ k = 11 ∨ k = 14
theorem formC_no {k : Int} (h : ¬ isForm k) : formC k = 0 := by
  unfold isForm at h; unfold formC; rw [if_neg (by omega), if_neg (by omega), if_neg (by omega), if_neg (by omega), if_neg (by omega)]
theorem formC_lt (k : Int) : formC k < 6 := by unfold formC; repeat' split <;> omega
theorem blk_form {f : Nat} {k n : Int} {ks : List Tm} (h : isForm k) : blk f (.mk k n ks) = none := by
  unfold isForm at h
  cases f with
  | zero => rfl
  | succ f => exact blk_no (by omega) (by rw [main_no (by omega)]; decide)
/-- what FormOf answers -/
def formOf (t : Tm) : Int := if nf t = true then (if (blk 30 t).isSome = true then 6 else formC t.k) else 0
/-- what BlockingVar answers -/
def bvar (t : Tm) : Option Int := if nf t = true then blk 30 t else none

set_option maxRecDepth 100000 in
set_option maxHeartbeats 2000000 in
theorem sForm_any (k : Int) (w : World) : Calls Try.prog 89 #[.int .i64 k] w fun e w' => e = .returned (.int .i64 (formC k)) ∧ Below w.heap.size w w' := by
  by_cases hk : isForm k
  · rcases hk with rfl | rfl | rfl | rfl | rfl | rfl | rfl | rfl | rfl | rfl
    all_goals
      go_enter Try.func89, Try.ntmps89
      go_wp2_with fail
      go_ret
      exact ⟨rfl, Below.refl _ _⟩
  · have h0 := formC_no hk
    unfold isForm at hk
    have n2 := k_ne (k := k) (m := 2) (by omega)
    have n3 := k_ne (k := k) (m := 3) (by omega)
    have n6 := k_ne (k := k) (m := 6) (by omega)
    have n10 := k_ne (k := k) (m := 10) (by omega)
    have n13 := k_ne (k := k) (m := 13) (by omega)
    have n4 := k_ne (k := k) (m := 4) (by omega)
    have n7 := k_ne (k := k) (m := 7) (by omega)
    have n8 := k_ne (k := k) (m := 8) (by omega)
    have n11 := k_ne (k := k) (m := 11) (by omega)
    have n14 := k_ne (k := k) (m := 14) (by omega)
    clear hk
    rw [h0]
    go_enter Try.func89, Try.ntmps89
    go_wp2_with fail
    go_ret
    exact ⟨rfl, Below.refl _ _⟩

set_option maxRecDepth 100000 in
set_option maxHeartbeats 2000000 in
theorem sFormOf_any (k n : Int) (ks : List Tm) (A : Option Addr) (c : Nat) (w : World) (hM : sizes ks ≤ 1099511627775) (hr : Rd w A 0 ks) :
    Calls Try.prog 45 #[.agg #[.int .i64 k, .int .i64 n, .slice A ks.length c]] w fun e w' => e = .returned (.int .i64 (formOf (.mk k n ks))) ∧ Below w.heap.size w w' := by
  have hlen := length_le_sizes ks
  cases hnf : nf (.mk k n ks) with
  | false =>
    have hz : formOf (.mk k n ks) = 0 := by simp [formOf, hnf]
    have hnf' : (validT (.mk k n ks) && nrm (.mk k n ks)) = false := hnf
    rw [hz]
    go_enter Try.func45, Try.ntmps45
    go_wp2_with (go_at_call 67; refine (sNormalTerm_any k n ks A c _ hM (hr.alloc _)).mono ?_; rw [hnf']; rintro e w1 ⟨rfl, hb1⟩; have hB1 := (Blk.new_ w 25 #[.int .i64 k, .int .i64 n, .slice A ks.length c] rfl).keep hb1; obtain ⟨p10, p11, p12⟩ := hB1.three; have hr1 := (hr.alloc (.cells #[.int .i64 k, .int .i64 n, .slice A ks.length c] 25)).below hb1; replace hb1 := ((Below.refl _ _).alloc (Nat.le_refl _) _).trans (hb1.mono (by simp)))
    go_ret
    exact ⟨rfl, hb1⟩
  | true =>
    have hs := nf_shape hnf
    have hnf' : (validT (.mk k n ks) && nrm (.mk k n ks)) = true := hnf
    cases hb : blk 30 (.mk k n ks) with
    | none =>
      have hz : formOf (.mk k n ks) = formC k := by simp [formOf, hnf, hb, Tm.k]
      have hi : (blk 30 (.mk k n ks)).isSome = false := by rw [hb]; rfl
      have hg : (blk 30 (.mk k n ks)).getD 0 = 0 := by rw [hb]; rfl
      rw [hz]
      clear hb hz hnf
      go_enter Try.func45, Try.ntmps45
      go_wp2_with (first | (go_at_call 67; refine (sNormalTerm_any k n ks A c _ hM (hr.alloc _)).mono ?_; rw [hnf']; rintro e w1 ⟨rfl, hb1⟩; have hB1 := (Blk.new_ w 25 #[.int .i64 k, .int .i64 n, .slice A ks.length c] rfl).keep hb1; obtain ⟨p10, p11, p12⟩ := hB1.three; have hr1 := (hr.alloc (.cells #[.int .i64 k, .int .i64 n, .slice A ks.length c] 25)).below hb1; replace hb1 := ((Below.refl _ _).alloc (Nat.le_refl _) _).trans (hb1.mono (by simp))) | (go_at_call 68; refine (sBlock_any 30 k n ks A c _ (by omega) hs hr1).mono ?_; rw [hi, hg]; rintro e w2 ⟨rfl, hb2⟩; have hB2 := hB1.keep hb2; obtain ⟨p20, p21, p22⟩ := hB2.three; replace hb2 := hb1.trans (hb2.mono hb1.size)) | (go_at_call 89; refine (sForm_any k _).mono ?_; rintro e w3 ⟨rfl, hb3⟩))
      go_ret
      exact ⟨rfl, hb2.trans (hb3.mono hb2.size)⟩
    | some v =>
      have hz : formOf (.mk k n ks) = 6 := by simp [formOf, hnf, hb]
      have hi : (blk 30 (.mk k n ks)).isSome = true := by rw [hb]; rfl
      have hg : (blk 30 (.mk k n ks)).getD 0 = v := by rw [hb]; rfl
      rw [hz]
      clear hb hz hnf
      go_enter Try.func45, Try.ntmps45
      go_wp2_with (first | (go_at_call 67; refine (sNormalTerm_any k n ks A c _ hM (hr.alloc _)).mono ?_; rw [hnf']; rintro e w1 ⟨rfl, hb1⟩; have hB1 := (Blk.new_ w 25 #[.int .i64 k, .int .i64 n, .slice A ks.length c] rfl).keep hb1; obtain ⟨p10, p11, p12⟩ := hB1.three; have hr1 := (hr.alloc (.cells #[.int .i64 k, .int .i64 n, .slice A ks.length c] 25)).below hb1; replace hb1 := ((Below.refl _ _).alloc (Nat.le_refl _) _).trans (hb1.mono (by simp))) | (go_at_call 68; refine (sBlock_any 30 k n ks A c _ (by omega) hs hr1).mono ?_; rw [hi, hg]; rintro e w2 ⟨rfl, hb2⟩; have hB2 := hB1.keep hb2; obtain ⟨p20, p21, p22⟩ := hB2.three; replace hb2 := hb1.trans (hb2.mono hb1.size)))
      go_ret
      exact ⟨rfl, hb2⟩

set_option maxRecDepth 100000 in
set_option maxHeartbeats 2000000 in
theorem iFormOf_any (k n : Int) (ks : List Tm) (A : Option Addr) (c : Nat) (w : World) (hM : sizes ks ≤ 1099511627775) (hr : Rd w A 0 ks) :
    Calls Try.prog 38 #[.agg #[.int .i64 k, .int .i64 n, .slice A ks.length c]] w fun e w' => e = .returned (.int .i64 (formOf (.mk k n ks))) ∧ Below w.heap.size w w' := by
  have hlen := length_le_sizes ks
  cases hnf : nf (.mk k n ks) with
  | false =>
    have hz : formOf (.mk k n ks) = 0 := by simp [formOf, hnf]
    have hnf' : (validT (.mk k n ks) && nrm (.mk k n ks)) = false := hnf
    rw [hz]
    go_enter Try.func38, Try.ntmps38
    go_wp2_with (go_at_call 25; refine (iNormalTerm_any k n ks A c _ hM (hr.alloc _)).mono ?_; rw [hnf']; rintro e w1 ⟨rfl, hb1⟩; have hB1 := (Blk.new_ w 25 #[.int .i64 k, .int .i64 n, .slice A ks.length c] rfl).keep hb1; obtain ⟨p10, p11, p12⟩ := hB1.three; have hr1 := (hr.alloc (.cells #[.int .i64 k, .int .i64 n, .slice A ks.length c] 25)).below hb1; replace hb1 := ((Below.refl _ _).alloc (Nat.le_refl _) _).trans (hb1.mono (by simp)))
    go_ret
    exact ⟨rfl, hb1⟩
  | true =>
    have hs := nf_shape hnf
    have hnf' : (validT (.mk k n ks) && nrm (.mk k n ks)) = true := hnf
    by_cases hk : isForm k
    · have hz : formOf (.mk k n ks) = formC k := by simp [formOf, hnf, blk_form hk, Tm.k]
      rw [hz]
      clear hz hnf
      rcases hk with rfl | rfl | rfl | rfl | rfl | rfl | rfl | rfl | rfl | rfl
      all_goals
        go_enter Try.func38, Try.ntmps38
        go_wp2_with (go_at_call 25; refine (iNormalTerm_any _ n ks A c _ hM (hr.alloc _)).mono ?_; rw [hnf']; rintro e w1 ⟨rfl, hb1⟩; have hB1 := (Blk.new_ w 25 #[.int .i64 _, .int .i64 n, .slice A ks.length c] rfl).keep hb1; obtain ⟨p10, p11, p12⟩ := hB1.three; have hr1 := (hr.alloc (.cells #[.int .i64 _, .int .i64 n, .slice A ks.length c] 25)).below hb1; replace hb1 := ((Below.refl _ _).alloc (Nat.le_refl _) _).trans (hb1.mono (by simp)))
        go_ret
        exact ⟨rfl, hb1⟩
    · have hz : formOf (.mk k n ks) = if (blk 30 (.mk k n ks)).isSome = true then 6 else 0 := by simp [formOf, hnf, formC_no hk, Tm.k]
      unfold isForm at hk
      have n2 := k_ne (k := k) (m := 2) (by omega)
      have n3 := k_ne (k := k) (m := 3) (by omega)
      have n6 := k_ne (k := k) (m := 6) (by omega)
      have n10 := k_ne (k := k) (m := 10) (by omega)
      have n13 := k_ne (k := k) (m := 13) (by omega)
      have n4 := k_ne (k := k) (m := 4) (by omega)
      have n7 := k_ne (k := k) (m := 7) (by omega)
      have n8 := k_ne (k := k) (m := 8) (by omega)
      have n11 := k_ne (k := k) (m := 11) (by omega)
      have n14 := k_ne (k := k) (m := 14) (by omega)
      clear hk
      cases hb : blk 30 (.mk k n ks) with
      | none =>
        have hi : (blk 30 (.mk k n ks)).isSome = false := by rw [hb]; rfl
        have hg : (blk 30 (.mk k n ks)).getD 0 = 0 := by rw [hb]; rfl
        rw [hz, hi]
        clear hb hz hnf
        go_enter Try.func38, Try.ntmps38
        go_wp2_with (first | (go_at_call 25; refine (iNormalTerm_any k n ks A c _ hM (hr.alloc _)).mono ?_; rw [hnf']; rintro e w1 ⟨rfl, hb1⟩; have hB1 := (Blk.new_ w 25 #[.int .i64 k, .int .i64 n, .slice A ks.length c] rfl).keep hb1; obtain ⟨p10, p11, p12⟩ := hB1.three; have hr1 := (hr.alloc (.cells #[.int .i64 k, .int .i64 n, .slice A ks.length c] 25)).below hb1; replace hb1 := ((Below.refl _ _).alloc (Nat.le_refl _) _).trans (hb1.mono (by simp))) | (go_at_call 66; refine (iBlock_any 30 k n ks A c _ (by omega) hs hr1).mono ?_; rw [hi, hg]; rintro e w2 ⟨rfl, hb2⟩; have hB2 := hB1.keep hb2; obtain ⟨p20, p21, p22⟩ := hB2.three; replace hb2 := hb1.trans (hb2.mono hb1.size)))
        go_ret
        exact ⟨rfl, hb2⟩
      | some v =>
        have hi : (blk 30 (.mk k n ks)).isSome = true := by rw [hb]; rfl
        have hg : (blk 30 (.mk k n ks)).getD 0 = v := by rw [hb]; rfl
        rw [hz, hi]
        clear hb hz hnf
        go_enter Try.func38, Try.ntmps38
        go_wp2_with (first | (go_at_call 25; refine (iNormalTerm_any k n ks A c _ hM (hr.alloc _)).mono ?_; rw [hnf']; rintro e w1 ⟨rfl, hb1⟩; have hB1 := (Blk.new_ w 25 #[.int .i64 k, .int .i64 n, .slice A ks.length c] rfl).keep hb1; obtain ⟨p10, p11, p12⟩ := hB1.three; have hr1 := (hr.alloc (.cells #[.int .i64 k, .int .i64 n, .slice A ks.length c] 25)).below hb1; replace hb1 := ((Below.refl _ _).alloc (Nat.le_refl _) _).trans (hb1.mono (by simp))) | (go_at_call 66; refine (iBlock_any 30 k n ks A c _ (by omega) hs hr1).mono ?_; rw [hi, hg]; rintro e w2 ⟨rfl, hb2⟩; have hB2 := hB1.keep hb2; obtain ⟨p20, p21, p22⟩ := hB2.three; replace hb2 := hb1.trans (hb2.mono hb1.size)))
        go_ret
        exact ⟨rfl, hb2⟩

set_option maxRecDepth 100000 in
set_option maxHeartbeats 2000000 in
theorem sNeutral_any (k n : Int) (ks : List Tm) (A : Option Addr) (c : Nat) (w : World) (hM : sizes ks ≤ 1099511627775) (hr : Rd w A 0 ks) :
    Calls Try.prog 43 #[.agg #[.int .i64 k, .int .i64 n, .slice A ks.length c]] w fun e w' => e = .returned (.bool (formOf (.mk k n ks) == 6)) ∧ Below w.heap.size w w' := by
  have hlen := length_le_sizes ks
  go_enter Try.func43, Try.ntmps43
  go_wp2_with (go_at_call 45; refine (sFormOf_any k n ks A c _ hM (hr.alloc _)).mono ?_; rintro e w1 ⟨rfl, hb1⟩; have hB1 := (Blk.new_ w 25 #[.int .i64 k, .int .i64 n, .slice A ks.length c] rfl).keep hb1; obtain ⟨p10, p11, p12⟩ := hB1.three; have hr1 := (hr.alloc (.cells #[.int .i64 k, .int .i64 n, .slice A ks.length c] 25)).below hb1; replace hb1 := ((Below.refl _ _).alloc (Nat.le_refl _) _).trans (hb1.mono (by simp)))
  go_ret
  exact ⟨rfl, hb1⟩

set_option maxRecDepth 100000 in
set_option maxHeartbeats 2000000 in
theorem iNeutral_any (k n : Int) (ks : List Tm) (A : Option Addr) (c : Nat) (w : World) (hM : sizes ks ≤ 1099511627775) (hr : Rd w A 0 ks) :
    Calls Try.prog 46 #[.agg #[.int .i64 k, .int .i64 n, .slice A ks.length c]] w fun e w' => e = .returned (.bool (formOf (.mk k n ks) == 6)) ∧ Below w.heap.size w w' := by
  have hlen := length_le_sizes ks
  go_enter Try.func46, Try.ntmps46
  go_wp2_with (go_at_call 38; refine (iFormOf_any k n ks A c _ hM (hr.alloc _)).mono ?_; rintro e w1 ⟨rfl, hb1⟩; have hB1 := (Blk.new_ w 25 #[.int .i64 k, .int .i64 n, .slice A ks.length c] rfl).keep hb1; obtain ⟨p10, p11, p12⟩ := hB1.three; have hr1 := (hr.alloc (.cells #[.int .i64 k, .int .i64 n, .slice A ks.length c] 25)).below hb1; replace hb1 := ((Below.refl _ _).alloc (Nat.le_refl _) _).trans (hb1.mono (by simp)))
  go_ret
  exact ⟨rfl, hb1⟩

set_option maxRecDepth 100000 in
set_option maxHeartbeats 2000000 in
theorem sBlockingVar_any (k n : Int) (ks : List Tm) (A : Option Addr) (c : Nat) (w : World) (hM : sizes ks ≤ 1099511627775) (hr : Rd w A 0 ks) :
    Calls Try.prog 23 #[.agg #[.int .i64 k, .int .i64 n, .slice A ks.length c]] w fun e w' => e = .returned (.tuple #[.int .i64 ((bvar (.mk k n ks)).getD 0), .bool (bvar (.mk k n ks)).isSome]) ∧ Below w.heap.size w w' := by
  have hlen := length_le_sizes ks
  cases hnf : nf (.mk k n ks) with
  | false =>
    have hz : bvar (.mk k n ks) = none := by simp [bvar, hnf]
    have hnf' : (validT (.mk k n ks) && nrm (.mk k n ks)) = false := hnf
    rw [hz]
    go_enter Try.func23, Try.ntmps23
    go_wp2_with (go_at_call 67; refine (sNormalTerm_any k n ks A c _ hM (hr.alloc _)).mono ?_; rw [hnf']; rintro e w1 ⟨rfl, hb1⟩; have hB1 := (Blk.new_ w 25 #[.int .i64 k, .int .i64 n, .slice A ks.length c] rfl).keep hb1; obtain ⟨p10, p11, p12⟩ := hB1.three; have hr1 := (hr.alloc (.cells #[.int .i64 k, .int .i64 n, .slice A ks.length c] 25)).below hb1; replace hb1 := ((Below.refl _ _).alloc (Nat.le_refl _) _).trans (hb1.mono (by simp)))
    go_ret2
    exact ⟨rfl, hb1⟩
  | true =>
    have hs := nf_shape hnf
    have hnf' : (validT (.mk k n ks) && nrm (.mk k n ks)) = true := hnf
    have hz : bvar (.mk k n ks) = blk 30 (.mk k n ks) := by simp [bvar, hnf]
    rw [hz]
    clear hz hnf
    go_enter Try.func23, Try.ntmps23
    go_wp2_with (first | (go_at_call 67; refine (sNormalTerm_any k n ks A c _ hM (hr.alloc _)).mono ?_; rw [hnf']; rintro e w1 ⟨rfl, hb1⟩; have hB1 := (Blk.new_ w 25 #[.int .i64 k, .int .i64 n, .slice A ks.length c] rfl).keep hb1; obtain ⟨p10, p11, p12⟩ := hB1.three; have hr1 := (hr.alloc (.cells #[.int .i64 k, .int .i64 n, .slice A ks.length c] 25)).below hb1; replace hb1 := ((Below.refl _ _).alloc (Nat.le_refl _) _).trans (hb1.mono (by simp))) | (go_at_call 68; refine (sBlock_any 30 k n ks A c _ (by omega) hs hr1).mono ?_; rintro e w2 ⟨rfl, hb2⟩; have hB2 := hB1.keep hb2; obtain ⟨p20, p21, p22⟩ := hB2.three; replace hb2 := hb1.trans (hb2.mono hb1.size)))
    go_ret2
    exact ⟨rfl, hb2⟩

set_option maxRecDepth 100000 in
set_option maxHeartbeats 2000000 in
theorem iBlockingVar_any (k n : Int) (ks : List Tm) (A : Option Addr) (c : Nat) (w : World) (hM : sizes ks ≤ 1099511627775) (hr : Rd w A 0 ks) :
    Calls Try.prog 22 #[.agg #[.int .i64 k, .int .i64 n, .slice A ks.length c]] w fun e w' => e = .returned (.tuple #[.int .i64 ((bvar (.mk k n ks)).getD 0), .bool (bvar (.mk k n ks)).isSome]) ∧ Below w.heap.size w w' := by
  have hlen := length_le_sizes ks
  cases h6 : formOf (.mk k n ks) == 6 with
  | false =>
    have hz : bvar (.mk k n ks) = none := by
      cases hnf : nf (.mk k n ks) with
      | false => simp [bvar, hnf]
      | true =>
        cases hb : blk 30 (.mk k n ks) with
        | none => simp [bvar, hnf, hb]
        | some v => simp [formOf, hnf, hb] at h6
    rw [hz]
    clear hz
    go_enter Try.func22, Try.ntmps22
    go_wp2_with (go_at_call 46; refine (iNeutral_any k n ks A c _ hM (hr.alloc _)).mono ?_; rw [h6]; rintro e w1 ⟨rfl, hb1⟩; have hB1 := (Blk.new_ w 25 #[.int .i64 k, .int .i64 n, .slice A ks.length c] rfl).keep hb1; obtain ⟨p10, p11, p12⟩ := hB1.three; have hr1 := (hr.alloc (.cells #[.int .i64 k, .int .i64 n, .slice A ks.length c] 25)).below hb1; replace hb1 := ((Below.refl _ _).alloc (Nat.le_refl _) _).trans (hb1.mono (by simp)))
    go_ret2
    exact ⟨rfl, hb1⟩
  | true =>
    have hnf : nf (.mk k n ks) = true := by
      cases hnf : nf (.mk k n ks) with
      | false => simp [formOf, hnf] at h6
      | true => rfl
    have hs := nf_shape hnf
    have hz : bvar (.mk k n ks) = blk 30 (.mk k n ks) := by simp [bvar, hnf]
    rw [hz]
    clear hz hnf
    go_enter Try.func22, Try.ntmps22
    go_wp2_with (first | (go_at_call 46; refine (iNeutral_any k n ks A c _ hM (hr.alloc _)).mono ?_; rw [h6]; rintro e w1 ⟨rfl, hb1⟩; have hB1 := (Blk.new_ w 25 #[.int .i64 k, .int .i64 n, .slice A ks.length c] rfl).keep hb1; obtain ⟨p10, p11, p12⟩ := hB1.three; have hr1 := (hr.alloc (.cells #[.int .i64 k, .int .i64 n, .slice A ks.length c] 25)).below hb1; replace hb1 := ((Below.refl _ _).alloc (Nat.le_refl _) _).trans (hb1.mono (by simp))) | (go_at_call 66; refine (iBlock_any 30 k n ks A c _ (by omega) hs hr1).mono ?_; rintro e w2 ⟨rfl, hb2⟩; have hB2 := hB1.keep hb2; obtain ⟨p20, p21, p22⟩ := hB2.three; replace hb2 := hb1.trans (hb2.mono hb1.size)))
    go_ret2
    exact ⟨rfl, hb2⟩
end Go.Proofs.Ytodkenpmhhbppaa

namespace Go.Proofs.Ytodkenpmhhbppaa
open Go.RowKit
set_option linter.unusedSimpArgs false
set_option linter.unusedVariables false

theorem chgs_len (f : Int → Int → Tm) (k d : Int) : ∀ (ts : List Tm) (i : Nat), (chgs f k d i ts).length = ts.length
  | [], i => by simp [chgs]
  | t :: ts, i => by rw [chgs, List.length_cons, List.length_cons, chgs_len f k d ts (i + 1)]
theorem chgs_nth (f : Int → Int → Tm) (k d : Int) : ∀ (ts : List Tm) (i j : Nat) (h : j < ts.length) (h' : j < (chgs f k d i ts).length), (chgs f k d i ts)[j] = chg f (d + under k ((i + j : Nat) : Int)) ts[j]
  | t :: ts, i, 0, _, _ => by simp [chgs]
  | t :: ts, i, j + 1, h, h' => by
    simp only [chgs, List.getElem_cons_succ]
    rw [chgs_nth f k d ts (i + 1) j (by simpa using h), show i + 1 + j = i + (j + 1) by omega]
theorem under_main {k : Int} (h : 0 ≤ mainI k) : under k (mainI k) = 0 := by
  by_cases hk : k = 5 ∨ k = 15 ∨ k = 16 ∨ k = 12 ∨ k = 9
  · rcases hk with rfl | rfl | rfl | rfl | rfl <;> rfl
  · rw [main_no hk] at h; omega
theorem blk_range (f : Nat) : ∀ (t : Tm) (q : Nat) (v : Int), shape q t = true → blk f t = some v → 0 ≤ v ∧ v ≤ 20 := by
  induction f with
  | zero => intro t q v _ h; simp [blk] at h
  | succ f ih =>
    intro t q v hs h
    obtain ⟨k, n, ks⟩ := t
    obtain ⟨q, rfl, ha, h0, h1, hk⟩ := shape_pos hs
    by_cases hk1 : k = 1
    · subst hk1
      rw [blk_var] at h
      injection h with h
      subst h
      have : mostN 1 = 20 := rfl
      omega
    · by_cases hm : mainI k < 0
      · rw [blk_no hk1 hm] at h; cases h
      · obtain ⟨j, hj, hjl⟩ := main_lt ha (by omega)
        rw [blk_step hj hjl] at h
        exact ih _ _ _ (hk _ (List.getElem_mem hjl)) h
theorem blk_sub (x : Int) (u : Tm) (f : Nat) : ∀ (t : Tm) (q : Nat) (v : Int), shape q t = true → blk f t = some v → v ≠ x → blk f (chg (sbF x u) 0 t) = some (if x < v then v - 1 else v) := by
  induction f with
  | zero => intro t q v _ h; simp [blk] at h
  | succ f ih =>
    intro t q v hs h hv
    obtain ⟨k, n, ks⟩ := t
    obtain ⟨q, rfl, ha, _, _, hk⟩ := shape_pos hs
    by_cases hk1 : k = 1
    · subst hk1
      rw [blk_var] at h
      injection h with h
      subst h
      rw [chg, if_pos rfl, sbF, if_neg (by omega)]
      by_cases hl : x < n
      · rw [if_pos (by omega), if_pos hl, blk_var]
      · rw [if_neg (by omega), if_neg hl, blk_var]
    · by_cases hm : mainI k < 0
      · rw [blk_no hk1 hm] at h; cases h
      · obtain ⟨j, hj, hjl⟩ := main_lt ha (by omega)
        rw [blk_step hj hjl] at h
        have hlen : j < (chgs (sbF x u) k 0 0 ks).length := by rw [chgs_len]; exact hjl
        have hun := under_main (k := k) (by omega)
        rw [hj] at hun
        rw [chg, if_neg hk1, blk_step hj hlen, chgs_nth _ _ _ _ _ _ hjl, Nat.zero_add, hun]
        exact ih _ _ _ (hk _ (List.getElem_mem hjl)) h hv
theorem bvar_range {t : Tm} {v : Int} (h : bvar t = some v) : 0 ≤ v ∧ v ≤ 20 := by
  unfold bvar at h
  split at h
  · rename_i hn; exact blk_range 30 t 30 v (nf_shape hn) h
  · cases h
/-- the law -/
theorem bvar_sub {t t' u : Tm} {x v : Int} (h : bvar t = some v) (hs : substTI x u t = some t') (hv : v ≠ x) (hn : nf t' = true) : bvar t' = some (if x < v then v - 1 else v) := by
  unfold bvar at h
  split at h
  · rename_i hn0
    have := blk_sub x u 30 t 30 v (nf_shape hn0) h hv
    unfold substTI at hs
    split at hs
    · unfold substI at hs
      split at hs
      · split at hs
        · injection hs with hs
          subst hs
          rw [bvar, if_pos hn, this]
        · cases hs
      · cases hs
    · cases hs
  · cases h
end Go.Proofs.Ytodkenpmhhbppaa

namespace Go.Proofs.Ytodkenpmhhbppaa
open Go.RowKit
set_option linter.unusedSimpArgs false
set_option linter.unusedVariables false

set_option maxHeartbeats 8000000 in
set_option maxRecDepth 100000 in
theorem lawBlockingVar_any (bs : List Int) (A : Option Addr) (c : Nat) (ms : List Int) (M : Option Addr) (cm : Nat) (w : World) (hl : bs.length ≤ 9223372036854775807) (hc : bs.length ≤ c) (hr : RdY w A bs) (hlm : ms.length ≤ 9223372036854775807) (hcm : ms.length ≤ cm) (hrm : RdY w M ms) :
    Calls Try.prog 4 #[.slice A bs.length c, .slice M ms.length cm] w fun e w' => e = .returned (.bool true) ∧ Below w.heap.size w w' := by
  by_cases hbig : 1048576 < bs.length
  · go_enter Try.func4, Try.ntmps4
    go_wp2_with fail
    go_ret
    exact ⟨rfl, Below.refl _ _⟩
  · by_cases hbig2 : 1048576 < ms.length
    · go_enter Try.func4, Try.ntmps4
      go_wp2_with fail
      go_ret
      exact ⟨rfl, Below.refl _ _⟩
    · go_enter Try.func4, Try.ntmps4
      go_wp2_with (go_at_call 21; refine (drawBlk_any bs A c _ hl hc hr).mono ?_; rintro e w1 ⟨k, n, ks, A1, c1, rfl, hlk, hsk, hrk, hb1⟩)
      refine name_calls ?_
      intro w2 hw2
      have hX : Blk w2 w1.heap.size #[.int .i64 k, .int .i64 n, .slice A1 ks.length c1] := by rw [hw2]; exact (Blk.new_ _ _ _ rfl)
      have rk : Rd w2 A1 0 ks := by rw [hw2]; exact (hrk.alloc _)
      have gg : Below w.heap.size w w2 := by rw [hw2]; exact (hb1.alloc hb1.size _)
      clear hw2
      obtain ⟨x0, x1, x2⟩ := hX.three
      cases hb0 : bvar (.mk k n ks) with
      | none =>
        have hG := hide (show (bvar (.mk k n ks)).getD 0 = 0 by rw [hb0]; rfl)
        have hS := hide (show (bvar (.mk k n ks)).isSome = false by rw [hb0]; rfl)
        clear hb0
        go_wp2_with (first
          | (go_at_call 23; have _t := tok3; refine (sBlockingVar_any k n ks A1 c1 _ (by omega) rk).mono ?_; rw [hG.out, hS.out]; rintro e w4 ⟨rfl, hb4⟩; replace hX := hX.keep hb4; clear x0 x1 x2; obtain ⟨x0, x1, x2⟩ := hX.three; replace gg := gg.trans (hb4.mono gg.size); replace rk := rk.below hb4; have tok4 := trivial)
          | (go_at_call 22; refine (iBlockingVar_any k n ks A1 c1 _ (by omega) rk).mono ?_; rw [hG.out, hS.out]; rintro e w3 ⟨rfl, hb3⟩; replace hX := hX.keep hb3; clear x0 x1 x2; obtain ⟨x0, x1, x2⟩ := hX.three; replace gg := gg.trans (hb3.mono gg.size); replace rk := rk.below hb3; have tok3 := trivial))
        go_ret
        exact ⟨rfl, gg⟩
      | some v =>
        have hG := hide (show (bvar (.mk k n ks)).getD 0 = v by rw [hb0]; rfl)
        have hS := hide (show (bvar (.mk k n ks)).isSome = true by rw [hb0]; rfl)
        obtain ⟨hv0, hv1⟩ := bvar_range hb0
        obtain ⟨x, hxd⟩ : ∃ x : Int, (ms.length : Int) % 4 = x := ⟨_, rfl⟩
        have hx : 0 ≤ x ∧ x ≤ 20 := by omega
        have hml : ms.length ≤ 1048576 := by omega
        obtain ⟨kt, nt, kst, htt⟩ := tm_eta ((substTI x (.mk 7 0 []) (.mk k n ks)).getD (.mk 0 0 []))
        have hst4 := substTI_size htt
        have hT := hide htt
        by_cases hxv : x = v
        · have q1 : (x == v) = true := by simpa using hxv
          obtain ⟨f, hf0⟩ : ∃ f, (substTI x (.mk 7 0 []) (.mk k n ks)).isSome = f := ⟨_, rfl⟩
          have hF := hide hf0
          clear hb0 htt hf0 hxv
          go_wp2_with (first
            | (go_at_call 24; have _t := tok4; refine (substTerm_any k n ks A1 c1 x 7 0 [] none 0 _ hx (by omega) (by simp [sizes]) rk (Rd.nil)).mono ?_; rintro e w5 hgo; obtain ⟨A5, c5, rfl, hl5, hf5, hb5⟩ := gotO_pair hgo hT.out hF.out; clear hgo; replace hX := hX.keep hb5; clear x0 x1 x2; obtain ⟨x0, x1, x2⟩ := hX.three; replace gg := gg.trans (hb5.mono gg.size); replace rk := rk.below hb5; have hY := Blk.new_ w5 25 #[.int .i64 kt, .int .i64 nt, .slice A5 kst.length c5] rfl; replace hX := hX.alloc (.cells #[.int .i64 kt, .int .i64 nt, .slice A5 kst.length c5] 25); replace rk := rk.alloc (.cells #[.int .i64 kt, .int .i64 nt, .slice A5 kst.length c5] 25); have rT := hf5.rd.alloc (.cells #[.int .i64 kt, .int .i64 nt, .slice A5 kst.length c5] 25); replace gg := gg.alloc gg.size (.cells #[.int .i64 kt, .int .i64 nt, .slice A5 kst.length c5] 25); clear x0 x1 x2; obtain ⟨x0, x1, x2⟩ := hX.three; obtain ⟨y0, y1, y2⟩ := hY.three; have tok5 := trivial)
            | (go_at_call 23; have _t := tok3; refine (sBlockingVar_any k n ks A1 c1 _ (by omega) rk).mono ?_; rw [hG.out, hS.out]; rintro e w4 ⟨rfl, hb4⟩; replace hX := hX.keep hb4; clear x0 x1 x2; obtain ⟨x0, x1, x2⟩ := hX.three; replace gg := gg.trans (hb4.mono gg.size); replace rk := rk.below hb4; have tok4 := trivial)
            | (go_at_call 22; refine (iBlockingVar_any k n ks A1 c1 _ (by omega) rk).mono ?_; rw [hG.out, hS.out]; rintro e w3 ⟨rfl, hb3⟩; replace hX := hX.keep hb3; clear x0 x1 x2; obtain ⟨x0, x1, x2⟩ := hX.three; replace gg := gg.trans (hb3.mono gg.size); replace rk := rk.below hb3; have tok3 := trivial))
          go_ret
          exact ⟨rfl, gg⟩
        · have q1 : (x == v) = false := by simpa using hxv
          cases hf0 : (substTI x (.mk 7 0 []) (.mk k n ks)).isSome with
          | false =>
            have hF := hide hf0
            clear hb0 htt hf0 hxv
            go_wp2_with (first
              | (go_at_call 24; have _t := tok4; refine (substTerm_any k n ks A1 c1 x 7 0 [] none 0 _ hx (by omega) (by simp [sizes]) rk (Rd.nil)).mono ?_; rintro e w5 hgo; obtain ⟨A5, c5, rfl, hl5, hf5, hb5⟩ := gotO_pair hgo hT.out hF.out; clear hgo; replace hX := hX.keep hb5; clear x0 x1 x2; obtain ⟨x0, x1, x2⟩ := hX.three; replace gg := gg.trans (hb5.mono gg.size); replace rk := rk.below hb5; have hY := Blk.new_ w5 25 #[.int .i64 kt, .int .i64 nt, .slice A5 kst.length c5] rfl; replace hX := hX.alloc (.cells #[.int .i64 kt, .int .i64 nt, .slice A5 kst.length c5] 25); replace rk := rk.alloc (.cells #[.int .i64 kt, .int .i64 nt, .slice A5 kst.length c5] 25); have rT := hf5.rd.alloc (.cells #[.int .i64 kt, .int .i64 nt, .slice A5 kst.length c5] 25); replace gg := gg.alloc gg.size (.cells #[.int .i64 kt, .int .i64 nt, .slice A5 kst.length c5] 25); clear x0 x1 x2; obtain ⟨x0, x1, x2⟩ := hX.three; obtain ⟨y0, y1, y2⟩ := hY.three; have tok5 := trivial)
              | (go_at_call 23; have _t := tok3; refine (sBlockingVar_any k n ks A1 c1 _ (by omega) rk).mono ?_; rw [hG.out, hS.out]; rintro e w4 ⟨rfl, hb4⟩; replace hX := hX.keep hb4; clear x0 x1 x2; obtain ⟨x0, x1, x2⟩ := hX.three; replace gg := gg.trans (hb4.mono gg.size); replace rk := rk.below hb4; have tok4 := trivial)
              | (go_at_call 22; refine (iBlockingVar_any k n ks A1 c1 _ (by omega) rk).mono ?_; rw [hG.out, hS.out]; rintro e w3 ⟨rfl, hb3⟩; replace hX := hX.keep hb3; clear x0 x1 x2; obtain ⟨x0, x1, x2⟩ := hX.three; replace gg := gg.trans (hb3.mono gg.size); replace rk := rk.below hb3; have tok3 := trivial))
            go_ret
            exact ⟨rfl, gg⟩
          | true =>
            have hF := hide hf0
            cases hn0 : nf (.mk kt nt kst) with
            | false =>
              have hN := hide (show (validT (.mk kt nt kst) && nrm (.mk kt nt kst)) = false from hn0)
              clear hb0 htt hf0 hxv hn0
              go_wp2_with (first
                | (go_at_call 25; have _t := tok5; refine (iNormalTerm_any kt nt kst A5 c5 _ (by omega) rT).mono ?_; rw [hN.out]; rintro e w6 ⟨rfl, hb6⟩; replace hY := hY.keep hb6; clear y0 y1 y2; obtain ⟨y0, y1, y2⟩ := hY.three; replace gg := gg.trans (hb6.mono gg.size); replace rT := rT.below hb6; have tok6 := trivial)
                | (go_at_call 24; have _t := tok4; refine (substTerm_any k n ks A1 c1 x 7 0 [] none 0 _ hx (by omega) (by simp [sizes]) rk (Rd.nil)).mono ?_; rintro e w5 hgo; obtain ⟨A5, c5, rfl, hl5, hf5, hb5⟩ := gotO_pair hgo hT.out hF.out; clear hgo; replace hX := hX.keep hb5; clear x0 x1 x2; obtain ⟨x0, x1, x2⟩ := hX.three; replace gg := gg.trans (hb5.mono gg.size); replace rk := rk.below hb5; have hY := Blk.new_ w5 25 #[.int .i64 kt, .int .i64 nt, .slice A5 kst.length c5] rfl; replace hX := hX.alloc (.cells #[.int .i64 kt, .int .i64 nt, .slice A5 kst.length c5] 25); replace rk := rk.alloc (.cells #[.int .i64 kt, .int .i64 nt, .slice A5 kst.length c5] 25); have rT := hf5.rd.alloc (.cells #[.int .i64 kt, .int .i64 nt, .slice A5 kst.length c5] 25); replace gg := gg.alloc gg.size (.cells #[.int .i64 kt, .int .i64 nt, .slice A5 kst.length c5] 25); clear x0 x1 x2; obtain ⟨x0, x1, x2⟩ := hX.three; obtain ⟨y0, y1, y2⟩ := hY.three; have tok5 := trivial)
                | (go_at_call 23; have _t := tok3; refine (sBlockingVar_any k n ks A1 c1 _ (by omega) rk).mono ?_; rw [hG.out, hS.out]; rintro e w4 ⟨rfl, hb4⟩; replace hX := hX.keep hb4; clear x0 x1 x2; obtain ⟨x0, x1, x2⟩ := hX.three; replace gg := gg.trans (hb4.mono gg.size); replace rk := rk.below hb4; have tok4 := trivial)
                | (go_at_call 22; refine (iBlockingVar_any k n ks A1 c1 _ (by omega) rk).mono ?_; rw [hG.out, hS.out]; rintro e w3 ⟨rfl, hb3⟩; replace hX := hX.keep hb3; clear x0 x1 x2; obtain ⟨x0, x1, x2⟩ := hX.three; replace gg := gg.trans (hb3.mono gg.size); replace rk := rk.below hb3; have tok3 := trivial))
              go_ret
              exact ⟨rfl, gg⟩
            | true =>
              have hN := hide (show (validT (.mk kt nt kst) && nrm (.mk kt nt kst)) = true from hn0)
              have hlaw : bvar (.mk kt nt kst) = some (if x < v then v - 1 else v) := by
                cases hs : substTI x (.mk 7 0 []) (.mk k n ks) with
                | none => rw [hs] at hf0; cases hf0
                | some t =>
                  rw [hs] at htt
                  have htt : t = .mk kt nt kst := htt
                  subst htt
                  exact bvar_sub hb0 hs (fun e => hxv e.symm) hn0
              have hS2 := hide (show (bvar (.mk kt nt kst)).isSome = true by rw [hlaw]; rfl)
              by_cases hlt : x < v
              · have hG2 := hide (show (bvar (.mk kt nt kst)).getD 0 = v - 1 by rw [hlaw, if_pos hlt]; rfl)
                have q2 : decide (v < x) = false := decide_eq_false (by omega)
                have q3 : decide (x < v) = true := decide_eq_true hlt
                clear hb0 htt hf0 hxv hn0 hlaw
                go_wp2_with (first
                  | (go_at_call 22; have _t := tok6; refine (iBlockingVar_any kt nt kst A5 c5 _ (by omega) rT).mono ?_; rw [hG2.out, hS2.out]; rintro e w7 ⟨rfl, hb7⟩; replace gg := gg.trans (hb7.mono gg.size))
                  | (go_at_call 25; have _t := tok5; refine (iNormalTerm_any kt nt kst A5 c5 _ (by omega) rT).mono ?_; rw [hN.out]; rintro e w6 ⟨rfl, hb6⟩; replace hY := hY.keep hb6; clear y0 y1 y2; obtain ⟨y0, y1, y2⟩ := hY.three; replace gg := gg.trans (hb6.mono gg.size); replace rT := rT.below hb6; have tok6 := trivial)
                  | (go_at_call 24; have _t := tok4; refine (substTerm_any k n ks A1 c1 x 7 0 [] none 0 _ hx (by omega) (by simp [sizes]) rk (Rd.nil)).mono ?_; rintro e w5 hgo; obtain ⟨A5, c5, rfl, hl5, hf5, hb5⟩ := gotO_pair hgo hT.out hF.out; clear hgo; replace hX := hX.keep hb5; clear x0 x1 x2; obtain ⟨x0, x1, x2⟩ := hX.three; replace gg := gg.trans (hb5.mono gg.size); replace rk := rk.below hb5; have hY := Blk.new_ w5 25 #[.int .i64 kt, .int .i64 nt, .slice A5 kst.length c5] rfl; replace hX := hX.alloc (.cells #[.int .i64 kt, .int .i64 nt, .slice A5 kst.length c5] 25); replace rk := rk.alloc (.cells #[.int .i64 kt, .int .i64 nt, .slice A5 kst.length c5] 25); have rT := hf5.rd.alloc (.cells #[.int .i64 kt, .int .i64 nt, .slice A5 kst.length c5] 25); replace gg := gg.alloc gg.size (.cells #[.int .i64 kt, .int .i64 nt, .slice A5 kst.length c5] 25); clear x0 x1 x2; obtain ⟨x0, x1, x2⟩ := hX.three; obtain ⟨y0, y1, y2⟩ := hY.three; have tok5 := trivial)
                  | (go_at_call 23; have _t := tok3; refine (sBlockingVar_any k n ks A1 c1 _ (by omega) rk).mono ?_; rw [hG.out, hS.out]; rintro e w4 ⟨rfl, hb4⟩; replace hX := hX.keep hb4; clear x0 x1 x2; obtain ⟨x0, x1, x2⟩ := hX.three; replace gg := gg.trans (hb4.mono gg.size); replace rk := rk.below hb4; have tok4 := trivial)
                  | (go_at_call 22; refine (iBlockingVar_any k n ks A1 c1 _ (by omega) rk).mono ?_; rw [hG.out, hS.out]; rintro e w3 ⟨rfl, hb3⟩; replace hX := hX.keep hb3; clear x0 x1 x2; obtain ⟨x0, x1, x2⟩ := hX.three; replace gg := gg.trans (hb3.mono gg.size); replace rk := rk.below hb3; have tok3 := trivial))
                go_ret
                exact ⟨rfl, gg⟩
              · have hG2 := hide (show (bvar (.mk kt nt kst)).getD 0 = v by rw [hlaw, if_neg hlt]; rfl)
                have q2 : decide (v < x) = true := decide_eq_true (by omega)
                clear hb0 htt hf0 hxv hn0 hlaw
                go_wp2_with (first
                  | (go_at_call 22; have _t := tok6; refine (iBlockingVar_any kt nt kst A5 c5 _ (by omega) rT).mono ?_; rw [hG2.out, hS2.out]; rintro e w7 ⟨rfl, hb7⟩; replace gg := gg.trans (hb7.mono gg.size))
                  | (go_at_call 25; have _t := tok5; refine (iNormalTerm_any kt nt kst A5 c5 _ (by omega) rT).mono ?_; rw [hN.out]; rintro e w6 ⟨rfl, hb6⟩; replace hY := hY.keep hb6; clear y0 y1 y2; obtain ⟨y0, y1, y2⟩ := hY.three; replace gg := gg.trans (hb6.mono gg.size); replace rT := rT.below hb6; have tok6 := trivial)
                  | (go_at_call 24; have _t := tok4; refine (substTerm_any k n ks A1 c1 x 7 0 [] none 0 _ hx (by omega) (by simp [sizes]) rk (Rd.nil)).mono ?_; rintro e w5 hgo; obtain ⟨A5, c5, rfl, hl5, hf5, hb5⟩ := gotO_pair hgo hT.out hF.out; clear hgo; replace hX := hX.keep hb5; clear x0 x1 x2; obtain ⟨x0, x1, x2⟩ := hX.three; replace gg := gg.trans (hb5.mono gg.size); replace rk := rk.below hb5; have hY := Blk.new_ w5 25 #[.int .i64 kt, .int .i64 nt, .slice A5 kst.length c5] rfl; replace hX := hX.alloc (.cells #[.int .i64 kt, .int .i64 nt, .slice A5 kst.length c5] 25); replace rk := rk.alloc (.cells #[.int .i64 kt, .int .i64 nt, .slice A5 kst.length c5] 25); have rT := hf5.rd.alloc (.cells #[.int .i64 kt, .int .i64 nt, .slice A5 kst.length c5] 25); replace gg := gg.alloc gg.size (.cells #[.int .i64 kt, .int .i64 nt, .slice A5 kst.length c5] 25); clear x0 x1 x2; obtain ⟨x0, x1, x2⟩ := hX.three; obtain ⟨y0, y1, y2⟩ := hY.three; have tok5 := trivial)
                  | (go_at_call 23; have _t := tok3; refine (sBlockingVar_any k n ks A1 c1 _ (by omega) rk).mono ?_; rw [hG.out, hS.out]; rintro e w4 ⟨rfl, hb4⟩; replace hX := hX.keep hb4; clear x0 x1 x2; obtain ⟨x0, x1, x2⟩ := hX.three; replace gg := gg.trans (hb4.mono gg.size); replace rk := rk.below hb4; have tok4 := trivial)
                  | (go_at_call 22; refine (iBlockingVar_any k n ks A1 c1 _ (by omega) rk).mono ?_; rw [hG.out, hS.out]; rintro e w3 ⟨rfl, hb3⟩; replace hX := hX.keep hb3; clear x0 x1 x2; obtain ⟨x0, x1, x2⟩ := hX.three; replace gg := gg.trans (hb3.mono gg.size); replace rk := rk.below hb3; have tok3 := trivial))
                go_ret
                exact ⟨rfl, gg⟩
end Go.Proofs.Ytodkenpmhhbppaa

namespace Go.Proofs.Ytodkenpmhhbppaa.lBlockingVar
open Go.ChangeShapes Go.WideShapes Go.ChangeAt Go.RowKit
set_option linter.unusedVariables false
set_option linter.unusedSimpArgs false

theorem own : ownKnob Try.prog.godebug = none := by kernel_rfl
theorem laidOut : laidOutB Try.prog = true := by kernel_rfl

set_option maxRecDepth 100000 in
theorem lifted (os : Os) (started : os.Started) (H : Type) (enc : TypeId × Value → H) :
    ReturnsInHanded {} Try.checked os 4 .any (Rows.fnBlockingVarSpec.pre6 enc Try.prog Try.f4 Rows.fnBlockingVarRow.domain false) (Rows.fnBlockingVarSpec.post enc Try.prog Try.f4 false true false false) := by
  refine returnsInHanded_of_change (C := Try.checked) own started (by kernel_rfl) Try.func4
    (ChangeSpec.witness6 (enc := enc) (C := Try.checked) false ⟨#[], #[.slice none 0 0, .slice none 0 0], []⟩ 8 (by kernel_rfl) (by kernel_rfl) (by kernel_rfl) (by kernel_rfl)) ?_
  intro W base args ds gs before hval0 hW hcnd _
  have hval : ∀ (j : Nat) t v, Try.f4.params[j]? = some t → args[j]? = some v → Value.okWide Try.prog W .any base t v := hval0
  have hW' := hW
  obtain ⟨p, q, hA0, hV, rfl, hfz, hnd⟩ := hW
  have hA : DataW.TrodAll enc Try.prog W 0 (fun _ => true) true Try.f4.params.toList args.toList ds p := hA0
  rw [Try.params4] at hA hval
  obtain ⟨v0, vs0, d0, ds0, p0, q0, hargs0, rfl, rfl, h0, r0⟩ := trodAll_cons hA
  obtain ⟨v1, vs1, d1, ds1, p1, q1, hargs1, rfl, rfl, h1, r1⟩ := trodAll_cons r0
  obtain ⟨rfl, rfl, rfl⟩ := trodAll_nil r1
  obtain rfl : args = #[v0, v1] := by cases args; simp_all
  obtain ⟨rfl, rfl⟩ := trodVars_none hV
  obtain ⟨xs0, P0, cp0, rfl, hl0, hc0, hr0⟩ := open_code (hval 0 22 v0 rfl rfl) h0
  obtain ⟨xs1, P1, cp1, rfl, hl1, hc1, hr1⟩ := open_code (hval 1 22 v1 rfl rfl) h1
  clear hA0 hval0
  simp only [List.append_nil] at hW' hfz
  have hlt : ∀ x ∈ p0 ++ p1, x.block < W.heap.size := fun x hx => hW'.lt x hx
  refine (lawBlockingVar_any xs0 P0 cp0 xs1 P1 cp1 W hl0 hc0 hr0 hl1 hc1 hr1).mono fun e W' ⟨he, hb⟩ => ?_
  subst he
  exact ⟨_, rfl, post_below (pa := p0 ++ p1) (pv := []) hW' (fun _ _ _ => (trodAll_cons_mk (shut_bool Try.underlying4 _) trodAll_mk0)) (fun sp hsp => by
      have := (trodAll_cons_mk (WideElems.Trod_stays (sp' := sp) laidOut (by kernel_rfl) (of_decide_eq_true (by kernel_rfl)) h0 (fun x hx => hb.same (hlt x (by simp [hx]))) (fun x hx => hsp x (by simp [hx]))) (trodAll_cons_mk (WideElems.Trod_stays (sp' := sp) laidOut (by kernel_rfl) (of_decide_eq_true (by kernel_rfl)) h1 (fun x hx => hb.same (hlt x (by simp [hx]))) (fun x hx => hsp x (by simp [hx]))) trodAll_mk0))
      show DataW.TrodAll enc Try.prog W' 0 sp true Try.f4.params.toList [_, _] [d0, d1] (p0 ++ p1)
      rw [Try.params4]
      simpa using this) (fun _ _ => rfl) (by simp)
    hb (ok_one (by kernel_rfl) rfl (okWide_bool_mk Try.underlying4 _))⟩

theorem holds : Rows.FnBlockingVarSaid :=
  OpenClaim.holds_of_wide 4 Try.f4 rfl rfl rfl rfl rfl rfl rfl ⟨rfl, rfl, rfl, rfl, rfl⟩ rfl rfl rfl rfl rfl (by kernel_rfl) Try.func4 (by kernel_rfl)
    (of_decide_eq_true (by kernel_rfl)) (by unfold Func.isWrapper; first | (rw [if_pos (by decide +kernel)]; kernel_rfl) | (rw [if_neg (by decide +kernel)]; exact ⟨rfl, rfl⟩))
    (fun os started H enc _ => lifted os started H enc)
end Go.Proofs.Ytodkenpmhhbppaa.lBlockingVar
