/-
  Texts of this claim, merged: contracts of the functions that the law reaches. No condition.
-/
import Derived.Test.YthgmofdfecioaaaGreatDoorK1
import Derived.Test.YthgmofdfecioaaaGreatDoorK2
import Derived.Laws.IdiomStrings
import Derived.Test.YthgmofdfecioaaaGreatDoorShelf
import Derived.Lib.ReplaceLaws
import Derived.Lib.AtoiErrMem
import Derived.IntWalk
import Derived.WalkSpells
import Derived.WalkLawsBesides
import Derived.Outline

namespace Go.Proofs.YthgmofdfecioaaaGreatDoor
open Go.RowKit
set_option linter.unusedSimpArgs false
set_option linter.unusedVariables false

theorem chg_size {f : Int → Int → Tm} {M : Nat} (hM : 1 ≤ M) (hf : ∀ n d, (f n d).size ≤ M) : (∀ t d, (chg f d t).size ≤ t.size * M) ∧ (∀ ts k d i, sizes (chgs f k d i ts) ≤ sizes ts * M) := by
  refine Tm.ind2 (fun k n ks ih d => ?_) (fun k d i => by simp [chgs, sizes]) (fun t ts h1 h2 k d i => ?_)
  · rw [chg, Tm.size, Nat.add_mul, Nat.one_mul]
    split
    · have := hf n d; omega
    · rw [Tm.size]; have := ih k d 0; omega
  · rw [chgs, sizes, sizes, Nat.add_mul]
    have := h1 (d + under k i); have := h2 k d (i + 1); omega
theorem shF_size (by_ cut n d : Int) : (shF by_ cut n d).size ≤ 1 := by simp [shF, Tm.size, sizes]

/-- a term handed back in new memory, or a failure -/
def GotO (w : World) (o : Option Tm) (e : Ending) (w' : World) : Prop :=
  match o with
  | none => e = .returned (.tuple #[zeroV, .bool false]) ∧ Below w.heap.size w w'
  | some t => ∃ A c, e = .returned (.tuple #[.agg #[.int .i64 t.k, .int .i64 t.n, .slice A t.ks.length c], .bool true]) ∧ t.ks.length ≤ 9223372036854775807 ∧ Fresh w.heap.size w' A t.ks ∧ Below w.heap.size w w'
/-- what shift answers -/
def shiftI (by_ cut : Int) (t : Tm) : Option Tm := if chgOk (shOk by_ cut) 0 t = true then (if validT (chg (shF by_ cut) 0 t) = true then some (chg (shF by_ cut) 0 t) else none) else none

set_option maxHeartbeats 2000000 in
set_option maxRecDepth 100000 in
theorem shift_any (k n : Int) (ks : List Tm) (A : Option Addr) (c : Nat) (by_ cut : Int) (w : World) (hby : -1000 ≤ by_ ∧ by_ ≤ 1000) (hcut : -1000 ≤ cut ∧ cut ≤ 1000) (hM : sizes ks ≤ 1000000000) (hs : shape 30 (.mk k n ks) = true) (hr : Rd w A 0 ks) :
    Calls Tryz.prog 52 #[(.agg #[.int .i64 k, .int .i64 n, .slice A ks.length c]), .int .i64 by_, .int .i64 cut] w (GotO w (shiftI by_ cut (.mk k n ks))) := by
  have hrp : RdP (· ≠ w.heap.size + 4) w A 0 ks := hr.rdp.mono (fun b hb => by have hb : b < w.heap.size := hb; show b ≠ _; omega)
  obtain ⟨k2, n2, ks2, hct⟩ := tm_eta (chg (shF by_ cut) 0 (.mk k n ks))
  have hsz2 : sizes ks2 ≤ 1000000001 := by
    have := (chg_size (Nat.le_refl 1) (shF_size by_ cut)).1 (.mk k n ks) 0
    rw [hct, Tm.size, Tm.size] at this
    omega
  cases hok : chgOk (shOk by_ cut) 0 (.mk k n ks) with
  | false =>
    have hz : shiftI by_ cut (.mk k n ks) = none := by rw [shiftI, hok]; rfl
    rw [hz]
    clear hz
    go_enter Tryz.func52, Tryz.ntmps52
    go_wp2_with (go_at_call 50; refine (changed_any (shift1_ok (bc := w.heap.size + 2) (bb := w.heap.size + 1) (g := w.heap.size + 4) hby hcut (((Blk.new_ _ 3 _ (by simp)).alloc _).alloc _) ((((Blk.new_ _ 3 _ (by simp)).alloc _).alloc _).alloc _) (by omega) (by omega)) (run_enter Tryz.func77 (by kernel_rfl) (by kernel_rfl)) (sizes ks + 1) k n ks A c 0 30 _ true (by omega) hs (by omega) (by omega) (by omega) (World.grownBy.refl _ _) (Blk.new_ _ 4 _ (by simp)) (((((hrp.alloc _).alloc _).alloc _).alloc _).alloc _)).mono ?_; rw [hct, hok]; intro e w6 hpost; obtain ⟨A6, c6, rfl, hl6, hf6, hG6, hg6⟩ := gotG_mk hpost; clear hpost; have hT6 : Blk w6 (w.heap.size + 1 + 1 + 1) #[.int .i64 0, .int .i64 0, .slice none 0 0] := ((Blk.new_ _ 27 _ (by simp)).alloc _).grown hg6 (by simp); have f0 := hG6.at_ (i := 0) rfl; obtain ⟨d0, d1, d2⟩ := hT6.three; have e0 := hT6.frozen 0; have e1 := hT6.frozen 1; have e2 := hT6.frozen 2; have lT := hT6.lt; have lG := hG6.lt; have hb6 : Below w.heap.size w w6 := ((((((Below.refl _ _).alloc (Nat.le_refl _) _).alloc (by simp) _).alloc (by simp; omega) _).alloc (by simp; omega) _).alloc (by simp; omega) _).grown hg6 (by simp; omega) (fun k e => by cases e; omega); replace hf6 := hf6.mono (B' := w.heap.size + 5) (by simp))
    have y := fun o => (((((hT6.set_ 0 (.int .i64 0)).set_ 1 (.int .i64 0)).set_ 2 (.slice none 0 0)).alloc o : Blk _ _ #[.int .i64 0, .int .i64 0, .slice none 0 0])).three
    refine bodyPost_ret (v := .tuple #[zeroV, .bool false]) (by simp [results, Tryz.results52, go_sem, y, zeroV]) rfl ⟨rfl, ?_⟩
    exact (((hb6.setCell (by simp; omega) _).setCell (by simp; omega) _).setCell (by simp; omega) _).alloc (by simp [World.setCell]; omega) _
  | true =>
    cases hv : validT (.mk k2 n2 ks2) with
    | false =>
      have hz : shiftI by_ cut (.mk k n ks) = none := by rw [shiftI, hok, if_pos rfl, hct, hv]; rfl
      rw [hz]
      clear hz
      go_enter Tryz.func52, Tryz.ntmps52
      go_wp2_with (first | (go_at_call 50; refine (changed_any (shift1_ok (bc := w.heap.size + 2) (bb := w.heap.size + 1) (g := w.heap.size + 4) hby hcut (((Blk.new_ _ 3 _ (by simp)).alloc _).alloc _) ((((Blk.new_ _ 3 _ (by simp)).alloc _).alloc _).alloc _) (by omega) (by omega)) (run_enter Tryz.func77 (by kernel_rfl) (by kernel_rfl)) (sizes ks + 1) k n ks A c 0 30 _ true (by omega) hs (by omega) (by omega) (by omega) (World.grownBy.refl _ _) (Blk.new_ _ 4 _ (by simp)) (((((hrp.alloc _).alloc _).alloc _).alloc _).alloc _)).mono ?_; rw [hct, hok]; intro e w6 hpost; obtain ⟨A6, c6, rfl, hl6, hf6, hG6, hg6⟩ := gotG_mk hpost; clear hpost; have hT6 : Blk w6 (w.heap.size + 1 + 1 + 1) #[.int .i64 0, .int .i64 0, .slice none 0 0] := ((Blk.new_ _ 27 _ (by simp)).alloc _).grown hg6 (by simp); have f0 := hG6.at_ (i := 0) rfl; obtain ⟨d0, d1, d2⟩ := hT6.three; have e0 := hT6.frozen 0; have e1 := hT6.frozen 1; have e2 := hT6.frozen 2; have lT := hT6.lt; have lG := hG6.lt; have hb6 : Below w.heap.size w w6 := ((((((Below.refl _ _).alloc (Nat.le_refl _) _).alloc (by simp) _).alloc (by simp; omega) _).alloc (by simp; omega) _).alloc (by simp; omega) _).grown hg6 (by simp; omega) (fun k e => by cases e; omega); replace hf6 := hf6.mono (B' := w.heap.size + 5) (by simp)) | (go_at_call 25; refine (valid_no k2 n2 ks2 A6 c6 _ (by omega) (hf6.rd.alloc _) hv).mono ?_; rintro e w8 ⟨rfl, hb8⟩; have hT8 : Blk w8 (w.heap.size + 1 + 1 + 1) #[.int .i64 0, .int .i64 0, .slice none 0 0] := (hT6.alloc _).keep hb8; obtain ⟨x0, x1, x2⟩ := hT8.three; have e80 := hT8.frozen 0; have e81 := hT8.frozen 1; have e82 := hT8.frozen 2; replace hb8 : Below w.heap.size w w8 := (hb6.alloc hb6.size _).trans (hb8.mono (by have := hb6.size; simp; omega)); have hzz : zeroV = .agg #[.int .i64 0, .int .i64 0, .slice none 0 0] := rfl))
      refine bodyPost_ret (v := .tuple #[zeroV, .bool false]) (by simp [results, Tryz.results52, go_sem, x0, x1, x2, zeroV]) rfl ⟨rfl, ?_⟩
      exact ((hb8.setCell (by simp; omega) _).setCell (by simp; omega) _).setCell (by simp; omega) _
    | true =>
      have hz : shiftI by_ cut (.mk k n ks) = some (.mk k2 n2 ks2) := by rw [shiftI, hok, if_pos rfl, hct, hv]; rfl
      rw [hz]
      clear hz
      go_enter Tryz.func52, Tryz.ntmps52
      go_wp2_with (first | (go_at_call 50; refine (changed_any (shift1_ok (bc := w.heap.size + 2) (bb := w.heap.size + 1) (g := w.heap.size + 4) hby hcut (((Blk.new_ _ 3 _ (by simp)).alloc _).alloc _) ((((Blk.new_ _ 3 _ (by simp)).alloc _).alloc _).alloc _) (by omega) (by omega)) (run_enter Tryz.func77 (by kernel_rfl) (by kernel_rfl)) (sizes ks + 1) k n ks A c 0 30 _ true (by omega) hs (by omega) (by omega) (by omega) (World.grownBy.refl _ _) (Blk.new_ _ 4 _ (by simp)) (((((hrp.alloc _).alloc _).alloc _).alloc _).alloc _)).mono ?_; rw [hct, hok]; intro e w6 hpost; obtain ⟨A6, c6, rfl, hl6, hf6, hG6, hg6⟩ := gotG_mk hpost; clear hpost; have hT6 : Blk w6 (w.heap.size + 1 + 1 + 1) #[.int .i64 0, .int .i64 0, .slice none 0 0] := ((Blk.new_ _ 27 _ (by simp)).alloc _).grown hg6 (by simp); have f0 := hG6.at_ (i := 0) rfl; obtain ⟨d0, d1, d2⟩ := hT6.three; have e0 := hT6.frozen 0; have e1 := hT6.frozen 1; have e2 := hT6.frozen 2; have lT := hT6.lt; have lG := hG6.lt; have hb6 : Below w.heap.size w w6 := ((((((Below.refl _ _).alloc (Nat.le_refl _) _).alloc (by simp) _).alloc (by simp; omega) _).alloc (by simp; omega) _).alloc (by simp; omega) _).grown hg6 (by simp; omega) (fun k e => by cases e; omega); replace hf6 := hf6.mono (B' := w.heap.size + 5) (by simp)) | (go_at_call 25; refine (valid_yes k2 n2 ks2 A6 c6 _ (by omega) (hf6.rd.alloc _) hv).mono ?_; rintro e w8 ⟨rfl, hb8⟩; have hf8 := (hf6.alloc (.cells #[.int .i64 k2, .int .i64 n2, .slice A6 ks2.length c6] 27)).below hb8; have hT8 : Blk w8 (w.heap.size + 1 + 1 + 1) #[.int .i64 0, .int .i64 0, .slice none 0 0] := (hT6.alloc _).keep hb8; obtain ⟨x0, x1, x2⟩ := hT8.three; have e80 := hT8.frozen 0; have e81 := hT8.frozen 1; have e82 := hT8.frozen 2; replace hb8 : Below w.heap.size w w8 := (hb6.alloc hb6.size _).trans (hb8.mono (by have := hb6.size; simp; omega))))
      refine bodyPost_ret (v := .tuple #[.agg #[.int .i64 k2, .int .i64 n2, .slice A6 ks2.length c6], .bool true]) (by simp [results, Tryz.results52, go_sem, x0, x1, x2]) rfl ⟨A6, c6, rfl, hl6, ?_, ?_⟩
      · exact (((hf8.setCell (by simp) _).setCell (by simp) _).setCell (by simp) _).mono (by omega)
      · exact ((hb8.setCell (by simp; omega) _).setCell (by simp; omega) _).setCell (by simp; omega) _
end Go.Proofs.YthgmofdfecioaaaGreatDoor

namespace Go.Proofs.YthgmofdfecioaaaGreatDoor
open Go.RowKit
set_option linter.unusedSimpArgs false
set_option linter.unusedVariables false

set_option maxHeartbeats 1000000 in
theorem sLeaf_any (k n : Int) (w : World) : Calls Tryz.prog 78 #[.int .i64 k, .int .i64 n] w fun e w' => e = .returned (.agg #[.int .i64 k, .int .i64 n, .slice none 0 0]) ∧ Below w.heap.size w w' := by
  go_enter Tryz.func78, Tryz.ntmps78
  go_wp2_with fail
  refine bodyPost_ret (v := .agg #[.int .i64 k, .int .i64 n, .slice none 0 0]) (by simp [results, Tryz.results78, go_sem]) rfl ⟨rfl, ?_⟩
  exact (Below.refl _ _).alloc (Nat.le_refl _) _

mutual
def flS (args : List Tm) : Int → Tm → Tm
  | d, .mk k n ks => if k = 1 ∧ d ≤ n then (if n < d + args.length then shS d 0 (args.getD (n - d).toNat default) else .mk 1 (n - args.length) []) else .mk k n (flSL args k d 0 ks)
def flSL (args : List Tm) : Int → Int → Nat → List Tm → List Tm | _, _, _, [] => [] | k, d, i, t :: ts => flS args (d + under k i) t :: flSL args k d (i + 1) ts
end

theorem flSL_append (args : List Tm) (k d : Int) (us : List Tm) : ∀ (ts : List Tm) (i : Nat), flSL args k d i (ts ++ us) = flSL args k d i ts ++ flSL args k d (i + ts.length) us
  | [], i => by simp [flSL]
  | t :: ts, i => by rw [List.cons_append, flSL, flSL, flSL_append args k d us ts (i + 1), List.cons_append, List.length_cons, show i + 1 + ts.length = i + (ts.length + 1) from by omega]
theorem flSL_length (args : List Tm) (k d : Int) : ∀ (ts : List Tm) (i : Nat), (flSL args k d i ts).length = ts.length
  | [], i => by simp [flSL]
  | t :: ts, i => by rw [flSL, List.length_cons, List.length_cons, flSL_length args k d ts (i + 1)]
theorem flSL_take (args : List Tm) (k d : Int) {ks : List Tm} {j : Nat} (hj : j < ks.length) : flSL args k d 0 (ks.take (j + 1)) = flSL args k d 0 (ks.take j) ++ [flS args (d + under k j) ks[j]] := by
  rw [List.take_succ_eq_append_getElem hj, flSL_append, List.length_take, Nat.min_eq_left (Nat.le_of_lt hj), Nat.zero_add, flSL, flSL]

end Go.Proofs.YthgmofdfecioaaaGreatDoor

namespace Go.Proofs.YthgmofdfecioaaaGreatDoor
open Go.RowKit
set_option linter.unusedSimpArgs false
set_option linter.unusedVariables false

/-- a place in a string where a sign stands, as numbers -/
theorem at_byte {s : ByteArray} {i : Nat} {c : UInt8} {bs : List UInt8} (h : Has s i (c :: bs)) {z : Nat} (hz : c.toNat = z) : ∃ hi : i < s.size, (s[i]'hi).toNat = z := by
  obtain ⟨⟨hi, hc⟩, _⟩ := h.cons
  exact ⟨hi, by rw [hc, hz]⟩
theorem ParsedT.cast {w : World} {k n : Int} {ks : List Tm} {j j' : Nat} {e : Ending} {w' : World} (h : ParsedT w k n ks j e w') (hj : j = j') : ParsedT w k n ks j' e w' := hj ▸ h

section
variable (s : ByteArray) (i : Nat) (D : Int) (w : World)
set_option maxHeartbeats 4000000 in
set_option maxRecDepth 100000 in
theorem parse_var (n : Int) (c : UInt8) (h : 0 ≤ n ∧ n ≤ 9 ∧ (c.toNat : Int) = 48 + n) (hs : s.size ≤ 1000000) (hh : Has s i [35, c]) (hn : Nd s (i + 2)) (hD : 1 ≤ D) (hD2 : D ≤ 1000) :
    Calls Tryz.prog 63 #[.string s, .int .i64 i, .int .i64 D] w (ParsedT w 1 n [] (i + 2)) := by
  obtain ⟨hi, he⟩ := at_byte hh (z := 35) rfl
  obtain ⟨_, hh2⟩ := hh.cons
  obtain ⟨hi2, he2⟩ := at_byte hh2 (z := c.toNat) rfl
  have hnum := hide (fun w => l1Number_one s (i + 1) c.toNat 2 w (.inr rfl) hs hi2 he2 (by omega) (by omega) (fun _ => hn))
  have hcn : Hid ((c.toNat : Int) - 48 = n) := hide (by omega)
  clear hh hh2 he2 hn
  go_enter Tryz.func63, Tryz.ntmps63
  go_wp2_with (first
    | (go_at_call 78; refine (sLeaf_any _ _ _).mono ?_; rintro e w1 ⟨rfl, hb1⟩; have hZ := (Blk.new_ w 27 #[.int .i64 0, .int .i64 0, .slice none 0 0] rfl).keep hb1; have d0 := hZ.at_ (i := 0) rfl; have d1 := hZ.at_ (i := 1) rfl; have d2 := hZ.at_ (i := 2) rfl; have e0 := hZ.frozen 0; have e1 := hZ.frozen 1; have e2 := hZ.frozen 2; have g1 : Below w.heap.size w w1 := ((Below.refl _ _).alloc (Nat.le_refl _) _).trans (hb1.mono (by simp)))
    | (go_at_call 88; refine (hnum.out _).mono ?_; rintro e w9 ⟨rfl, rfl⟩; rw [hcn.out]))
  refine bodyPost_ret (v := .tuple #[.agg #[.int .i64 1, .int .i64 n, .slice none 0 0], .int .i64 ((i + 2 : Nat) : Int)]) (by simp [results, Tryz.results63, go_sem, d0, d1, d2]; omega) rfl ⟨i + 2, none, 0, rfl, rfl, by simp, Fresh.nil, ((g1.setCell (by simp) _).setCell (by simp) _).setCell (by simp) _⟩
set_option maxHeartbeats 4000000 in
set_option maxRecDepth 100000 in
theorem parse_sort (n : Int) (c : UInt8) (h : 0 ≤ n ∧ n ≤ 3 ∧ (c.toNat : Int) = 48 + n) (hs : s.size ≤ 1000000) (hh : Has s i [42, c]) (hn : Nd s (i + 2)) (hD : 1 ≤ D) (hD2 : D ≤ 1000) :
    Calls Tryz.prog 63 #[.string s, .int .i64 i, .int .i64 D] w (ParsedT w 2 n [] (i + 2)) := by
  obtain ⟨hi, he⟩ := at_byte hh (z := 42) rfl
  obtain ⟨_, hh2⟩ := hh.cons
  obtain ⟨hi2, he2⟩ := at_byte hh2 (z := c.toNat) rfl
  have hnum := hide (fun w => l1Number_one s (i + 1) c.toNat 1 w (.inl rfl) hs hi2 he2 (by omega) (by omega) (fun h => absurd h (by decide)))
  have hcn : Hid ((c.toNat : Int) - 48 = n) := hide (by omega)
  clear hh hh2 he2 hn
  go_enter Tryz.func63, Tryz.ntmps63
  go_wp2_with (first
    | (go_at_call 78; refine (sLeaf_any _ _ _).mono ?_; rintro e w1 ⟨rfl, hb1⟩; have hZ := (Blk.new_ w 27 #[.int .i64 0, .int .i64 0, .slice none 0 0] rfl).keep hb1; have d0 := hZ.at_ (i := 0) rfl; have d1 := hZ.at_ (i := 1) rfl; have d2 := hZ.at_ (i := 2) rfl; have e0 := hZ.frozen 0; have e1 := hZ.frozen 1; have e2 := hZ.frozen 2; have g1 : Below w.heap.size w w1 := ((Below.refl _ _).alloc (Nat.le_refl _) _).trans (hb1.mono (by simp)))
    | (go_at_call 88; refine (hnum.out _).mono ?_; rintro e w9 ⟨rfl, rfl⟩; rw [hcn.out]))
  refine bodyPost_ret (v := .tuple #[.agg #[.int .i64 2, .int .i64 n, .slice none 0 0], .int .i64 ((i + 2 : Nat) : Int)]) (by simp [results, Tryz.results63, go_sem, d0, d1, d2]; omega) rfl ⟨i + 2, none, 0, rfl, rfl, by simp, Fresh.nil, ((g1.setCell (by simp) _).setCell (by simp) _).setCell (by simp) _⟩
set_option maxHeartbeats 4000000 in
set_option maxRecDepth 100000 in
theorem parse_nat (hs : s.size ≤ 1000000) (hh : Has s i [78]) (hD : 1 ≤ D) (hD2 : D ≤ 1000) :
    Calls Tryz.prog 63 #[.string s, .int .i64 i, .int .i64 D] w (ParsedT w 6 0 [] (i + 1)) := by
  obtain ⟨hi, he⟩ := at_byte hh (z := 78) rfl
  clear hh
  go_enter Tryz.func63, Tryz.ntmps63
  go_wp2_with (go_at_call 78; refine (sLeaf_any _ _ _).mono ?_; rintro e w1 ⟨rfl, hb1⟩; have hZ := (Blk.new_ w 27 #[.int .i64 0, .int .i64 0, .slice none 0 0] rfl).keep hb1; have d0 := hZ.at_ (i := 0) rfl; have d1 := hZ.at_ (i := 1) rfl; have d2 := hZ.at_ (i := 2) rfl; have e0 := hZ.frozen 0; have e1 := hZ.frozen 1; have e2 := hZ.frozen 2; have g1 : Below w.heap.size w w1 := ((Below.refl _ _).alloc (Nat.le_refl _) _).trans (hb1.mono (by simp)))
  refine bodyPost_ret (v := .tuple #[.agg #[.int .i64 6, .int .i64 0, .slice none 0 0], .int .i64 ((i + 1 : Nat) : Int)]) (by simp [results, Tryz.results63, go_sem, d0, d1, d2]) rfl ⟨i + 1, none, 0, rfl, rfl, by simp, Fresh.nil, ((g1.setCell (by simp) _).setCell (by simp) _).setCell (by simp) _⟩
set_option maxHeartbeats 4000000 in
set_option maxRecDepth 100000 in
theorem parse_zero (hs : s.size ≤ 1000000) (hh : Has s i [48]) (hD : 1 ≤ D) (hD2 : D ≤ 1000) :
    Calls Tryz.prog 63 #[.string s, .int .i64 i, .int .i64 D] w (ParsedT w 7 0 [] (i + 1)) := by
  obtain ⟨hi, he⟩ := at_byte hh (z := 48) rfl
  clear hh
  go_enter Tryz.func63, Tryz.ntmps63
  go_wp2_with (go_at_call 78; refine (sLeaf_any _ _ _).mono ?_; rintro e w1 ⟨rfl, hb1⟩; have hZ := (Blk.new_ w 27 #[.int .i64 0, .int .i64 0, .slice none 0 0] rfl).keep hb1; have d0 := hZ.at_ (i := 0) rfl; have d1 := hZ.at_ (i := 1) rfl; have d2 := hZ.at_ (i := 2) rfl; have e0 := hZ.frozen 0; have e1 := hZ.frozen 1; have e2 := hZ.frozen 2; have g1 : Below w.heap.size w w1 := ((Below.refl _ _).alloc (Nat.le_refl _) _).trans (hb1.mono (by simp)))
  refine bodyPost_ret (v := .tuple #[.agg #[.int .i64 7, .int .i64 0, .slice none 0 0], .int .i64 ((i + 1 : Nat) : Int)]) (by simp [results, Tryz.results63, go_sem, d0, d1, d2]) rfl ⟨i + 1, none, 0, rfl, rfl, by simp, Fresh.nil, ((g1.setCell (by simp) _).setCell (by simp) _).setCell (by simp) _⟩
set_option maxHeartbeats 4000000 in
set_option maxRecDepth 100000 in
theorem parse_pre (z j : Nat) (k : Int) (ks : List Tm) (hz : z = 43 ∨ z = 33 ∨ z = 94 ∨ z = 95) (hs : s.size ≤ 1000000) (hi : i < s.size) (he : (s[i]'hi).toNat = z) (hD : 1 ≤ D) (hD2 : D ≤ 1000) (hl : ks.length ≤ 9223372036854775807)
    (hp : ∀ w (I D' : Int), I = (i : Int) → D' = D → Calls Tryz.prog 89 #[.string s, .int .i64 I, .int .i64 D'] w (ParsedT w k 0 ks j)) :
    Calls Tryz.prog 63 #[.string s, .int .i64 i, .int .i64 D] w (ParsedT w k 0 ks j) := by
  have hp' := hide hp
  clear hp
  rcases hz with rfl | rfl | rfl | rfl
  all_goals
    go_enter Tryz.func63, Tryz.ntmps63
    go_wp2_with (go_at_call 89; refine (hp'.out _ _ _ (by simp) rfl).mono ?_; rintro e w1 ⟨m1, A1, c1, hm1, rfl, hl1, hf1, hb1⟩; have hm1' := hide hm1; clear hm1; have hZ := (Blk.new_ w 27 #[.int .i64 0, .int .i64 0, .slice none 0 0] rfl).keep hb1; have d0 := hZ.at_ (i := 0) rfl; have d1 := hZ.at_ (i := 1) rfl; have d2 := hZ.at_ (i := 2) rfl; have e0 := hZ.frozen 0; have e1 := hZ.frozen 1; have e2 := hZ.frozen 2; have g1 : Below w.heap.size w w1 := ((Below.refl _ _).alloc (Nat.le_refl _) _).trans (hb1.mono (by simp)))
    refine bodyPost_ret (v := .tuple #[.agg #[.int .i64 k, .int .i64 0, .slice A1 ks.length c1], .int .i64 m1]) (by simp [results, Tryz.results63, go_sem, d0, d1, d2]) rfl ⟨m1, A1, c1, hm1'.out, rfl, hl1, ?_, ((g1.setCell (by simp) _).setCell (by simp) _).setCell (by simp) _⟩
    exact (((hf1.setCell (by simp) _).setCell (by simp) _).setCell (by simp) _).mono (by simp)
set_option maxHeartbeats 4000000 in
set_option maxRecDepth 100000 in
theorem parse_rnd (z j : Nat) (k : Int) (ks : List Tm) (hz : z = 40 ∨ z = 40) (hs : s.size ≤ 1000000) (hi : i < s.size) (he : (s[i]'hi).toNat = z) (hD : 1 ≤ D) (hD2 : D ≤ 1000) (hl : ks.length ≤ 9223372036854775807)
    (hp : ∀ w (I D' : Int), I = (i + 1 : Nat) → D' = D - 1 → Calls Tryz.prog 90 #[.string s, .int .i64 I, .int .i64 D'] w (ParsedT w k 0 ks j)) :
    Calls Tryz.prog 63 #[.string s, .int .i64 i, .int .i64 D] w (ParsedT w k 0 ks j) := by
  have hp' := hide hp
  clear hp
  rcases hz with rfl | rfl
  all_goals
    go_enter Tryz.func63, Tryz.ntmps63
    go_wp2_with (go_at_call 90; refine (hp'.out _ _ _ (by simp) rfl).mono ?_; rintro e w1 ⟨m1, A1, c1, hm1, rfl, hl1, hf1, hb1⟩; have hm1' := hide hm1; clear hm1; have hZ := (Blk.new_ w 27 #[.int .i64 0, .int .i64 0, .slice none 0 0] rfl).keep hb1; have d0 := hZ.at_ (i := 0) rfl; have d1 := hZ.at_ (i := 1) rfl; have d2 := hZ.at_ (i := 2) rfl; have e0 := hZ.frozen 0; have e1 := hZ.frozen 1; have e2 := hZ.frozen 2; have g1 : Below w.heap.size w w1 := ((Below.refl _ _).alloc (Nat.le_refl _) _).trans (hb1.mono (by simp)))
    refine bodyPost_ret (v := .tuple #[.agg #[.int .i64 k, .int .i64 0, .slice A1 ks.length c1], .int .i64 m1]) (by simp [results, Tryz.results63, go_sem, d0, d1, d2]) rfl ⟨m1, A1, c1, hm1'.out, rfl, hl1, ?_, ((g1.setCell (by simp) _).setCell (by simp) _).setCell (by simp) _⟩
    exact (((hf1.setCell (by simp) _).setCell (by simp) _).setCell (by simp) _).mono (by simp)
set_option maxHeartbeats 4000000 in
set_option maxRecDepth 100000 in
theorem parse_blk (z j : Nat) (k : Int) (ks : List Tm) (hz : z = 60 ∨ z = 123 ∨ z = 124 ∨ z = 64) (hs : s.size ≤ 1000000) (hi : i < s.size) (he : (s[i]'hi).toNat = z) (hD : 1 ≤ D) (hD2 : D ≤ 1000) (hl : ks.length ≤ 9223372036854775807)
    (hp : ∀ w (I D' : Int), I = (i : Int) → D' = D → Calls Tryz.prog 91 #[.string s, .int .i64 I, .int .i64 D'] w (ParsedT w k 0 ks j)) :
    Calls Tryz.prog 63 #[.string s, .int .i64 i, .int .i64 D] w (ParsedT w k 0 ks j) := by
  have hp' := hide hp
  clear hp
  rcases hz with rfl | rfl | rfl | rfl
  all_goals
    go_enter Tryz.func63, Tryz.ntmps63
    go_wp2_with (go_at_call 91; refine (hp'.out _ _ _ (by simp) rfl).mono ?_; rintro e w1 ⟨m1, A1, c1, hm1, rfl, hl1, hf1, hb1⟩; have hm1' := hide hm1; clear hm1; have hZ := (Blk.new_ w 27 #[.int .i64 0, .int .i64 0, .slice none 0 0] rfl).keep hb1; have d0 := hZ.at_ (i := 0) rfl; have d1 := hZ.at_ (i := 1) rfl; have d2 := hZ.at_ (i := 2) rfl; have e0 := hZ.frozen 0; have e1 := hZ.frozen 1; have e2 := hZ.frozen 2; have g1 : Below w.heap.size w w1 := ((Below.refl _ _).alloc (Nat.le_refl _) _).trans (hb1.mono (by simp)))
    refine bodyPost_ret (v := .tuple #[.agg #[.int .i64 k, .int .i64 0, .slice A1 ks.length c1], .int .i64 m1]) (by simp [results, Tryz.results63, go_sem, d0, d1, d2]) rfl ⟨m1, A1, c1, hm1'.out, rfl, hl1, ?_, ((g1.setCell (by simp) _).setCell (by simp) _).setCell (by simp) _⟩
    exact (((hf1.setCell (by simp) _).setCell (by simp) _).setCell (by simp) _).mono (by simp)
set_option maxHeartbeats 4000000 in
set_option maxRecDepth 100000 in
theorem parse_lam (j1 j2 : Nat) (k1 n1 : Int) (ks1 : List Tm) (k2 n2 : Int) (ks2 : List Tm) (hs : s.size ≤ 1000000) (hi : i < s.size) (he : (s[i]'hi).toNat = 91) (hi1 : j1 < s.size) (he1 : (s[j1]'hi1).toNat = 93) (hD : 1 ≤ D) (hD2 : D ≤ 1000)
    (hp1 : ∀ w (I D' : Int), I = (i + 1 : Nat) → D' = D - 1 → Calls Tryz.prog 63 #[.string s, .int .i64 I, .int .i64 D'] w (ParsedT w k1 n1 ks1 j1)) (hp2 : ∀ w (I D' : Int), I = (j1 + 1 : Nat) → D' = D - 1 → Calls Tryz.prog 63 #[.string s, .int .i64 I, .int .i64 D'] w (ParsedT w k2 n2 ks2 j2)) :
    Calls Tryz.prog 63 #[.string s, .int .i64 i, .int .i64 D] w (ParsedT w 4 0 [.mk k1 n1 ks1, .mk k2 n2 ks2] j2) := by
  have hpar1 := hide hp1
  have hpar2 := hide hp2
  clear hp1 hp2
  go_enter Tryz.func63, Tryz.ntmps63
  go_wp2_with (first
    | (go_at_call 32; refine (l1Node_any (B := w.heap.size + 1) (us := [.mk k1 n1 ks1, .mk k2 n2 ks2]) _ (by simp; omega) ((hO2.alloc _).alloc _) hnd hge (by simp) _ 2 (Blk.new_ _ 27 _ (by simp))).mono ?_; rintro e w4 ⟨A4, c4, rfl, hf4, hb4⟩; replace hZ := ((hZ.alloc _).alloc _).keep hb4; have d0 := hZ.at_ (i := 0) rfl; have d1 := hZ.at_ (i := 1) rfl; have d2 := hZ.at_ (i := 2) rfl; have e0 := hZ.frozen 0; have e1 := hZ.frozen 1; have e2 := hZ.frozen 2; have g4 : Below w.heap.size w w4 := ((g3.alloc (by omega) _).alloc (by simp; omega) _).trans (hb4.mono (by simp; omega)))
    | (go_at_call 63; have _t := tok; refine (hpar2.out _ _ _ (by simp) rfl).mono ?_; rintro e w3 ⟨m2, A2, c2, hm2, rfl, hl2, hf2, hb2⟩; subst hm2; clear tok; obtain ⟨fp, hO2, hnd, hge⟩ := (hf1.alloc _).node2 hb2 hf2 (by simp; omega) hl1 hl2 k1 n1 k2 n2 c1 c2; replace hZ := (hZ.alloc _).keep hb2; have hX1 := (Blk.new_ w1 27 #[.int .i64 k1, .int .i64 n1, .slice A1 ks1.length c1] rfl).keep hb2; have x0 := hX1.at_ (i := 0) rfl; have x1 := hX1.at_ (i := 1) rfl; have x2 := hX1.at_ (i := 2) rfl; have lx := hX1.lt; have lz := hZ.lt; have g3 : Below w.heap.size w w3 := (g1.alloc (by omega) _).trans (hb2.mono (by simp; omega)); have s3 := g3.size; have s13 : w1.heap.size + 1 ≤ w3.heap.size := (by have := hb2.size; simpa using this))
    | (go_at_call 63; refine (hpar1.out _ _ _ (by simp) rfl).mono ?_; rintro e w1 ⟨m, A1, c1, hm, rfl, hl1, hf1, hb1⟩; subst hm; have tok : True := trivial; replace hf1 := hf1.mono (B' := w.heap.size + 1) (by simp); have hZ := (Blk.new_ w 27 #[.int .i64 0, .int .i64 0, .slice none 0 0] rfl).keep hb1; have g1 : Below w.heap.size w w1 := ((Below.refl _ _).alloc (Nat.le_refl _) _).trans (hb1.mono (by simp)); have s1 := g1.size; have s1' := hZ.lt))
  refine bodyPost_ret (v := _) ?_ rfl ⟨m2, A4, c4, rfl, rfl, by simp, ?_, ((g4.setCell (by simp) _).setCell (by simp) _).setCell (by simp) _⟩
  · simp [results, Tryz.results63, go_sem, d0, d1, d2]
  · exact (((hf4.setCell (by simp) _).setCell (by simp) _).setCell (by simp) _).mono (by omega)
end
theorem parse_any {d : Nat} {t : Tm} {b : List UInt8} (h : Tx d t b) : ∀ (k n : Int) (ks : List Tm), t = .mk k n ks → ParseOk k n ks b d := by
  induction h with
  | var d n c h => rintro k' n' ks' ⟨⟩ s i I D w hs rfl hh hn hD hD2; exact parse_var s i D w n c h hs hh hn (by omega) hD2
  | sort d n c h => rintro k' n' ks' ⟨⟩ s i I D w hs rfl hh hn hD hD2; exact parse_sort s i D w n c h hs hh hn (by omega) hD2
  | nat d => rintro k' n' ks' ⟨⟩ s i I D w hs rfl hh hn hD hD2; exact parse_nat s i D w hs hh (by omega) hD2
  | zero d => rintro k' n' ks' ⟨⟩ s i I D w hs rfl hh hn hD hD2; exact parse_zero s i D w hs hh (by omega) hD2
  | pre d k c t b h ht ih =>
    rintro k' n' ks' ⟨⟩ s i I D w hs rfl hh hn hD hD2
    obtain ⟨k1, n1, ks1⟩ := t
    obtain ⟨hi, he⟩ := at_byte hh (z := c.toNat) rfl
    have hz : c.toNat = 43 ∨ c.toNat = 33 ∨ c.toNat = 94 ∨ c.toNat = 95 := by rcases h with ⟨_, rfl⟩ | ⟨_, rfl⟩ | ⟨_, rfl⟩ | ⟨_, rfl⟩ <;> decide
    rw [List.length_cons] at hn ⊢
    exact parse_pre s i D w _ _ k _ hz hs hi he (by omega) hD2 (by simp) fun w I D' hI hD' => by
      subst hD'
      have := prefix_any h (ih k1 n1 ks1 rfl) s i I D' w hs hI hh (by rw [show i + 1 + b.length = i + (b.length + 1) by omega]; exact hn) (by omega) hD2
      rwa [show i + 1 + b.length = i + (b.length + 1) by omega] at this
  | rnd d k c t u x y h ht hu i1 i2 =>
    rintro k' n' ks' ⟨⟩ s i I D w hs rfl hh hn hD hD2
    obtain ⟨k1, n1, ks1⟩ := t
    obtain ⟨k2, n2, ks2⟩ := u
    obtain ⟨hi, he⟩ := at_byte hh (z := 40) rfl
    obtain ⟨_, hh2⟩ := hh.cons
    exact parse_rnd s i D w _ _ k _ (.inl rfl) hs hi he (by omega) hD2 (by simp) fun w I D' hI hD' => by
      subst hD'
      have := round_any h (i1 k1 n1 ks1 rfl) (i2 k2 n2 ks2 rfl) s (i + 1) I (D - 1) w hs hI hh2 (by omega) (by omega)
      have e : i + 1 + x.length + 1 + y.length + 1 = i + (40 :: (x ++ c :: (y ++ [41]))).length := by simp; omega
      rwa [e] at this
  | lam d t u x y ht hu i1 i2 =>
    rintro k' n' ks' ⟨⟩ s i I D w hs rfl hh hn hD hD2
    obtain ⟨k1, n1, ks1⟩ := t
    obtain ⟨k2, n2, ks2⟩ := u
    obtain ⟨hi, he⟩ := at_byte hh (z := 91) rfl
    obtain ⟨_, hh2⟩ := hh.cons
    obtain ⟨hh3, hh4⟩ := hh2.app
    obtain ⟨hi1, he1⟩ := at_byte hh4 (z := 93) rfl
    obtain ⟨_, hh5⟩ := hh4.cons
    have e : i + (91 :: (x ++ 93 :: y)).length = i + 1 + x.length + 1 + y.length := by simp; omega
    rw [e] at hn ⊢
    exact parse_lam s i D w (i + 1 + x.length) _ k1 n1 ks1 k2 n2 ks2 hs hi he hi1 he1 (by omega) hD2
      (fun w I D' hI hD' => i1 k1 n1 ks1 rfl s (i + 1) I D' w hs hI hh3 (.of hh4 (by decide)) (by omega) (by omega))
      (fun w I D' hI hD' => i2 k2 n2 ks2 rfl s (i + 1 + x.length + 1) I D' w hs hI hh5 hn (by omega) (by omega))
  | blk d k m o c ts xs h hm hx ht ih =>
    rintro k' n' ks' ⟨⟩ s i I D w hs rfl hh hn hD hD2
    obtain ⟨a, ao, hao, hz⟩ : ∃ a ao, o = a :: ao ∧ (a.toNat = 60 ∨ a.toNat = 123 ∨ a.toNat = 124 ∨ a.toNat = 64) := by rcases h with ⟨_, _, rfl, _⟩ | ⟨_, _, rfl, _⟩ | ⟨_, _, rfl, _⟩ | ⟨_, _, rfl, _⟩ <;> exact ⟨_, _, rfl, by decide⟩
    have hh1 := hh
    rw [hao] at hh1
    obtain ⟨hi, he⟩ := at_byte hh1 (z := a.toNat) rfl
    have hm4 : ts.length ≤ 4 := by rcases h with ⟨_, rfl, _, _⟩ | ⟨_, rfl, _, _⟩ | ⟨_, rfl, _, _⟩ | ⟨_, rfl, _, _⟩ <;> omega
    exact parse_blk s i D w _ _ k _ hz hs hi he (by omega) hD2 (by omega) fun w I D' hI hD' => by
      subst hD'
      exact block_any h ts xs hm hx (fun j k n ks x h1 h2 => ih j (.mk k n ks) x h1 h2 k n ks rfl) s i I D' w hs hI hh (by omega) hD2
end Go.Proofs.YthgmofdfecioaaaGreatDoor

namespace Go.Proofs.YthgmofdfecioaaaGreatDoor
open Go.RowKit
set_option linter.unusedSimpArgs false
set_option linter.unusedVariables false

def byt (l : List UInt8) : ByteArray := ⟨l.toArray⟩
theorem ret_str {a b : ByteArray} (h : a.data.toList = b.data.toList) : Ending.returned (.string a) = .returned (.string b) := by
  rw [ByteArray.ext (Array.ext' h)]
theorem add_str (a b : List UInt8) (h : a.length + b.length ≤ 1000000) (w : World) : (Op.stringOp .add (byt a) (byt b)).run Tryz.prog w = .ok (.string (byt (a ++ b))) w := by
  rw [run_string_add_sum w _ _ (by simp [byt, ByteArray.size]; omega)]
  unfold byt
  rw [ByteArray.mk_append_mk]
set_option maxHeartbeats 2000000 in
set_option maxRecDepth 100000 in
theorem dec_any (n : Int) (c : UInt8) (h : 0 ≤ n ∧ n ≤ 9 ∧ (c.toNat : Int) = 48 + n) (w : World) : Calls Tryz.prog 120 #[.int .i64 n] w fun e w' => e = .returned (.string (byt [c])) ∧ Below w.heap.size w w' := by
  have hcv := hide (run_convert_bytes_back (P := Tryz.prog) (w.alloc (.cells #[.int .u8 (48 + n)] 5)) 22 9 5 ⟨w.heap.size, 0, none⟩ 1 [c] Tryz.underlying22 Tryz.underlying5 Tryz.underlying9 (fun j hj => by
    have : j = 0 := by simpa using hj
    subst this
    simp [Addr.add, h.2.2]))
  have hcv2 : (convert 22 9 (.slice (some ⟨w.heap.size, 0, none⟩) 1 1)).run Tryz.prog (w.alloc (.cells #[.int .u8 (48 + n)] 5)) = .ok (.string (byt [c])) (w.alloc (.cells #[.int .u8 (48 + n)] 5)) := hcv.out
  have hu8 : IntKind.u8.wrap (48 + n) = 48 + n := IntWalk.u8_in _ (by omega)
  have hd1 : decide (n < -9223372036854775807) = false := decide_eq_false (by omega)
  have hd2 : decide (n < 0) = false := decide_eq_false (by omega)
  have hd3 : decide (9 < n) = false := decide_eq_false (by omega)
  obtain ⟨h1, h2, h3⟩ := h
  have h3' := hide h3
  clear hcv h3
  go_enter Tryz.func120, Tryz.ntmps120
  go_wp2
  go_loop [0, 3] (fun a v => a = .int .i64 n ∧ v = .string (byt [])) (fun _ _ => 0)
  case atStart => exact ⟨rfl, rfl⟩
  case round =>
    obtain ⟨rfl, rfl⟩ := hrel
    have hadd := fun w => add_str [c] [] (by simp) w
    go_wp2
    go_ret
    exact ⟨rfl, (Below.refl _ _).alloc (Nat.le_refl _) _⟩

def TextOk (k n : Int) (ks : List Tm) (b : List UInt8) : Prop := ∀ (A : Option Addr) (c : Nat) (w : World), b.length ≤ 100000 → Rd w A 0 ks →
  Calls Tryz.prog 92 #[.agg #[.int .i64 k, .int .i64 n, .slice A ks.length c]] w fun e w' => e = .returned (.string (byt b)) ∧ Below w.heap.size w w'
set_option maxHeartbeats 4000000 in
set_option maxRecDepth 100000 in
theorem text_var (n : Int) (c : UInt8) (h : 0 ≤ n ∧ n ≤ 9 ∧ (c.toNat : Int) = 48 + n) : TextOk 1 n [] [35, c] := by
  intro A cc w _ _
  have hsz : (byt [c]).size ≤ 1000 := by simp [byt, ByteArray.size]
  have h9 : 0 ≤ n ∧ n ≤ 9 ∧ (c.toNat : Int) = 48 + n := ⟨h.1, by omega, h.2.2⟩
  clear h
  go_enter Tryz.func92, Tryz.ntmps92
  go_wp2_with (go_at_call 120; refine (dec_any n c h9 _).mono ?_; rintro e w1 ⟨rfl, hb1⟩)
  go_ret
  exact ⟨ret_str (by simp [byt]), ((Below.refl _ _).alloc (Nat.le_refl _) _).trans (hb1.mono (by simp))⟩
set_option maxHeartbeats 4000000 in
set_option maxRecDepth 100000 in
theorem text_sort (n : Int) (c : UInt8) (h : 0 ≤ n ∧ n ≤ 3 ∧ (c.toNat : Int) = 48 + n) : TextOk 2 n [] [42, c] := by
  intro A cc w _ _
  have hsz : (byt [c]).size ≤ 1000 := by simp [byt, ByteArray.size]
  have h9 : 0 ≤ n ∧ n ≤ 9 ∧ (c.toNat : Int) = 48 + n := ⟨h.1, by omega, h.2.2⟩
  clear h
  go_enter Tryz.func92, Tryz.ntmps92
  go_wp2_with (go_at_call 120; refine (dec_any n c h9 _).mono ?_; rintro e w1 ⟨rfl, hb1⟩)
  go_ret
  exact ⟨ret_str (by simp [byt]), ((Below.refl _ _).alloc (Nat.le_refl _) _).trans (hb1.mono (by simp))⟩
set_option maxHeartbeats 4000000 in
set_option maxRecDepth 100000 in
theorem text_nat : TextOk 6 0 [] [78] := by
  intro A cc w _ _
  go_enter Tryz.func92, Tryz.ntmps92
  go_wp2
  go_ret
  exact ⟨ret_str (by simp [byt]), (Below.refl _ _).alloc (Nat.le_refl _) _⟩
set_option maxHeartbeats 4000000 in
set_option maxRecDepth 100000 in
theorem text_zero : TextOk 7 0 [] [48] := by
  intro A cc w _ _
  go_enter Tryz.func92, Tryz.ntmps92
  go_wp2
  go_ret
  exact ⟨ret_str (by simp [byt]), (Below.refl _ _).alloc (Nat.le_refl _) _⟩
set_option maxHeartbeats 4000000 in
set_option maxRecDepth 100000 in
theorem text_pre {k : Int} {c : UInt8} {k1 n1 : Int} {ks1 : List Tm} {b : List UInt8} (h : PreK k c) (ih : TextOk k1 n1 ks1 b) : TextOk k 0 [.mk k1 n1 ks1] (c :: b) := by
  intro A cc w hl hr
  obtain ⟨bb, off, k', n', ks', A', c', rfl, hk, hc1, hc2, hc3, hl', hr'⟩ := hr.at_ (j := 0) (by simp)
  injection hk with h1 h2 h3
  subst h1 h2 h3
  simp only [Nat.zero_mul, Nat.add_zero] at hc1 hc2 hc3
  have hb : b.length ≤ 100000 := by simp at hl; omega
  have hsz : (byt b).size ≤ 100000 := by simpa [byt, ByteArray.size] using hb
  have ih' := hide ih
  have bl : bb < w.heap.size := World.block_lt_of_cell? w _ hc1
  clear ih hr
  rcases h with ⟨rfl, rfl⟩ | ⟨rfl, rfl⟩ | ⟨rfl, rfl⟩ | ⟨rfl, rfl⟩
  all_goals
    go_enter Tryz.func92, Tryz.ntmps92
    go_wp2_with (go_at_call 92; refine (ih'.out A' c' _ hb (hr'.alloc _)).mono ?_; rintro e w1 ⟨rfl, hb1⟩)
    go_ret
    exact ⟨ret_str (by simp [byt]), ((Below.refl _ _).alloc (Nat.le_refl _) _).trans (hb1.mono (by simp))⟩
end Go.Proofs.YthgmofdfecioaaaGreatDoor

namespace Go.Proofs.YthgmofdfecioaaaGreatDoor
open Go.RowKit
set_option linter.unusedSimpArgs false
set_option linter.unusedVariables false

theorem add_strE {a b r : List UInt8} (hr : r = a ++ b) (h : a.length + b.length ≤ 1000000) (w : World) : (Op.stringOp .add (byt a) (byt b)).run Tryz.prog w = .ok (.string (byt r)) w := by subst hr; exact add_str a b h w
set_option maxHeartbeats 4000000 in
set_option maxRecDepth 100000 in
theorem text_rnd {k : Int} {c : UInt8} {k1 n1 : Int} {ks1 : List Tm} {x : List UInt8} {k2 n2 : Int} {ks2 : List Tm} {y : List UInt8} (h : RndK k c) (ih1 : TextOk k1 n1 ks1 x) (ih2 : TextOk k2 n2 ks2 y) : TextOk k 0 [.mk k1 n1 ks1, .mk k2 n2 ks2] (40 :: (x ++ c :: (y ++ [41]))) := by
  intro A cc w hl hr
  obtain ⟨bb, off, k', n', ks', A', c', rfl, hk, hc1, hc2, hc3, hl', hr'⟩ := hr.at_ (j := 0) (by simp)
  obtain ⟨b2, o2, k3, n3, ks3, A2, c2, hA, hk2, hd1, hd2, hd3, hl2, hr2⟩ := hr.at_ (j := 1) (by simp)
  injection hA with hA
  injection hA with h8 h9
  subst h8 h9
  injection hk with h1 h2 h3
  subst h1 h2 h3
  injection hk2 with h1 h2 h3
  subst h1 h2 h3
  simp only [Nat.zero_mul, Nat.add_zero, Nat.one_mul] at hc1 hc2 hc3 hd1 hd2 hd3
  have hbx1 : x.length ≤ 100000 := by simp at hl; omega
  have hby1 : y.length ≤ 100000 := by simp at hl; omega
  have ih1' := hide ih1
  have ih2' := hide ih2
  have bl : bb < w.heap.size := World.block_lt_of_cell? w _ hc1
  clear ih1 ih2 hr
  rcases h with ⟨rfl, rfl⟩ | ⟨rfl, rfl⟩ | ⟨rfl, rfl⟩
  · have a1 : ∀ w, (Op.stringOp .add ⟨#[40]⟩ (byt x)).run Tryz.prog w = .ok (.string (byt (40 :: x))) w := fun w => add_strE (a := [40]) rfl (by simp; omega) w
    have a2 : ∀ w, (Op.stringOp .add (byt (40 :: x)) ⟨#[62]⟩).run Tryz.prog w = .ok (.string (byt (40 :: (x ++ [62])))) w := fun w => add_strE (a := 40 :: x) (b := [62]) rfl (by simp; omega) w
    have a3 : ∀ w, (Op.stringOp .add (byt (40 :: (x ++ [62]))) (byt y)).run Tryz.prog w = .ok (.string (byt (40 :: (x ++ 62 :: y)))) w := fun w => add_strE (a := 40 :: (x ++ [62])) (b := y) (by simp) (by simp; omega) w
    have a4 : ∀ w, (Op.stringOp .add (byt (40 :: (x ++ 62 :: y))) ⟨#[41]⟩).run Tryz.prog w = .ok (.string (byt (40 :: (x ++ 62 :: (y ++ [41]))))) w := fun w => add_strE (a := 40 :: (x ++ 62 :: y)) (b := [41]) (by simp) (by simp; omega) w
    go_enter Tryz.func92, Tryz.ntmps92
    go_wp2_with fail
    refine name_world ?_
    intro wx hwx
    have hbx : Below w.heap.size w wx := by rw [hwx]; exact (Below.refl _ _).alloc (Nat.le_refl _) _
    have hX : Blk wx w.heap.size #[.int .i64 3, .int .i64 0, .slice (some ⟨bb, off, none⟩) 2 cc] := by rw [hwx]; exact Blk.new_ _ _ _ rfl
    have y0 := rule_of ((Keeps.of_below hbx) _ _ hc1)
    have y1 := rule_of ((Keeps.of_below hbx) _ _ hc2)
    have y2 := rule_of ((Keeps.of_below hbx) _ _ hc3)
    have z0 := rule_of ((Keeps.of_below hbx) _ _ hd1)
    have z1 := rule_of ((Keeps.of_below hbx) _ _ hd2)
    have z2 := rule_of ((Keeps.of_below hbx) _ _ hd3)
    have x2 := hX.rule (i := 2) rfl
    have sm1 := fun (w' : World) (hw' : Below wx.heap.size wx w') => ih1'.out A' c' w' hbx1 ((hr'.below hbx).below hw')
    have sm2 := fun (w' : World) (hw' : Below wx.heap.size wx w') => ih2'.out A2 c2 w' hby1 ((hr2.below hbx).below hw')
    clear hwx
    refine wp_region_class (fun w' => Below (wx).heap.size wx w') (by kernel_rfl) (by kernel_rfl) (Below.refl _ _).drew ?_
    repeat (first | ((refine quiet_skip (a' := ?_) ?_ ?_ ?_); (rotate_left); (· (simp [Region.wanted, yielded]; done)); (· (simp only [List.getElem_toArray, List.getElem_cons_zero, List.getElem_cons_succ, Act.put, List.setIfInBounds_toArray, List.set_cons_zero, List.set_cons_succ]; exact rfl))) | ((refine quiet_one (v := ?_) (a' := ?_) ?_ ?_ ?_ ?_); (rotate_left 2); (· (simp [Region.wanted, yielded]; done)); (· (intro w' hS'; go_simp; try (with_reducible rfl))); (· (simp only [List.getElem_toArray, List.getElem_cons_zero, List.getElem_cons_succ, Act.put, List.setIfInBounds_toArray, List.set_cons_zero, List.set_cons_succ]; exact rfl))) | ((refine quiet_below (v := ?_) (a' := ?_) 92 ?_ ?_ ?_ ?_ ?_ ?_); (rotate_left 3); (· (simp [Region.wanted, yielded]; done)); (· (intro w' hS'; go_simp; try (with_reducible rfl))); (· (intro w' hS'; with_reducible exact sm1 w' hS')); (· (simp only [List.getElem_toArray, List.getElem_cons_zero, List.getElem_cons_succ, Act.put, List.setIfInBounds_toArray, List.set_cons_zero, List.set_cons_succ]; exact rfl))) | ((refine quiet_below (v := ?_) (a' := ?_) 92 ?_ ?_ ?_ ?_ ?_ ?_); (rotate_left 3); (· (simp [Region.wanted, yielded]; done)); (· (intro w' hS'; go_simp; try (with_reducible rfl))); (· (intro w' hS'; with_reducible exact sm2 w' hS')); (· (simp only [List.getElem_toArray, List.getElem_cons_zero, List.getElem_cons_succ, Act.put, List.setIfInBounds_toArray, List.set_cons_zero, List.set_cons_succ]; exact rfl))))
    refine quiet_nil ?_
    intro wa hx1
    clear sm1 sm2 y0 y1 y2 z0 z1 z2 x2
    go_wp2_with fail
    go_ret
    exact ⟨ret_str (by simp [byt]), hbx.trans (hx1.mono hbx.size)⟩
  · have a1 : ∀ w, (Op.stringOp .add ⟨#[40]⟩ (byt x)).run Tryz.prog w = .ok (.string (byt (40 :: x))) w := fun w => add_strE (a := [40]) rfl (by simp; omega) w
    have a2 : ∀ w, (Op.stringOp .add (byt (40 :: x)) ⟨#[42]⟩).run Tryz.prog w = .ok (.string (byt (40 :: (x ++ [42])))) w := fun w => add_strE (a := 40 :: x) (b := [42]) rfl (by simp; omega) w
    have a3 : ∀ w, (Op.stringOp .add (byt (40 :: (x ++ [42]))) (byt y)).run Tryz.prog w = .ok (.string (byt (40 :: (x ++ 42 :: y)))) w := fun w => add_strE (a := 40 :: (x ++ [42])) (b := y) (by simp) (by simp; omega) w
    have a4 : ∀ w, (Op.stringOp .add (byt (40 :: (x ++ 42 :: y))) ⟨#[41]⟩).run Tryz.prog w = .ok (.string (byt (40 :: (x ++ 42 :: (y ++ [41]))))) w := fun w => add_strE (a := 40 :: (x ++ 42 :: y)) (b := [41]) (by simp) (by simp; omega) w
    go_enter Tryz.func92, Tryz.ntmps92
    go_wp2_with fail
    refine name_world ?_
    intro wx hwx
    have hbx : Below w.heap.size w wx := by rw [hwx]; exact (Below.refl _ _).alloc (Nat.le_refl _) _
    have hX : Blk wx w.heap.size #[.int .i64 13, .int .i64 0, .slice (some ⟨bb, off, none⟩) 2 cc] := by rw [hwx]; exact Blk.new_ _ _ _ rfl
    have y0 := rule_of ((Keeps.of_below hbx) _ _ hc1)
    have y1 := rule_of ((Keeps.of_below hbx) _ _ hc2)
    have y2 := rule_of ((Keeps.of_below hbx) _ _ hc3)
    have z0 := rule_of ((Keeps.of_below hbx) _ _ hd1)
    have z1 := rule_of ((Keeps.of_below hbx) _ _ hd2)
    have z2 := rule_of ((Keeps.of_below hbx) _ _ hd3)
    have x2 := hX.rule (i := 2) rfl
    have sm1 := fun (w' : World) (hw' : Below wx.heap.size wx w') => ih1'.out A' c' w' hbx1 ((hr'.below hbx).below hw')
    have sm2 := fun (w' : World) (hw' : Below wx.heap.size wx w') => ih2'.out A2 c2 w' hby1 ((hr2.below hbx).below hw')
    clear hwx
    refine wp_region_class (fun w' => Below (wx).heap.size wx w') (by kernel_rfl) (by kernel_rfl) (Below.refl _ _).drew ?_
    repeat (first | ((refine quiet_skip (a' := ?_) ?_ ?_ ?_); (rotate_left); (· (simp [Region.wanted, yielded]; done)); (· (simp only [List.getElem_toArray, List.getElem_cons_zero, List.getElem_cons_succ, Act.put, List.setIfInBounds_toArray, List.set_cons_zero, List.set_cons_succ]; exact rfl))) | ((refine quiet_one (v := ?_) (a' := ?_) ?_ ?_ ?_ ?_); (rotate_left 2); (· (simp [Region.wanted, yielded]; done)); (· (intro w' hS'; go_simp; try (with_reducible rfl))); (· (simp only [List.getElem_toArray, List.getElem_cons_zero, List.getElem_cons_succ, Act.put, List.setIfInBounds_toArray, List.set_cons_zero, List.set_cons_succ]; exact rfl))) | ((refine quiet_below (v := ?_) (a' := ?_) 92 ?_ ?_ ?_ ?_ ?_ ?_); (rotate_left 3); (· (simp [Region.wanted, yielded]; done)); (· (intro w' hS'; go_simp; try (with_reducible rfl))); (· (intro w' hS'; with_reducible exact sm1 w' hS')); (· (simp only [List.getElem_toArray, List.getElem_cons_zero, List.getElem_cons_succ, Act.put, List.setIfInBounds_toArray, List.set_cons_zero, List.set_cons_succ]; exact rfl))) | ((refine quiet_below (v := ?_) (a' := ?_) 92 ?_ ?_ ?_ ?_ ?_ ?_); (rotate_left 3); (· (simp [Region.wanted, yielded]; done)); (· (intro w' hS'; go_simp; try (with_reducible rfl))); (· (intro w' hS'; with_reducible exact sm2 w' hS')); (· (simp only [List.getElem_toArray, List.getElem_cons_zero, List.getElem_cons_succ, Act.put, List.setIfInBounds_toArray, List.set_cons_zero, List.set_cons_succ]; exact rfl))))
    refine quiet_nil ?_
    intro wa hx1
    clear sm1 sm2 y0 y1 y2 z0 z1 z2 x2
    go_wp2_with fail
    go_ret
    exact ⟨ret_str (by simp [byt]), hbx.trans (hx1.mono hbx.size)⟩
  · have a1 : ∀ w, (Op.stringOp .add ⟨#[40]⟩ (byt x)).run Tryz.prog w = .ok (.string (byt (40 :: x))) w := fun w => add_strE (a := [40]) rfl (by simp; omega) w
    have a2 : ∀ w, (Op.stringOp .add (byt (40 :: x)) ⟨#[32]⟩).run Tryz.prog w = .ok (.string (byt (40 :: (x ++ [32])))) w := fun w => add_strE (a := 40 :: x) (b := [32]) rfl (by simp; omega) w
    have a3 : ∀ w, (Op.stringOp .add (byt (40 :: (x ++ [32]))) (byt y)).run Tryz.prog w = .ok (.string (byt (40 :: (x ++ 32 :: y)))) w := fun w => add_strE (a := 40 :: (x ++ [32])) (b := y) (by simp) (by simp; omega) w
    have a4 : ∀ w, (Op.stringOp .add (byt (40 :: (x ++ 32 :: y))) ⟨#[41]⟩).run Tryz.prog w = .ok (.string (byt (40 :: (x ++ 32 :: (y ++ [41]))))) w := fun w => add_strE (a := 40 :: (x ++ 32 :: y)) (b := [41]) (by simp) (by simp; omega) w
    go_enter Tryz.func92, Tryz.ntmps92
    go_wp2_with fail
    refine name_world ?_
    intro wx hwx
    have hbx : Below w.heap.size w wx := by rw [hwx]; exact (Below.refl _ _).alloc (Nat.le_refl _) _
    have hX : Blk wx w.heap.size #[.int .i64 5, .int .i64 0, .slice (some ⟨bb, off, none⟩) 2 cc] := by rw [hwx]; exact Blk.new_ _ _ _ rfl
    have y0 := rule_of ((Keeps.of_below hbx) _ _ hc1)
    have y1 := rule_of ((Keeps.of_below hbx) _ _ hc2)
    have y2 := rule_of ((Keeps.of_below hbx) _ _ hc3)
    have z0 := rule_of ((Keeps.of_below hbx) _ _ hd1)
    have z1 := rule_of ((Keeps.of_below hbx) _ _ hd2)
    have z2 := rule_of ((Keeps.of_below hbx) _ _ hd3)
    have x2 := hX.rule (i := 2) rfl
    have sm1 := fun (w' : World) (hw' : Below wx.heap.size wx w') => ih1'.out A' c' w' hbx1 ((hr'.below hbx).below hw')
    have sm2 := fun (w' : World) (hw' : Below wx.heap.size wx w') => ih2'.out A2 c2 w' hby1 ((hr2.below hbx).below hw')
    clear hwx
    refine wp_region_class (fun w' => Below (wx).heap.size wx w') (by kernel_rfl) (by kernel_rfl) (Below.refl _ _).drew ?_
    repeat (first | ((refine quiet_skip (a' := ?_) ?_ ?_ ?_); (rotate_left); (· (simp [Region.wanted, yielded]; done)); (· (simp only [List.getElem_toArray, List.getElem_cons_zero, List.getElem_cons_succ, Act.put, List.setIfInBounds_toArray, List.set_cons_zero, List.set_cons_succ]; exact rfl))) | ((refine quiet_one (v := ?_) (a' := ?_) ?_ ?_ ?_ ?_); (rotate_left 2); (· (simp [Region.wanted, yielded]; done)); (· (intro w' hS'; go_simp; try (with_reducible rfl))); (· (simp only [List.getElem_toArray, List.getElem_cons_zero, List.getElem_cons_succ, Act.put, List.setIfInBounds_toArray, List.set_cons_zero, List.set_cons_succ]; exact rfl))) | ((refine quiet_below (v := ?_) (a' := ?_) 92 ?_ ?_ ?_ ?_ ?_ ?_); (rotate_left 3); (· (simp [Region.wanted, yielded]; done)); (· (intro w' hS'; go_simp; try (with_reducible rfl))); (· (intro w' hS'; with_reducible exact sm1 w' hS')); (· (simp only [List.getElem_toArray, List.getElem_cons_zero, List.getElem_cons_succ, Act.put, List.setIfInBounds_toArray, List.set_cons_zero, List.set_cons_succ]; exact rfl))) | ((refine quiet_below (v := ?_) (a' := ?_) 92 ?_ ?_ ?_ ?_ ?_ ?_); (rotate_left 3); (· (simp [Region.wanted, yielded]; done)); (· (intro w' hS'; go_simp; try (with_reducible rfl))); (· (intro w' hS'; with_reducible exact sm2 w' hS')); (· (simp only [List.getElem_toArray, List.getElem_cons_zero, List.getElem_cons_succ, Act.put, List.setIfInBounds_toArray, List.set_cons_zero, List.set_cons_succ]; exact rfl))))
    refine quiet_nil ?_
    intro wa hx1
    clear sm1 sm2 y0 y1 y2 z0 z1 z2 x2
    go_wp2_with fail
    go_ret
    exact ⟨ret_str (by simp [byt]), hbx.trans (hx1.mono hbx.size)⟩
set_option maxHeartbeats 4000000 in
set_option maxRecDepth 100000 in
theorem text_lam {k1 n1 : Int} {ks1 : List Tm} {x : List UInt8} {k2 n2 : Int} {ks2 : List Tm} {y : List UInt8} (ih1 : TextOk k1 n1 ks1 x) (ih2 : TextOk k2 n2 ks2 y) : TextOk 4 0 [.mk k1 n1 ks1, .mk k2 n2 ks2] (91 :: (x ++ 93 :: y)) := by
  intro A cc w hl hr
  obtain ⟨bb, off, k', n', ks', A', c', rfl, hk, hc1, hc2, hc3, hl', hr'⟩ := hr.at_ (j := 0) (by simp)
  obtain ⟨b2, o2, k3, n3, ks3, A2, c2, hA, hk2, hd1, hd2, hd3, hl2, hr2⟩ := hr.at_ (j := 1) (by simp)
  injection hA with hA
  injection hA with h8 h9
  subst h8 h9
  injection hk with h1 h2 h3
  subst h1 h2 h3
  injection hk2 with h1 h2 h3
  subst h1 h2 h3
  simp only [Nat.zero_mul, Nat.add_zero, Nat.one_mul] at hc1 hc2 hc3 hd1 hd2 hd3
  have hbx1 : x.length ≤ 100000 := by simp at hl; omega
  have hby1 : y.length ≤ 100000 := by simp at hl; omega
  have ih1' := hide ih1
  have ih2' := hide ih2
  have bl : bb < w.heap.size := World.block_lt_of_cell? w _ hc1
  clear ih1 ih2 hr
  have a1 : ∀ w, (Op.stringOp .add ⟨#[91]⟩ (byt x)).run Tryz.prog w = .ok (.string (byt (91 :: x))) w := fun w => add_strE (a := [91]) rfl (by simp; omega) w
  have a2 : ∀ w, (Op.stringOp .add (byt (91 :: x)) ⟨#[93]⟩).run Tryz.prog w = .ok (.string (byt (91 :: (x ++ [93])))) w := fun w => add_strE (a := 91 :: x) (b := [93]) rfl (by simp; omega) w
  have a3 : ∀ w, (Op.stringOp .add (byt (91 :: (x ++ [93]))) (byt y)).run Tryz.prog w = .ok (.string (byt (91 :: (x ++ 93 :: y)))) w := fun w => add_strE (a := 91 :: (x ++ [93])) (b := y) (by simp) (by simp; omega) w
  go_enter Tryz.func92, Tryz.ntmps92
  go_wp2_with fail
  refine name_world ?_
  intro wx hwx
  have hbx : Below w.heap.size w wx := by rw [hwx]; exact (Below.refl _ _).alloc (Nat.le_refl _) _
  have hX : Blk wx w.heap.size #[.int .i64 4, .int .i64 0, .slice (some ⟨bb, off, none⟩) 2 cc] := by rw [hwx]; exact Blk.new_ _ _ _ rfl
  have y0 := rule_of ((Keeps.of_below hbx) _ _ hc1)
  have y1 := rule_of ((Keeps.of_below hbx) _ _ hc2)
  have y2 := rule_of ((Keeps.of_below hbx) _ _ hc3)
  have z0 := rule_of ((Keeps.of_below hbx) _ _ hd1)
  have z1 := rule_of ((Keeps.of_below hbx) _ _ hd2)
  have z2 := rule_of ((Keeps.of_below hbx) _ _ hd3)
  have x2 := hX.rule (i := 2) rfl
  have sm1 := fun (w' : World) (hw' : Below wx.heap.size wx w') => ih1'.out A' c' w' hbx1 ((hr'.below hbx).below hw')
  have sm2 := fun (w' : World) (hw' : Below wx.heap.size wx w') => ih2'.out A2 c2 w' hby1 ((hr2.below hbx).below hw')
  clear hwx
  refine wp_region_class (fun w' => Below (wx).heap.size wx w') (by kernel_rfl) (by kernel_rfl) (Below.refl _ _).drew ?_
  repeat (first | ((refine quiet_skip (a' := ?_) ?_ ?_ ?_); (rotate_left); (· (simp [Region.wanted, yielded]; done)); (· (simp only [List.getElem_toArray, List.getElem_cons_zero, List.getElem_cons_succ, Act.put, List.setIfInBounds_toArray, List.set_cons_zero, List.set_cons_succ]; exact rfl))) | ((refine quiet_one (v := ?_) (a' := ?_) ?_ ?_ ?_ ?_); (rotate_left 2); (· (simp [Region.wanted, yielded]; done)); (· (intro w' hS'; go_simp; try (with_reducible rfl))); (· (simp only [List.getElem_toArray, List.getElem_cons_zero, List.getElem_cons_succ, Act.put, List.setIfInBounds_toArray, List.set_cons_zero, List.set_cons_succ]; exact rfl))) | ((refine quiet_below (v := ?_) (a' := ?_) 92 ?_ ?_ ?_ ?_ ?_ ?_); (rotate_left 3); (· (simp [Region.wanted, yielded]; done)); (· (intro w' hS'; go_simp; try (with_reducible rfl))); (· (intro w' hS'; with_reducible exact sm1 w' hS')); (· (simp only [List.getElem_toArray, List.getElem_cons_zero, List.getElem_cons_succ, Act.put, List.setIfInBounds_toArray, List.set_cons_zero, List.set_cons_succ]; exact rfl))) | ((refine quiet_below (v := ?_) (a' := ?_) 92 ?_ ?_ ?_ ?_ ?_ ?_); (rotate_left 3); (· (simp [Region.wanted, yielded]; done)); (· (intro w' hS'; go_simp; try (with_reducible rfl))); (· (intro w' hS'; with_reducible exact sm2 w' hS')); (· (simp only [List.getElem_toArray, List.getElem_cons_zero, List.getElem_cons_succ, Act.put, List.setIfInBounds_toArray, List.set_cons_zero, List.set_cons_succ]; exact rfl))))
  refine quiet_nil ?_
  intro wa hx1
  clear sm1 sm2 y0 y1 y2 z0 z1 z2 x2
  go_wp2_with fail
  go_ret
  exact ⟨ret_str (by simp [byt]), hbx.trans (hx1.mono hbx.size)⟩
end Go.Proofs.YthgmofdfecioaaaGreatDoor

namespace Go.Proofs.YthgmofdfecioaaaGreatDoor
open Go.RowKit
set_option linter.unusedSimpArgs false
set_option linter.unusedVariables false

/-- texts with commas between -/
def jn : List (List UInt8) → List UInt8
  | [] => []
  | [b] => b
  | b :: bs => b ++ 44 :: jn bs
theorem jn_two (b d : List UInt8) (bs : List (List UInt8)) : jn (b :: d :: bs) = b ++ 44 :: jn (d :: bs) := by simp [jn]
theorem jn_snoc (x : List UInt8) : ∀ {xs : List (List UInt8)}, xs ≠ [] → jn (xs ++ [x]) = jn xs ++ 44 :: x
  | [], h => absurd rfl h
  | [b], _ => by simp [jn]
  | b :: d :: bs, _ => by
    have := jn_snoc x (xs := d :: bs) (by simp)
    rw [List.cons_append, List.cons_append, jn_two, jn_two, ← List.cons_append, this]; simp
theorem ser_jn (c : UInt8) : ∀ {xs : List (List UInt8)}, xs ≠ [] → ser c xs = jn xs ++ [c]
  | [], h => absurd rfl h
  | [b], _ => by simp [ser, jn]
  | b :: d :: bs, _ => by rw [ser_more, jn_two, ser_jn c (xs := d :: bs) (by simp)]; simp
theorem jn_le (x : List UInt8) (xs : List (List UInt8)) : (jn xs).length + x.length ≤ (jn (xs ++ [x])).length := by
  by_cases h : xs = []
  · subst h; simp [jn]
  · rw [jn_snoc x h]; simp only [List.length_append, List.length_cons]; omega
theorem jn_take {xs : List (List UInt8)} {j : Nat} (hj : j < xs.length) : (jn (xs.take j)).length + xs[j].length ≤ (jn xs).length := by
  have h : ∀ m, j + 1 + m ≤ xs.length → (jn (xs.take j)).length + xs[j].length ≤ (jn (xs.take (j + 1 + m))).length := by
    intro m
    induction m with
    | zero => intro _; rw [Nat.add_zero, List.take_succ_eq_append_getElem hj]; exact jn_le _ _
    | succ m ih =>
      intro hm
      have := ih (by omega)
      rw [show j + 1 + (m + 1) = (j + 1 + m) + 1 from by omega, List.take_succ_eq_append_getElem (by omega : j + 1 + m < xs.length)]
      have := jn_le (xs[j + 1 + m]'(by omega)) (xs.take (j + 1 + m))
      omega
  have := h (xs.length - (j + 1)) (by omega)
  rw [show j + 1 + (xs.length - (j + 1)) = xs.length from by omega, List.take_length] at this
  exact this

set_option maxHeartbeats 4000000 in
set_option maxRecDepth 100000 in
theorem list_any (ts : List Tm) (xs : List (List UInt8)) (hl : xs.length = ts.length) (hl4 : ts.length ≤ 1000) (hj : (jn xs).length ≤ 100000)
    (ih : ∀ (j : Nat) (k n : Int) (ks : List Tm) (x : List UInt8), ts[j]? = some (.mk k n ks) → xs[j]? = some x → TextOk k n ks x) (A : Option Addr) (c : Nat) (w : World) (hr : Rd w A 0 ts) :
    Calls Tryz.prog 121 #[.slice A ts.length c] w fun e w' => e = .returned (.string (byt (jn xs))) ∧ Below w.heap.size w w' := by
  have hl' := hide hl
  have ih' := hide ih
  clear hl ih
  go_enter Tryz.func121, Tryz.ntmps121
  go_wp2
  go_loopw [3, 4] (fun v jv wr => ∃ j : Nat, j ≤ ts.length ∧ jv = .int .i64 j ∧ v = .string (byt (jn (xs.take j))) ∧ Below w.heap.size w wr) (fun _ jv _ => ts.length - (intOf jv).toNat)
  case atStart => exact ⟨0, Nat.zero_le _, rfl, rfl, Below.refl _ _⟩
  case round =>
    obtain ⟨j, hjl, rfl, rfl, hb⟩ := hrel
    by_cases hlt : j < ts.length
    · have hlx : j < xs.length := by have := hl'.out; omega
      obtain ⟨bb, off, k', n', ks', A', c', rfl, hk, hc1, hc2, hc3, hln, hr'⟩ := (hr.below hb).at_ hlt
      obtain ⟨x, hx⟩ : ∃ x, xs[j] = x := ⟨_, rfl⟩
      have htk := jn_take hlx
      rw [hx] at htk
      have htx := hide (show ts[j]? = some (.mk k' n' ks') by rw [List.getElem?_eq_getElem hlt, hk])
      have hxx := hide (show xs[j]? = some x by rw [List.getElem?_eq_getElem hlx, hx])
      have hnext := hide (show xs.take (j + 1) = xs.take j ++ [x] by rw [List.take_succ_eq_append_getElem hlx, hx])
      have hne := hide (show 0 < j → xs.take j ≠ [] from fun h e => by have := congrArg List.length e; rw [List.length_take] at this; simp only [List.length_nil] at this; omega)
      have hj0 := hide (show j = 0 → xs.take j = [] from fun h => by rw [h]; rfl)
      have hx1 : x.length ≤ 100000 := by omega
      have hsub := hide (fun (w : World) (hr : Rd w A' 0 ks') => ih'.out j k' n' ks' x htx.out hxx.out A' c' w hx1 hr)
      clear hk hx
      generalize xs.take j = pr at *
      generalize hJ : jn pr = J at *
      have hJ' := hide hJ
      clear hJ
      by_cases h0 : j = 0
      · have q0 : decide (0 < j) = false := decide_eq_false (by omega)
        have q1 : ¬ 0 < j := by omega
        have hJn : J = [] := by rw [← hJ'.out, hj0.out h0]; rfl
        subst hJn
        have h0' := hide h0
        clear h0
        have a2 : ∀ w, (Op.stringOp .add (byt []) (byt x)).run Tryz.prog w = .ok (.string (byt x)) w := fun w => add_strE (a := []) rfl (by simp; omega) w
        go_wp2_with (go_at_call 92; refine (hsub.out _ hr').mono ?_; rintro e w1 ⟨rfl, hb1⟩)
        go_roundw
        case rel => exact ⟨j + 1, by omega, by go_num, by rw [hnext.out, hj0.out h0'.out]; rfl, hb.trans (hb1.mono hb.size)⟩
        case measure => simp [intOf]; omega
      · have q0 : decide (0 < (j : Int)) = true := decide_eq_true (by omega)
        have a1 : ∀ w, (Op.stringOp .add (byt J) ⟨#[44]⟩).run Tryz.prog w = .ok (.string (byt (J ++ [44]))) w := fun w => add_strE (b := [44]) rfl (by simp; omega) w
        have a2 : ∀ w, (Op.stringOp .add (byt (J ++ [44])) (byt x)).run Tryz.prog w = .ok (.string (byt (J ++ 44 :: x))) w := fun w => add_strE (a := J ++ [44]) (by simp) (by simp; omega) w
        go_wp2_with (go_at_call 92; refine (hsub.out _ hr').mono ?_; rintro e w1 ⟨rfl, hb1⟩)
        go_roundw
        case rel => exact ⟨j + 1, by omega, by go_num, by rw [hnext.out, jn_snoc x (hne.out (by omega)), hJ'.out], hb.trans (hb1.mono hb.size)⟩
        case measure => simp [intOf]; omega
    · have hjl : j = ts.length := by omega
      subst hjl
      have hall := hide (show xs.take ts.length = xs from List.take_of_length_le (by have := hl'.out; omega))
      go_wp2
      go_ret
      exact ⟨by rw [hall.out]; rfl, hb⟩

set_option maxHeartbeats 4000000 in
set_option maxRecDepth 100000 in
theorem text_blk {k : Int} {m : Nat} {o : List UInt8} {c : UInt8} (h : BlkK k m o c) (ts : List Tm) (xs : List (List UInt8)) (hm : ts.length = m) (hx : xs.length = m)
    (ih : ∀ (j : Nat) (k n : Int) (ks : List Tm) (x : List UInt8), ts[j]? = some (.mk k n ks) → xs[j]? = some x → TextOk k n ks x) : TextOk k 0 ts (o ++ ser c xs) := by
  intro A cc w hl hr
  have hne : xs ≠ [] := fun e => by subst e; rcases h with ⟨_, rfl, _, _⟩ | ⟨_, rfl, _, _⟩ | ⟨_, rfl, _, _⟩ | ⟨_, rfl, _, _⟩ <;> simp at hx
  have hm4 : ts.length ≤ 4 := by rcases h with ⟨_, rfl, _, _⟩ | ⟨_, rfl, _, _⟩ | ⟨_, rfl, _, _⟩ | ⟨_, rfl, _, _⟩ <;> omega
  rw [ser_jn c hne] at hl ⊢
  have hjl : (jn xs).length ≤ 100000 := by simp only [List.length_append, List.length_cons] at hl; omega
  have hlist := hide (fun w (hr : Rd w A 0 ts) => list_any ts xs (by omega) (by omega) hjl ih A cc w hr)
  clear ih hx hne hl
  generalize jn xs = J at *
  have hm' := hide hm
  rcases h with ⟨rfl, rfl, rfl, rfl⟩ | ⟨rfl, rfl, rfl, rfl⟩ | ⟨rfl, rfl, rfl, rfl⟩ | ⟨rfl, rfl, rfl, rfl⟩
  · clear hm
    have a1 : ∀ w, (Op.stringOp .add ⟨#[60]⟩ (byt J)).run Tryz.prog w = .ok (.string (byt (60 :: J))) w := fun w => add_strE (a := [60]) rfl (by simp; omega) w
    have a2 : ∀ w, (Op.stringOp .add (byt (60 :: J)) ⟨#[62]⟩).run Tryz.prog w = .ok (.string (byt (60 :: (J ++ [62])))) w := fun w => add_strE (a := 60 :: J) (b := [62]) rfl (by simp; omega) w
    go_enter Tryz.func92, Tryz.ntmps92
    go_wp2_with (go_at_call 121; refine (hlist.out _ (hr.alloc _)).mono ?_; rintro e w1 ⟨rfl, hb1⟩)
    go_ret
    exact ⟨ret_str (by simp [byt]), ((Below.refl _ _).alloc (Nat.le_refl _) _).trans (hb1.mono (by simp))⟩
  · clear hm
    have a1 : ∀ w, (Op.stringOp .add ⟨#[123]⟩ (byt J)).run Tryz.prog w = .ok (.string (byt (123 :: J))) w := fun w => add_strE (a := [123]) rfl (by simp; omega) w
    have a2 : ∀ w, (Op.stringOp .add (byt (123 :: J)) ⟨#[125]⟩).run Tryz.prog w = .ok (.string (byt (123 :: (J ++ [125])))) w := fun w => add_strE (a := 123 :: J) (b := [125]) rfl (by simp; omega) w
    go_enter Tryz.func92, Tryz.ntmps92
    go_wp2_with (go_at_call 121; refine (hlist.out _ (hr.alloc _)).mono ?_; rintro e w1 ⟨rfl, hb1⟩)
    go_ret
    exact ⟨ret_str (by simp [byt]), ((Below.refl _ _).alloc (Nat.le_refl _) _).trans (hb1.mono (by simp))⟩
  · clear hm
    have a1 : ∀ w, (Op.stringOp .add ⟨#[124]⟩ (byt J)).run Tryz.prog w = .ok (.string (byt (124 :: J))) w := fun w => add_strE (a := [124]) rfl (by simp; omega) w
    have a2 : ∀ w, (Op.stringOp .add (byt (124 :: J)) ⟨#[124]⟩).run Tryz.prog w = .ok (.string (byt (124 :: (J ++ [124])))) w := fun w => add_strE (a := 124 :: J) (b := [124]) rfl (by simp; omega) w
    go_enter Tryz.func92, Tryz.ntmps92
    go_wp2_with (go_at_call 121; refine (hlist.out _ (hr.alloc _)).mono ?_; rintro e w1 ⟨rfl, hb1⟩)
    go_ret
    exact ⟨ret_str (by simp [byt]), ((Below.refl _ _).alloc (Nat.le_refl _) _).trans (hb1.mono (by simp))⟩
  · clear hm
    have a1 : ∀ w, (Op.stringOp .add ⟨#[64, 60]⟩ (byt J)).run Tryz.prog w = .ok (.string (byt (64 :: 60 :: J))) w := fun w => add_strE (a := [64, 60]) rfl (by simp; omega) w
    have a2 : ∀ w, (Op.stringOp .add (byt (64 :: 60 :: J)) ⟨#[62]⟩).run Tryz.prog w = .ok (.string (byt (64 :: 60 :: (J ++ [62])))) w := fun w => add_strE (a := 64 :: 60 :: J) (b := [62]) rfl (by simp; omega) w
    go_enter Tryz.func92, Tryz.ntmps92
    go_wp2_with (go_at_call 121; refine (hlist.out _ (hr.alloc _)).mono ?_; rintro e w1 ⟨rfl, hb1⟩)
    go_ret
    exact ⟨ret_str (by simp [byt]), ((Below.refl _ _).alloc (Nat.le_refl _) _).trans (hb1.mono (by simp))⟩

theorem text_any {d : Nat} {t : Tm} {b : List UInt8} (h : Tx d t b) : ∀ (k n : Int) (ks : List Tm), t = .mk k n ks → TextOk k n ks b := by
  induction h with
  | var d n c h => rintro k' n' ks' ⟨⟩; exact text_var n c h
  | sort d n c h => rintro k' n' ks' ⟨⟩; exact text_sort n c h
  | nat d => rintro k' n' ks' ⟨⟩; exact text_nat
  | zero d => rintro k' n' ks' ⟨⟩; exact text_zero
  | pre d k c t b h ht ih => rintro k' n' ks' ⟨⟩; obtain ⟨k1, n1, ks1⟩ := t; exact text_pre h (ih k1 n1 ks1 rfl)
  | rnd d k c t u x y h ht hu i1 i2 => rintro k' n' ks' ⟨⟩; obtain ⟨k1, n1, ks1⟩ := t; obtain ⟨k2, n2, ks2⟩ := u; exact text_rnd h (i1 k1 n1 ks1 rfl) (i2 k2 n2 ks2 rfl)
  | lam d t u x y ht hu i1 i2 => rintro k' n' ks' ⟨⟩; obtain ⟨k1, n1, ks1⟩ := t; obtain ⟨k2, n2, ks2⟩ := u; exact text_lam (i1 k1 n1 ks1 rfl) (i2 k2 n2 ks2 rfl)
  | blk d k m o c ts xs h hm hx ht ih => rintro k' n' ks' ⟨⟩; exact text_blk h ts xs hm hx fun j k n ks x h1 h2 => ih j (.mk k n ks) x h1 h2 k n ks rfl
end Go.Proofs.YthgmofdfecioaaaGreatDoor

namespace Go.Proofs.YthgmofdfecioaaaGreatDoor
open Go.RowKit
set_option linter.unusedSimpArgs false
set_option linter.unusedVariables false

theorem validT_size' {k n : Int} {ks : List Tm} (h : validT (.mk k n ks) = true) : sizes ks ≤ 400 := by
  simp only [validT, Bool.and_eq_true, decide_eq_true_eq] at h
  have := h.2
  rw [Tm.size] at this
  omega
set_option maxHeartbeats 4000000 in
set_option maxRecDepth 100000 in
theorem format_any {t : Tm} {b : List UInt8} {d : Nat} (h : Tx d t b) (k n : Int) (ks : List Tm) (ht : t = .mk k n ks) (hv : validT t = true) (hb : b.length ≤ 100000) (A : Option Addr) (c : Nat) (w : World) (hr : Rd w A 0 ks) :
    Calls Tryz.prog 64 #[.agg #[.int .i64 k, .int .i64 n, .slice A ks.length c]] w fun e w' => e = .returned (.string (byt b)) ∧ Below w.heap.size w w' := by
  have htx := hide (text_any h k n ks ht)
  subst ht
  have hM := validT_size' hv
  have hv' := hide hv
  clear hv h
  go_enter Tryz.func64, Tryz.ntmps64
  go_wp2_with (first
    | (go_at_call 92; refine (htx.out A c _ hb ((hr.alloc _).below hb1)).mono ?_; rintro e w2 ⟨rfl, hb2⟩)
    | (go_at_call 55; refine (sTermValid_any k n ks A c _ (by omega) (hr.alloc _)).mono ?_; rw [hv'.out]; rintro e w1 ⟨rfl, hb1⟩; have hB := (Blk.new_ w 27 #[.int .i64 k, .int .i64 n, .slice A ks.length c] rfl).keep hb1; have x0 := hB.at_ (i := 0) rfl; have x1 := hB.at_ (i := 1) rfl; have x2 := hB.at_ (i := 2) rfl))
  go_ret
  exact ⟨rfl, (((Below.refl _ _).alloc (Nat.le_refl _) _).trans (hb1.mono (by simp))).trans (hb2.mono (by have := hb1.size; simp at this; omega))⟩

/-- a text that the parser reads -/
def Good (t : Tm) (b : List UInt8) : Prop := Tx 30 t b ∧ validT t = true ∧ b.length ≤ 1000
def GotPT (w : World) (k n : Int) (ks : List Tm) (e : Ending) (w' : World) : Prop :=
  ∃ A c, e = .returned (.tuple #[.agg #[.int .i64 k, .int .i64 n, .slice A ks.length c], .bool true]) ∧ ks.length ≤ 9223372036854775807 ∧ Fresh w.heap.size w' A ks ∧ Below w.heap.size w w'
set_option maxHeartbeats 4000000 in
set_option maxRecDepth 100000 in
theorem parseTerm_any {k n : Int} {ks : List Tm} {b : List UInt8} (h : Good (.mk k n ks) b) (w : World) : Calls Tryz.prog 40 #[.string (byt b)] w (GotPT w k n ks) := by
  obtain ⟨htx, hv, hb⟩ := h
  have hs : (byt b).size = b.length := by simp [byt, ByteArray.size]
  have hpar := hide (fun w => parse_any htx k n ks rfl (byt b) 0 0 30 w (by rw [hs]; omega) rfl (Has.all b) (Nd.out (by rw [hs]; omega)) (by omega) (by omega))
  have hfm := hide (fun A c w hr => format_any htx k n ks rfl hv (by omega) A c w hr)
  have q1 : ((byt b).toList == []) = false := by
    have := htx.ne
    cases b with
    | nil => exact absurd rfl this
    | cons x xs => simp [byt]
  have q2 : (byt b).toList.isEmpty = false := by
    have := htx.ne
    cases b with
    | nil => exact absurd rfl this
    | cons x xs => simp [byt]
  have q3 : ((byt b).toList == (byt b).toList) = true := by simp
  have hpos : 0 < b.length := List.length_pos_iff.2 htx.ne
  clear htx hv
  go_enter Tryz.func40, Tryz.ntmps40
  go_wp2_with (first
    | (go_at_call 64; refine (hfm.out A1 c1 _ (hf1.rd.alloc _)).mono ?_; rintro e w2 ⟨rfl, hb2⟩; replace hX := hX.keep hb2; replace hZ := (hZ.alloc _).keep hb2; have x0 := hX.at_ (i := 0) rfl; have x1 := hX.at_ (i := 1) rfl; have x2 := hX.at_ (i := 2) rfl; have d0 := hZ.at_ (i := 0) rfl; have d1 := hZ.at_ (i := 1) rfl; have d2 := hZ.at_ (i := 2) rfl; have e0 := hZ.frozen 0; have e1 := hZ.frozen 1; have e2 := hZ.frozen 2; have lx := hX.lt; have lz := hZ.lt)
    | (go_at_call 63; refine (hpar.out _).mono ?_; rintro e w1 ⟨m, A1, c1, hm, rfl, hl1, hf1, hb1⟩; rw [Nat.zero_add] at hm; subst hm; have hZ := (Blk.new_ w 27 #[.int .i64 0, .int .i64 0, .slice none 0 0] rfl).keep hb1; have g1 : Below w.heap.size w w1 := ((Below.refl _ _).alloc (Nat.le_refl _) _).trans (hb1.mono (by simp)); have s1 := g1.size; have hX := Blk.new_ w1 27 #[.int .i64 k, .int .i64 n, .slice A1 ks.length c1] rfl; have lz1 := hZ.lt))
  have hf2 := (hf1.alloc (.cells #[.int .i64 k, .int .i64 n, .slice A1 ks.length c1] 27)).below hb2
  have g2 : Below w.heap.size w w2 := (g1.alloc (by omega) _).trans (hb2.mono (by simp; omega))
  refine bodyPost_ret (v := .tuple #[.agg #[.int .i64 k, .int .i64 n, .slice A1 ks.length c1], .bool true]) (by simp [results, Tryz.results40, go_sem, d0, d1, d2]) rfl ⟨A1, c1, rfl, hl1, ?_, ((g2.setCell (by simp) _).setCell (by simp) _).setCell (by simp) _⟩
  exact (((hf2.setCell (by simp) _).setCell (by simp) _).setCell (by simp) _).mono (by simp)

/-- texts in a block -/
def strs (xs : List (List UInt8)) : Array Value := (xs.map fun x => Value.string (byt x)).toArray
theorem strs_get {xs : List (List UInt8)} {j : Nat} (h : j < xs.length) : (strs xs)[j]? = some (.string (byt xs[j])) := by simp [strs, List.getElem?_eq_getElem h]
end Go.Proofs.YthgmofdfecioaaaGreatDoor

namespace Go.Proofs.YthgmofdfecioaaaGreatDoor
open Go.RowKit
set_option linter.unusedSimpArgs false
set_option linter.unusedVariables false

/-- the cell of the library's that is read holds a number -/
def GM (w : World) : Prop := ∃ m, w.cell? ⟨0, 0, none⟩ = some (.int .i64 m)
theorem GM.below {w w' : World} {B : Nat} (h : GM w) (hb : Below B w w') (hB : 0 < B) : GM w' := by obtain ⟨m, hm⟩ := h; exact ⟨m, (hb.cell (p := ⟨0, 0, none⟩) hB).trans hm⟩
theorem GM.pos {w : World} (h : GM w) : 0 < w.heap.size := by obtain ⟨m, hm⟩ := h; exact World.block_lt_of_cell? w _ hm
theorem GM.keep {w w' : World} (h : GM w) (hb : Below w.heap.size w w') : GM w' := h.below hb h.pos
theorem GM.alloc {w : World} (h : GM w) (o : Obj) : GM (w.alloc o) := h.keep ((Below.refl _ _).alloc (Nat.le_refl _) o)
theorem GM.drew {w : World} (h : GM w) : GM w.drew := h

theorem shpX_get {j : Nat} (hj : j < 16) : ∃ x, shpX[j]? = some x ∧ x.length ≤ 12 := by
  have h : ∀ x, x ∈ shpX → x.length ≤ 12 := by decide
  exact ⟨shpX[j]'hj, List.getElem?_eq_getElem hj, h _ (List.getElem_mem hj)⟩
/-- a kind's shape -/
def shp (k : Nat) : List UInt8 := (shpX[k - 1]?).getD []
theorem shp_parts {k : Nat} (hk : 3 ≤ k ∧ k ≤ 16) : Lib.splitK [46] 0 (Lib.count (shp k) [46]) (shp k) = prt k := by
  rcases prt_kinds hk with rfl | rfl | rfl | rfl | rfl | rfl | rfl | rfl | rfl | rfl | rfl | rfl | rfl | rfl <;> decide +kernel
theorem byt_list (l : List UInt8) : (byt l).data.toList = l := by simp [byt]
theorem byt_data (s : ByteArray) : byt s.data.toList = s := by simp [byt]
theorem split_shape {k : Nat} (hk : 3 ≤ k ∧ k ≤ 16) : Lib.countB (byt (shp k)) ⟨#[46]⟩ + 1 = (prt k).length ∧ ((Lib.splitB ⟨#[46]⟩ 0 (Lib.countB (byt (shp k)) ⟨#[46]⟩) (byt (shp k))).map Value.string).toArray = strs (prt k) := by
  have h1 : Lib.countB (byt (shp k)) ⟨#[46]⟩ = Lib.count (shp k) [46] := by show Lib.count _ _ = _; rw [byt_list]
  have h2 := Lib.splitB_data ⟨#[46]⟩ 0 (Lib.countB (byt (shp k)) ⟨#[46]⟩) (byt (shp k))
  rw [byt_list, show (⟨#[46]⟩ : ByteArray).data.toList = [46] from rfl, h1, shp_parts hk] at h2
  rw [h1]
  refine ⟨?_, ?_⟩
  · rcases prt_kinds hk with rfl | rfl | rfl | rfl | rfl | rfl | rfl | rfl | rfl | rfl | rfl | rfl | rfl | rfl <;> decide +kernel
  · unfold strs
    rw [← h2, List.map_map]
    refine congrArg _ (List.map_congr_left fun x _ => ?_)
    simp only [Function.comp, byt_data]
theorem split_any {k : Nat} (hk : 3 ≤ k ∧ k ≤ 16) (w : World) (hm : GM w) : Calls Tryz.prog 114 #[.string (byt (shp k)), .string ⟨#[46]⟩] w fun e w' =>
    e = .returned (.slice (some ⟨w.heap.size, 0, none⟩) (prt k).length (prt k).length) ∧ Blk w' w.heap.size (strs (prt k)) ∧ Below w.heap.size w w' := by
  obtain ⟨m, hm⟩ := hm
  obtain ⟨h1, h2⟩ := split_shape hk
  refine (Tryz.strings_Split (byt (shp k)) ⟨#[46]⟩ m w (by
    obtain ⟨x, h3, h4⟩ := shpX_get (j := k - 1) (by omega)
    simp only [shp, h3, Option.getD_some, byt, ByteArray.size, List.size_toArray]; omega) hm (by decide)).mono ?_
  rintro e w' ⟨rfl, rfl⟩
  rw [h1, h2]
  exact ⟨rfl, Blk.new _ _ _, (Below.refl _ _).alloc (Nat.le_refl _) _⟩
theorem cut_any (p l : List UInt8) (w : World) : Calls Tryz.prog 116 #[.string (byt (p ++ l)), .string (byt p)] w fun e w' => e = .returned (.tuple #[.string (byt l), .bool true]) ∧ w = w' := by
  refine (Tryz.strings_CutPrefix (byt (p ++ l)) (byt p) w).mono ?_
  rintro e w' ⟨rfl, rfl⟩
  have h1 : Lib.hasPrefix (p ++ l) p = true := by simp [Lib.hasPrefix]
  have h2 : Lib.trimPrefix (p ++ l) p = l := by simp [Lib.trimPrefix, h1]
  rw [byt_list, byt_list, h1, h2]
  exact ⟨rfl, rfl⟩
theorem digit_of {n : Int} {c : UInt8} (h : 0 ≤ n ∧ n ≤ 9 ∧ (c.toNat : Int) = 48 + n) : ∃ i : Nat, n = i ∧ i ≤ 9 ∧ c = UInt8.ofNat (48 + i) := by
  obtain ⟨h1, h2, h3⟩ := h
  obtain ⟨i, rfl⟩ := Int.eq_ofNat_of_zero_le h1
  refine ⟨i, rfl, by omega, ?_⟩
  have : c.toNat = 48 + i := by omega
  rw [← this]; simp
theorem itoa_any (n : Int) (c : UInt8) (h : 0 ≤ n ∧ n ≤ 9 ∧ (c.toNat : Int) = 48 + n) (w : World) : Calls Tryz.prog 117 #[.int .i64 n] w fun e w' => e = .returned (.string (byt [c])) ∧ w = w' := by
  obtain ⟨i, rfl, hi, rfl⟩ := digit_of h
  refine (Tryz.strconv_Itoa_small i (by omega) w).mono ?_
  rintro e w' ⟨rfl, rfl⟩
  refine ⟨?_, rfl⟩
  rw [Lib.decDigits, dif_pos (by omega)]
  rfl
theorem atoi_any (n : Int) (c : UInt8) (h : 0 ≤ n ∧ n ≤ 9 ∧ (c.toNat : Int) = 48 + n) (s : ByteArray) (hs : s = byt [c]) (w : World) : Calls Tryz.prog 145 #[.string s] w fun e w' => e = .returned (.tuple #[.int .i64 n, .nilIface]) ∧ Below w.heap.size w w' := by
  subst hs
  obtain ⟨i, rfl, hi, rfl⟩ := digit_of h
  have hat : Lib.atoi (byt [UInt8.ofNat (48 + i)]).data.toList = some (i : Int) := by
    rw [byt_list]
    have : ∀ j : Fin 10, Lib.atoi [UInt8.ofNat (48 + j.val)] = some (j.val : Int) := by decide +kernel
    exact this ⟨i, by omega⟩
  refine (Tryz.strconv_Atoi _ i (by simp [byt, ByteArray.size]) hat w).mono ?_
  rintro e w' ⟨rfl, t, rfl⟩
  exact ⟨rfl, Lib.bytesWorld_below w 5 t⟩
end Go.Proofs.YthgmofdfecioaaaGreatDoor

namespace Go.Proofs.YthgmofdfecioaaaGreatDoor
open Go.RowKit
set_option linter.unusedSimpArgs false
set_option linter.unusedVariables false

set_option maxRecDepth 100000 in
theorem shapes_any (w : World) : Calls Tryz.prog 115 #[] w fun e w' => e = .returned (.slice (some ⟨w.heap.size, 0, none⟩) 16 16) ∧ Blk w' w.heap.size (strs shpX) ∧ Below w.heap.size w w' := by
  go_enter Tryz.func115, Tryz.ntmps115
  go_wp2
  go_ret
  exact ⟨rfl, Blk.new_ w 9 (strs shpX) rfl, (Below.refl _ _).alloc (Nat.le_refl _) _⟩

/-- the first signs of the kinds -/
def sgn : List Nat := [35, 42, 40, 91, 40, 78, 48, 43, 60, 123, 33, 64, 40, 124, 94, 95]
theorem byt_head {c : UInt8} {l : List UInt8} {x : List UInt8} (hx : x = c :: l) : ∃ h : 0 < (byt x).size, ((byt x)[0]'h).toNat = c.toNat := by
  subst hx
  exact ⟨by simp [byt, ByteArray.size], rfl⟩
theorem byt_ne {c : UInt8} {l : List UInt8} : ((byt (c :: l)).toList == []) = false ∧ (byt (c :: l)).toList.isEmpty = false := by simp [byt]
theorem sgn_get {j : Nat} (hj : j < 16) : ∃ x z, shpX[j]? = some x ∧ sgn[j]? = some z ∧ z < 256 ∧ ∃ h : 0 < (byt x).size, ((byt x)[0]'h).toNat = z := by
  have h : ∀ i : Fin 16, (shpX[i.val]'i.isLt).head?.map (·.toNat) = some (sgn[i.val]'i.isLt) := by decide +kernel
  have h2 := h ⟨j, hj⟩
  obtain ⟨x, hx⟩ : ∃ x, shpX[j]? = some x := ⟨_, List.getElem?_eq_getElem (show j < shpX.length from hj)⟩
  obtain ⟨z, hz⟩ : ∃ z, sgn[j]? = some z := ⟨_, List.getElem?_eq_getElem (show j < sgn.length from hj)⟩
  obtain ⟨h3, h4⟩ := List.getElem?_eq_some_iff.1 hx
  obtain ⟨h5, h6⟩ := List.getElem?_eq_some_iff.1 hz
  have h7 : x.head?.map (·.toNat) = some z := by rw [← h4, ← h6]; exact h2
  refine ⟨x, z, hx, hz, ?_, ?_⟩
  · have : ∀ z, z ∈ sgn → z < 256 := by decide
    rw [← h6]; exact this _ (List.getElem_mem h5)
  · cases x with
    | nil => simp at h7
    | cons a b =>
      simp only [List.head?_cons, Option.map_some, Option.some.injEq] at h7
      rw [← h7]
      exact byt_head rfl

set_option maxRecDepth 100000 in
set_option maxHeartbeats 2000000 in
theorem kindAt_any (c : UInt8) (l : List UInt8) (s : ByteArray) (hsl : s = byt (c :: l)) (z k : Nat) (hs2 : s.size ≤ 1000000) (hcz : c.toNat = z) (hk : k < 16) (h1 : sgn[k]? = some z) (h2 : ∀ j y, j < k → sgn[j]? = some y → y ≠ z) (w : World) :
    Calls Tryz.prog 112 #[.string s] w fun e w' => e = .returned (.int .i64 ((k : Int) + 1)) ∧ Below w.heap.size w w' := by
  obtain ⟨q1, q2⟩ := byt_ne (c := c) (l := l)
  obtain ⟨hs, hz⟩ := byt_head (c := c) (l := l) rfl
  rw [← hsl] at q1 q2
  rw [hcz] at hz
  replace hz : ∃ hs : 0 < s.size, (s[0]'hs).toNat = z := by subst hsl; exact ⟨hs, hz⟩
  clear hs
  obtain ⟨hs, hz⟩ := hz
  clear hsl hcz
  go_enter Tryz.func112, Tryz.ntmps112
  go_wp2_with (go_at_call 115; refine (shapes_any _).mono ?_; rintro e w1 ⟨rfl, hB, hb1⟩)
  go_loopw [9] (fun i wr => ∃ j : Nat, j ≤ k ∧ i = .int .i64 j ∧ Below w.heap.size w wr ∧ Blk wr w.heap.size (strs shpX)) (fun i _ => 16 - (intOf i).toNat)
  case atStart => exact ⟨0, Nat.zero_le _, rfl, hb1, hB⟩
  case round =>
    obtain ⟨j, hj, rfl, hb, hBr⟩ := hrel
    obtain ⟨x, y, hx, hy, hy2, hxs, hxz⟩ := sgn_get (j := j) (by omega)
    obtain ⟨hjl, hxe⟩ := List.getElem?_eq_some_iff.1 hx
    have hc := hBr.at_ (strs_get hjl)
    rw [hxe] at hc
    have hxs2 : (byt x).size ≤ 100 := by
      obtain ⟨x', h3, h4⟩ := shpX_get (j := j) (by omega)
      rw [hx] at h3; injection h3 with h3; subst h3
      simp only [byt, ByteArray.size, List.size_toArray]; omega
    have hj16 : (j : Int) < 16 := by omega
    generalize hsx : byt x = sx at hc hxs hxz hxs2
    clear hsx hxe hx
    go_wp2_with fail
    refine wp_region_class (fun w' => Below wr.heap.size wr w') (by kernel_rfl) (by kernel_rfl) (Below.refl _ _).drew ?_
    repeat (first | ((refine quiet_skip (a' := ?_) ?_ ?_ ?_); (rotate_left); (· (simp [Region.wanted, yielded, Go.undef]; done)); (· (simp only [Act.put, List.setIfInBounds_toArray, List.set_cons_zero, List.set_cons_succ]; exact rfl))) | ((refine quiet_one (v := ?_) (a' := ?_) ?_ ?_ ?_ ?_); (rotate_left 2); (· (simp [Region.wanted, yielded, Go.undef]; done)); (· (intro w' hS'; go_simp; try (with_reducible rfl))); (· (simp only [Act.put, List.setIfInBounds_toArray, List.set_cons_zero, List.set_cons_succ]; exact rfl))))
    refine quiet_nil ?_
    intro w2 hb2
    have s2 := hb2.size
    have hbw : Below w.heap.size w w2 := hb.trans (hb2.mono hb.size)
    by_cases hjk : j = k
    · subst hjk
      rw [h1] at hy; injection hy with hy; subst hy
      go_wp2_with fail
      go_ret
      exact ⟨ret_int (by omega), hbw⟩
    · have hyz := h2 j y (by omega) hy
      have q3 : ((y : Int) == (z : Int)) = false := beq_eq_false_iff_ne.2 (by omega)
      go_wp2_with fail
      go_roundw
      case rel => exact ⟨j + 1, by omega, by go_num, hbw, hBr.keep hb2⟩
      case measure => simp [intOf]; omega

theorem sgn_first {k : Nat} (hk : 1 ≤ k ∧ k ≤ 16) : ∃ z, sgn[kind0 k - 1]? = some z ∧ (∀ j y, j < kind0 k - 1 → sgn[j]? = some y → y ≠ z) ∧ ((shp k).head?.map (·.toNat)) = some z ∧ z < 256 ∧ (z = 40 ↔ (k = 3 ∨ k = 5 ∨ k = 13)) := by
  have h : ∀ i : Fin 16, sgn[kind0 (i.val + 1) - 1]? = some ((sgn[kind0 (i.val + 1) - 1]?).getD 0) ∧ (∀ j : Fin 16, j.val < kind0 (i.val + 1) - 1 → sgn[j.val]? ≠ some ((sgn[kind0 (i.val + 1) - 1]?).getD 0)) ∧
      ((shp (i.val + 1)).head?.map (·.toNat)) = some ((sgn[kind0 (i.val + 1) - 1]?).getD 0) ∧ ((sgn[kind0 (i.val + 1) - 1]?).getD 0) < 256 ∧ (((sgn[kind0 (i.val + 1) - 1]?).getD 0) = 40 ↔ (i.val + 1 = 3 ∨ i.val + 1 = 5 ∨ i.val + 1 = 13)) := by decide +kernel
  obtain ⟨i, rfl⟩ : ∃ i, k = i + 1 := ⟨k - 1, by omega⟩
  obtain ⟨h1, h2, h3⟩ := h ⟨i, by omega⟩
  refine ⟨_, h1, fun j y hj hy e => ?_, h3⟩
  obtain ⟨hl, _⟩ := List.getElem?_eq_some_iff.1 hy
  exact h2 ⟨j, hl⟩ hj (e ▸ hy)
/-- a text's first sign tells its kind *-/
theorem kindAt_of {k : Nat} (hk : 1 ≤ k ∧ k ≤ 16) {c : UInt8} {x l : List UInt8} (hx : shp k = c :: x) (hl : l.length ≤ 100000) (w : World) :
    Calls Tryz.prog 112 #[.string (byt (c :: l))] w fun e w' => e = .returned (.int .i64 (kind0 k : Nat)) ∧ Below w.heap.size w w' := by
  obtain ⟨z, h1, h2, h3, h4, h5⟩ := sgn_first hk
  rw [hx] at h3
  simp only [List.head?_cons, Option.map_some, Option.some.injEq] at h3
  have hk0 : 1 ≤ kind0 k ∧ kind0 k ≤ 16 := by unfold kind0; split <;> omega
  have := kindAt_any c l _ rfl z (kind0 k - 1) (by simp [byt, ByteArray.size]; omega) h3 (by omega) h1 h2 w
  rwa [show ((kind0 k - 1 : Nat) : Int) + 1 = ((kind0 k : Nat) : Int) by omega] at this
set_option maxRecDepth 100000 in
set_option maxHeartbeats 2000000 in
theorem kindAt_nil (w : World) : Calls Tryz.prog 112 #[.string ⟨#[]⟩] w fun e w' => e = .returned (.int .i64 (-1)) ∧ Below w.heap.size w w' := by
  go_enter Tryz.func112, Tryz.ntmps112
  go_wp2
  go_ret
  exact ⟨rfl, Below.refl _ _⟩

theorem byt_take1 (c : UInt8) (l : List UInt8) : (byt (c :: l)).extract 0 1 = byt [c] := by
  refine ByteArray.ext ?_
  rw [ByteArray.data_extract]
  exact Array.ext' (by simp [byt])
theorem byt_drop1 (c : UInt8) (l : List UInt8) : (byt (c :: l)).extract 1 (byt (c :: l)).size = byt l := by
  refine ByteArray.ext ?_
  rw [ByteArray.data_extract]
  exact Array.ext' (by simp [byt, ByteArray.size])
/-- a text begins with no digit -/
def NdL : List UInt8 → Prop | [] => True | c :: _ => c.toNat < 48 ∨ 57 < c.toNat
set_option maxRecDepth 100000 in
set_option maxHeartbeats 4000000 in
theorem readNumber_any (n : Int) (c : UInt8) (h : 0 ≤ n ∧ n ≤ 9 ∧ (c.toNat : Int) = 48 + n) (rest : List UInt8) (hr : NdL rest) (hl : rest.length ≤ 100000) (w : World) :
    Calls Tryz.prog 113 #[.string (byt (c :: rest))] w fun e w' => e = .returned (.tuple #[.int .i64 n, .string (byt rest)]) ∧ Below w.heap.size w w' := by
  obtain ⟨s, hs⟩ : ∃ s, byt (c :: rest) = s := ⟨_, rfl⟩
  have hat := hide (atoi_any n c h (s.extract 0 1) (by subst hs; exact byt_take1 c rest))
  have hsz : s.size = rest.length + 1 := by subst hs; simp [byt, ByteArray.size]
  obtain ⟨hi, hc⟩ : ∃ hi : 0 < s.size, (s[0]'hi).toNat = c.toNat := by subst hs; exact byt_head rfl
  have hnd : ∀ hi : 1 < s.size, (s[1]'hi).toNat < 48 ∨ 57 < (s[1]'hi).toNat := by
    subst hs
    intro hi
    cases rest with
    | nil => simp [byt, ByteArray.size] at hi
    | cons a b => exact hr
  have hrest : s.extract 1 (rest.length + 1) = byt rest := by rw [← hsz]; subst hs; exact byt_drop1 c rest
  have hsg : (1 : Int) ≤ (rest.length : Int) + 1 := by omega
  have hsl : s.size ≤ 1000000 := by omega
  rw [hs]
  clear hs hr
  generalize hz : c.toNat = z at hc h
  have hn' := hide h
  have d1 : decide ((48 : Int) ≤ (z : Int)) = true := decide_eq_true (by omega)
  have d2 : decide ((z : Int) ≤ 57) = true := decide_eq_true (by omega)
  clear h hz
  go_enter Tryz.func113, Tryz.ntmps113
  go_wp2
  go_loopw [4] (fun v wr => ∃ k : Nat, k ≤ 1 ∧ v = .int .i64 (k : Nat) ∧ wr = w) (fun v _ => 1 - (intOf v).toNat)
  case atStart => exact ⟨0, by omega, rfl, by first | trivial | rfl⟩
  case round =>
    obtain ⟨k, hk, rfl, rfl⟩ := hrel
    by_cases hk0 : k = 0
    · subst hk0
      go_wp2
      go_roundw
      case rel => exact ⟨1, by omega, rfl, by first | trivial | rfl⟩
      case measure => simp [intOf]
    · obtain rfl : k = 1 := by omega
      clear hk hk0
      by_cases hl1 : 1 < s.size
      · have hnd1 := hnd hl1
        obtain ⟨c2, hc2⟩ : ∃ c2, (s[1]'hl1).toNat = c2 := ⟨_, rfl⟩
        rw [hc2] at hnd1
        by_cases h5 : c2 < 48
        · have e1 : decide ((48 : Int) ≤ (c2 : Int)) = false := decide_eq_false (by omega)
          go_wp2_with (go_at_call 145; refine (hat.out _).mono ?_; rintro e w1 ⟨rfl, hb1⟩)
          refine wp_region_class (fun w' => Below w1.heap.size w1 w') (by kernel_rfl) (by kernel_rfl) (Below.refl _ _).drew ?_
          repeat (first | ((refine quiet_skip (a' := ?_) ?_ ?_ ?_); (rotate_left); (· (simp [Region.wanted, yielded, Go.undef]; done)); (· (simp only [Act.put, List.setIfInBounds_toArray, List.set_cons_zero, List.set_cons_succ]; exact rfl))) | ((refine quiet_one (v := ?_) (a' := ?_) ?_ ?_ ?_ ?_); (rotate_left 2); (· (simp [Region.wanted, yielded, Go.undef]; done)); (· (intro w' hS'; go_simp; try (with_reducible rfl))); (· (simp only [Act.put, List.setIfInBounds_toArray, List.set_cons_zero, List.set_cons_succ]; exact rfl))))
          refine quiet_nil ?_
          intro w2 hb2
          go_wp2_with fail
          go_ret2
          exact ⟨by rw [← hrest]; rfl, hb1.trans (hb2.mono hb1.size)⟩
        · have e1 : decide ((48 : Int) ≤ (c2 : Int)) = true := decide_eq_true (by omega)
          have e2 : decide ((c2 : Int) ≤ 57) = false := decide_eq_false (by omega)
          go_wp2_with (go_at_call 145; refine (hat.out _).mono ?_; rintro e w1 ⟨rfl, hb1⟩)
          refine wp_region_class (fun w' => Below w1.heap.size w1 w') (by kernel_rfl) (by kernel_rfl) (Below.refl _ _).drew ?_
          repeat (first | ((refine quiet_skip (a' := ?_) ?_ ?_ ?_); (rotate_left); (· (simp [Region.wanted, yielded, Go.undef]; done)); (· (simp only [Act.put, List.setIfInBounds_toArray, List.set_cons_zero, List.set_cons_succ]; exact rfl))) | ((refine quiet_one (v := ?_) (a' := ?_) ?_ ?_ ?_ ?_); (rotate_left 2); (· (simp [Region.wanted, yielded, Go.undef]; done)); (· (intro w' hS'; go_simp; try (with_reducible rfl))); (· (simp only [Act.put, List.setIfInBounds_toArray, List.set_cons_zero, List.set_cons_succ]; exact rfl))))
          refine quiet_nil ?_
          intro w2 hb2
          go_wp2_with fail
          go_ret2
          exact ⟨by rw [← hrest]; rfl, hb1.trans (hb2.mono hb1.size)⟩
      · go_wp2_with (go_at_call 145; refine (hat.out _).mono ?_; rintro e w1 ⟨rfl, hb1⟩)
        refine wp_region_class (fun w' => Below w1.heap.size w1 w') (by kernel_rfl) (by kernel_rfl) (Below.refl _ _).drew ?_
        repeat (first | ((refine quiet_skip (a' := ?_) ?_ ?_ ?_); (rotate_left); (· (simp [Region.wanted, yielded, Go.undef]; done)); (· (simp only [Act.put, List.setIfInBounds_toArray, List.set_cons_zero, List.set_cons_succ]; exact rfl))) | ((refine quiet_one (v := ?_) (a' := ?_) ?_ ?_ ?_ ?_); (rotate_left 2); (· (simp [Region.wanted, yielded, Go.undef]; done)); (· (intro w' hS'; go_simp; try (with_reducible rfl))); (· (simp only [Act.put, List.setIfInBounds_toArray, List.set_cons_zero, List.set_cons_succ]; exact rfl))))
        refine quiet_nil ?_
        intro w2 hb2
        go_wp2_with fail
        go_ret2
        exact ⟨by rw [← hrest]; rfl, hb1.trans (hb2.mono hb1.size)⟩
end Go.Proofs.YthgmofdfecioaaaGreatDoor

namespace Go.Proofs.YthgmofdfecioaaaGreatDoor
open Go.RowKit
set_option linter.unusedSimpArgs false
set_option linter.unusedVariables false

/-- a term that has been read, and the text behind it -/
def ReadT (w : World) (k n : Int) (ks : List Tm) (rest : List UInt8) (e : Ending) (w' : World) : Prop :=
  ∃ (A : Option Addr) (c : Nat), e = .returned (.tuple #[.agg #[.int .i64 k, .int .i64 n, .slice A ks.length c], .string (byt rest), .bool true]) ∧ ks.length ≤ 9223372036854775807 ∧ Fresh w.heap.size w' A ks ∧ Below w.heap.size w w'
def ReadOk (d : Nat) (t : Tm) (b : List UInt8) : Prop := ∀ (k n : Int) (ks : List Tm), t = .mk k n ks → ∀ (rest : List UInt8) (D : Int) (w : World), b.length + rest.length ≤ 5000 → NdL rest → 1 ≤ D → D + d ≤ 31 → GM w →
  Calls Tryz.prog 86 #[.string (byt (b ++ rest)), .int .i64 D] w (ReadT w k n ks rest)

set_option maxHeartbeats 4000000 in
set_option maxRecDepth 100000 in
theorem read_num (d k : Nat) (n : Int) (c : UInt8) (h : (k = 1 ∧ n ≤ 9 ∨ k = 2 ∧ n ≤ 3) ∧ 0 ≤ n ∧ (c.toNat : Int) = 48 + n) : ReadOk (d + 1) (.mk k n []) ((shpX[k - 1]?).getD [] ++ [c]) := by
  intro k' n' ks' ht rest D w hl hr hD hD2 hm
  injection ht with h1 h2 h3
  subst h1 h2 h3
  obtain ⟨a, ha, ha2⟩ : ∃ a, shp k = [a] ∧ (shpX[k - 1]?).getD [] = [a] := by rcases h.1 with ⟨rfl, _⟩ | ⟨rfl, _⟩ <;> exact ⟨_, rfl, rfl⟩
  rw [ha2, show ([a] ++ [c] ++ rest) = a :: c :: rest from rfl]
  have hl2 : rest.length ≤ 5000 := by omega
  have hkind := hide (fun w => kindAt_of (k := k) (by rcases h.1 with ⟨rfl, _⟩ | ⟨rfl, _⟩ <;> decide) (c := a) (x := []) (l := c :: rest) ha (by simp; omega) w)
  have hk0 : ((kind0 k : Nat) : Int) = k := by rcases h.1 with ⟨rfl, _⟩ | ⟨rfl, _⟩ <;> rfl
  have hnum := hide (fun w => readNumber_any n c ⟨h.2.1, by omega, h.2.2⟩ rest hr (by omega) w)
  have hn0 := h.2.1
  obtain ⟨s, hs⟩ : ∃ s, byt (a :: c :: rest) = s := ⟨_, rfl⟩
  have hsz : s.size = rest.length + 1 + 1 := by subst hs; simp [byt, ByteArray.size]
  have hx : s.extract 1 (rest.length + 1 + 1) = byt (c :: rest) := by rw [← hsz]; subst hs; exact byt_drop1 a (c :: rest)
  have hkind' : Hid (∀ w, Calls Tryz.prog 112 #[.string s] w fun e w' => e = .returned (.int .i64 (k : Nat)) ∧ Below w.heap.size w w') := by
    refine hide fun w => ?_
    have := hkind.out w
    rw [hs, hk0] at this
    exact this
  have hsg : (1 : Int) ≤ (rest.length : Int) + 1 + 1 := by omega
  have hsl : s.size ≤ 100000 := by omega
  rw [hs]
  have hh := hide h.1
  clear hs hkind ha ha2 hr
  have d0 : decide (30 < D) = false := decide_eq_false (by omega)
  have dn : decide (0 ≤ n) = true := decide_eq_true hn0
  rcases hh.out with ⟨rfl, _⟩ | ⟨rfl, _⟩
  · clear h
    go_enter Tryz.func86, Tryz.ntmps86
    go_wp2_with (first
      | (go_at_call 113; refine (hnum.out _).mono ?_; rintro e w2 ⟨rfl, hb2⟩; have hX := (Blk.new_ w1 27 #[.int .i64 1, .int .i64 0, .slice none 0 0] rfl).keep hb2; replace hZ := (hZ.alloc (.cells #[.int .i64 1, .int .i64 0, .slice none 0 0] 27)).keep hb2; have x0 := hX.at_ (i := 0) rfl; have x1 := hX.at_ (i := 1) rfl; have x2 := hX.at_ (i := 2) rfl; have f0 := hX.frozen 1; have d0 := hZ.at_ (i := 0) rfl; have d1 := hZ.at_ (i := 1) rfl; have d2 := hZ.at_ (i := 2) rfl; have e0 := hZ.frozen 0; have e1 := hZ.frozen 1; have e2 := hZ.frozen 2; have lx := hX.lt; have lz := hZ.lt; have g2 : Below w.heap.size w w2 := (g1.alloc (by omega) _).trans (hb2.mono (by simp; omega)))
      | (go_at_call 112; refine (hkind'.out _).mono ?_; rintro e w1 ⟨rfl, hb1⟩; have hZ := (Blk.new_ w 27 #[.int .i64 0, .int .i64 0, .slice none 0 0] rfl).keep hb1; have g1 : Below w.heap.size w w1 := ((Below.refl _ _).alloc (Nat.le_refl _) _).trans (hb1.mono (by simp)); have s1 := hZ.lt))
    refine bodyPost_ret (v := .tuple #[.agg #[.int .i64 1, .int .i64 n, .slice none 0 0], .string (byt rest), .bool true]) (by simp [results, Tryz.results86, go_sem, d0, d1, d2]) rfl ⟨none, 0, rfl, by simp, Fresh.nil, ?_⟩
    exact (((g2.setCell (by simp; omega) _).setCell (by simp) _).setCell (by simp) _).setCell (by simp) _
  · clear h
    go_enter Tryz.func86, Tryz.ntmps86
    go_wp2_with (first
      | (go_at_call 113; refine (hnum.out _).mono ?_; rintro e w2 ⟨rfl, hb2⟩; have hX := (Blk.new_ w1 27 #[.int .i64 2, .int .i64 0, .slice none 0 0] rfl).keep hb2; replace hZ := (hZ.alloc (.cells #[.int .i64 2, .int .i64 0, .slice none 0 0] 27)).keep hb2; have x0 := hX.at_ (i := 0) rfl; have x1 := hX.at_ (i := 1) rfl; have x2 := hX.at_ (i := 2) rfl; have f0 := hX.frozen 1; have d0 := hZ.at_ (i := 0) rfl; have d1 := hZ.at_ (i := 1) rfl; have d2 := hZ.at_ (i := 2) rfl; have e0 := hZ.frozen 0; have e1 := hZ.frozen 1; have e2 := hZ.frozen 2; have lx := hX.lt; have lz := hZ.lt; have g2 : Below w.heap.size w w2 := (g1.alloc (by omega) _).trans (hb2.mono (by simp; omega)))
      | (go_at_call 112; refine (hkind'.out _).mono ?_; rintro e w1 ⟨rfl, hb1⟩; have hZ := (Blk.new_ w 27 #[.int .i64 0, .int .i64 0, .slice none 0 0] rfl).keep hb1; have g1 : Below w.heap.size w w1 := ((Below.refl _ _).alloc (Nat.le_refl _) _).trans (hb1.mono (by simp)); have s1 := hZ.lt))
    refine bodyPost_ret (v := .tuple #[.agg #[.int .i64 2, .int .i64 n, .slice none 0 0], .string (byt rest), .bool true]) (by simp [results, Tryz.results86, go_sem, d0, d1, d2]) rfl ⟨none, 0, rfl, by simp, Fresh.nil, ?_⟩
    exact (((g2.setCell (by simp; omega) _).setCell (by simp) _).setCell (by simp) _).setCell (by simp) _
theorem node_facts {k : Nat} (hk : 3 ≤ k ∧ k ≤ 16) : ∃ (c : UInt8) (y z : List UInt8) (ps : List (List UInt8)), shp k = c :: y ∧ prt k = (c :: z) :: ps ∧ (prt (kind0 k)).head? = some (c :: z) ∧ (prt (kind0 k)).length = (prt k).length ∧ 3 ≤ kind0 k ∧ kind0 k ≤ 16 ∧ z.length ≤ 1 ∧ (c.toNat = 40 ↔ (k = 3 ∨ k = 5 ∨ k = 13)) := by
  rcases prt_kinds hk with rfl | rfl | rfl | rfl | rfl | rfl | rfl | rfl | rfl | rfl | rfl | rfl | rfl | rfl <;> exact ⟨_, _, _, _, rfl, rfl, rfl, rfl, by decide, by decide, by decide, by decide⟩
theorem kind0_or {k K : Nat} (h : kind0 k = K) : K = k ∨ ((0 : Nat) = 0 ∧ K = 3 ∧ (k = 5 ∨ k = 13)) := by
  unfold kind0 at h
  by_cases hk : k = 5 ∨ k = 13
  · rw [if_pos hk] at h; exact .inr ⟨rfl, h.symm, hk⟩
  · rw [if_neg hk] at h; exact .inl h.symm
theorem prt_len {k : Nat} (hk : 3 ≤ k ∧ k ≤ 16) : 1 ≤ (prt k).length ∧ (prt k).length ≤ 5 := by
  rcases prt_kinds hk with rfl | rfl | rfl | rfl | rfl | rfl | rfl | rfl | rfl | rfl | rfl | rfl | rfl | rfl <;> decide
theorem shapes_at {g : Nat} (w : World) (hg : g = w.heap.size) : Calls Tryz.prog 115 #[] w fun e w' => e = .returned (.slice (some ⟨g, 0, none⟩) 16 16) ∧ Blk w' g (strs shpX) ∧ Below w.heap.size w w' := by
  subst hg; exact shapes_any w
theorem split_at {k g : Nat} (hk : 3 ≤ k ∧ k ≤ 16) (w : World) (hm : GM w) (hg : g = w.heap.size) : Calls Tryz.prog 114 #[.string (byt (shp k)), .string ⟨#[46]⟩] w fun e w' =>
    e = .returned (.slice (some ⟨g, 0, none⟩) (prt k).length (prt k).length) ∧ Blk w' g (strs (prt k)) ∧ Below w.heap.size w w' := by
  subst hg; exact split_any hk w hm
theorem prt_cell {w : World} {g : Nat} {ps : List (List UInt8)} (hB : Blk w g (strs ps)) {j : Nat} {p : List UInt8} (hp : ps[j]? = some p) : w.cell? ⟨g, j, none⟩ = some (.string (byt p)) := by
  obtain ⟨hj, rfl⟩ := List.getElem?_eq_some_iff.1 hp
  exact hB.at_ (strs_get hj)
theorem strs_kind {w : World} {g : Nat} {ps : List (List UInt8)} (hB : Blk w g (strs ps)) {o : Nat} {k : Int} (h : w.cell? ⟨g, o, none⟩ = some (.int .i64 k)) : False := by
  rw [hB.cell] at h
  simp only [strs, List.getElem?_toArray, List.getElem?_map] at h
  cases hx : ps[o]? with
  | none => rw [hx] at h; cases h
  | some x => rw [hx] at h; cases h
theorem part_ne {B : Nat} {w : World} {Av : Option Addr} {j cv gp : Nat} {us : List Tm} {ps : List (List UInt8)} (hp : Part B w (.slice Av j cv) us) (hl : us.length = j) (h0 : j = 0 → Av = none) (hP : Blk w gp (strs ps)) : some gp ≠ (Value.slice Av j cv).ownBlock := by
  intro e
  cases j with
  | zero => rw [h0 rfl] at e; cases e
  | succ j =>
    obtain ⟨A', c', e', hf⟩ := hp.fresh
    injection e' with e1 e2 e3
    subst e1
    obtain ⟨b, off, k, n, ks, A2, c2, rfl, _, hc, _⟩ := hf.rd.at_ (j := 0) (by omega)
    simp only [Value.ownBlock] at e
    first
      | (injection e with e; subst e; exact strs_kind hP hc)
      | (split at e <;> first | cases e | (injection e with e; subst e; exact strs_kind hP hc))
/-- the shape of a kind, where it lies -/
theorem shp_cell {w : World} {g : Nat} (hB : Blk w g (strs shpX)) {K : Nat} (hK : 3 ≤ K ∧ K ≤ 16) : w.cell? ⟨g, K - 1, none⟩ = some (.string (byt (shp K))) := by
  have hj : K - 1 < shpX.length := by show K - 1 < 16; omega
  have := hB.at_ (strs_get hj)
  rw [this]
  simp [shp, List.getElem?_eq_getElem hj]
set_option maxHeartbeats 8000000 in
set_option maxRecDepth 100000 in
theorem read_node (d k : Nat) (ts : List Tm) (xs : List (List UInt8)) (hk : 3 ≤ k ∧ k ≤ 16) (hl : (prt k).length = ts.length + 1) (hx : xs.length = ts.length)
    (ih : ∀ (j : Nat) (t : Tm) (x : List UInt8), ts[j]? = some t → xs[j]? = some x → ReadOk d t x) : ReadOk (d + 1) (.mk k 0 ts) (inter (prt k) xs) := by
  intro k' n' ks' ht rest D w hlen hr hD hD2 hm
  injection ht with h1 h2 h3
  subst h1 h2 h3
  obtain ⟨c, y, z, ps, e1, e2, e3, e4, e5, e6, e7, e8⟩ := node_facts hk
  obtain ⟨K, hK⟩ : ∃ K, kind0 k = K := ⟨_, rfl⟩
  rw [hK] at e3 e4 e5 e6
  have hpl := prt_len hk
  rw [e2, inter] at hlen ⊢
  have hkind := hide (fun w => kindAt_of (k := k) ⟨by omega, hk.2⟩ (c := c) (x := y) (l := z ++ rem xs ps ++ rest) e1 (by simp at hlen ⊢; omega) w)
  rw [hK] at hkind
  have hS : c :: z ++ rem xs ps ++ rest = c :: (z ++ rem xs ps ++ rest) := by simp
  rw [hS]
  obtain ⟨hi, hc⟩ := byt_head (c := c) (l := z ++ rem xs ps ++ rest) rfl
  have hcut := hide (fun w => cut_any (c :: z) (rem xs ps ++ rest) w)
  rw [show c :: z ++ (rem xs ps ++ rest) = c :: (z ++ rem xs ps ++ rest) by simp] at hcut
  obtain ⟨s, hs⟩ : ∃ s, byt (c :: (z ++ rem xs ps ++ rest)) = s := ⟨_, rfl⟩
  have hsl : s.size ≤ 100000 := by subst hs; simp [byt, ByteArray.size] at hlen ⊢; omega
  have hzc : ∃ hi : 0 < s.size, (s[0]'hi).toNat = c.toNat := by subst hs; exact ⟨hi, hc⟩
  rw [hs] at hkind hcut ⊢
  clear hi hc hS hs
  obtain ⟨hi, hc⟩ := hzc
  obtain ⟨p0, hp0⟩ : ∃ p0, c :: z = p0 := ⟨_, rfl⟩
  rw [hp0] at e3 hcut
  have d0 : decide (30 < D) = false := decide_eq_false (by omega)
  have dk : decide ((K : Int) < 0) = false := decide_eq_false (by omega)
  have q1 : ((K : Int) == 1) = false := beq_eq_false_iff_ne.2 (by omega)
  have q2 : ((K : Int) == 2) = false := beq_eq_false_iff_ne.2 (by omega)
  have hK1 : (1 : Int) ≤ K := by omega
  have hK2 : (K : Int) ≤ 16 := by omega
  have hm' := hide hm
  have hcell := hide (fun (w : World) (g : Nat) (hB : Blk w g (strs shpX)) => shp_cell hB (K := K) ⟨e5, e6⟩)
  have e3' : (prt K)[0]? = some p0 := by rw [← List.head?_eq_getElem?]; exact e3
  have hsplit := hide (fun (w : World) (g : Nat) (h : GM w) (hg : g = w.heap.size) => split_at (k := K) (g := g) ⟨e5, e6⟩ w h hg)
  have hl3 : (0 : Int) < (ts.length : Int) + 1 := by omega
  have hl4 := hide (And.intro e3' e4)
  have hlr : (rem xs ps ++ rest).length ≤ 5000 := by simp at hlen ⊢; omega
  have hh := hide (And.intro hk (And.intro hK (And.intro e8 e2)))
  rw [hl] at e4 hpl
  have hps : ps.length = ts.length := by rw [e2] at hl; simpa using hl
  have hX := hide (And.intro hps (And.intro hx (And.intro hr ih)))
  clear hk hK e8 e2 hm e1 hlen hl hps hx hr ih
  go_enter Tryz.func86, Tryz.ntmps86
  go_wp2_with (first
    | (go_at_call 116; refine (hcut.out _).mono ?_; rintro e w4 ⟨rfl, rfl⟩)
    | (go_at_call 114; refine (hsplit.out _ w2.heap.size gm2 rfl).mono ?_; rintro e w3 ⟨rfl, hP, hb3⟩; have hpc := prt_cell hP hl4.out.1; have gm3 := gm2.keep hb3; replace hT := hT.keep hb3; replace hZ := hZ.keep hb3; have g3 : Below w.heap.size w w3 := g2.trans (hb3.mono (by omega)))
    | (go_at_call 115; refine (shapes_at (g := w1.heap.size + 1) _ (by simp)).mono ?_; rintro e w2 ⟨rfl, hH, hb2⟩; have gm2 : GM w2 := ((hm'.out.keep g1).alloc _).keep hb2; have hcl := hcell.out _ _ hH; have hT := (Blk.new_ w1 27 #[.int .i64 K, .int .i64 0, .slice none 0 0] rfl).keep hb2; replace hZ := (hZ.alloc (.cells #[.int .i64 K, .int .i64 0, .slice none 0 0] 27)).keep hb2; have s2 : w1.heap.size + 1 ≤ w2.heap.size := (by have := hb2.size; simpa using this); have g2 : Below w.heap.size w w2 := (g1.alloc (by omega) _).trans (hb2.mono (by simp; omega)))
    | (go_at_call 112; refine (hkind.out _).mono ?_; rintro e w1 ⟨rfl, hb1⟩; have hZ := (Blk.new_ w 27 #[.int .i64 0, .int .i64 0, .slice none 0 0] rfl).keep hb1; have g1 : Below w.heap.size w w1 := ((Below.refl _ _).alloc (Nat.le_refl _) _).trans (hb1.mono (by simp)); have s1 := hZ.lt))
  go_loopw [11, 12, 13, 14] (fun P r ok i wr => ∃ (j kj gp : Nat) (Av : Option Addr) (cv : Nat) (R : List UInt8), j ≤ ts.length ∧ Hid (R = rem (xs.drop j) (ps.drop j) ++ rest) ∧ R.length ≤ 5000 ∧ P = .slice (some ⟨gp, 0, none⟩) (ts.length + 1) (ts.length + 1) ∧ r = .string (byt R) ∧ ok = .bool true ∧ i = .int .i64 ((j : Int) + 1) ∧ Part (w1.heap.size + 1) wr (.slice Av j cv) (ts.take j) ∧ Hid (j = 0 → Av = none) ∧ w1.heap.size < gp ∧ Blk wr gp (strs (prt kj)) ∧ Blk wr w1.heap.size #[.int .i64 kj, .int .i64 0, .slice Av j cv] ∧ Blk wr w.heap.size #[.int .i64 0, .int .i64 0, .slice none 0 0] ∧ Below w.heap.size w wr ∧ Hid (kj = k ∨ (j = 0 ∧ kj = 3 ∧ (k = 5 ∨ k = 13)))) (fun _ _ _ i _ => ts.length + 2 - (intOf i).toNat)
  case atStart => exact ⟨0, K, w2.heap.size, none, 0, _, Nat.zero_le _, hide (by simp), hlr, rfl, rfl, rfl, rfl, Part.nil, hide (fun _ => rfl), by omega, hP, hT, hZ, g3, hide (kind0_or hh.out.2.1)⟩
  case round =>
    obtain ⟨j, kj, gp, Av, cv, R, hj, hR, hRl, rfl, rfl, rfl, rfl, hp, hgp, hgl, hPr, hTr, hZr, hb, hkj⟩ := hrel
    by_cases hlt : j < ts.length
    · obtain ⟨k1, n1, ks1, hk1⟩ : ∃ k n ks, ts[j] = .mk k n ks := by cases h : ts[j]; exact ⟨_, _, _, rfl⟩
      have hlx : j < xs.length := by have := hX.out.2.1; omega
      have hlp : j < ps.length := by have := hX.out.1; omega
      obtain ⟨x, hxj⟩ : ∃ x, xs[j]? = some x := ⟨_, List.getElem?_eq_getElem hlx⟩
      obtain ⟨p, hpj⟩ : ∃ p, ps[j]? = some p := ⟨_, List.getElem?_eq_getElem hlp⟩
      obtain ⟨R2, hR2⟩ : ∃ R2, rem (xs.drop (j + 1)) (ps.drop (j + 1)) ++ rest = R2 := ⟨_, rfl⟩
      have hRe : R = x ++ (p ++ R2) := by rw [hR.out, rem_drop hxj hpj, ← hR2]; simp
      have hprt : (prt k)[j + 1]? = some p := by rw [hh.out.2.2.2]; simpa using hpj
      have hnd : NdL (p ++ R2) := by
        rcases prt_sign hh.out.1 hprt with ⟨rfl, h⟩ | ⟨c', q, rfl, h⟩
        · have h4 := congrArg List.length hh.out.2.2.2
          simp only [List.length_cons] at h4
          have h5 := hX.out.1
          have h6 := hX.out.2.1
          rw [← hR2, show xs.drop (j + 1) = [] from List.drop_eq_nil_of_le (by omega), rem_nil]
          exact hX.out.2.2.1
        · exact h
      have hkid := hide (fun w' (hg : GM w') => hX.out.2.2.2 j (.mk k1 n1 ks1) x (by rw [List.getElem?_eq_getElem hlt, hk1]) hxj k1 n1 ks1 rfl (p ++ R2) (D + 1) w' (by rw [hRe] at hRl; simpa using hRl) hnd (by omega) (by omega) hg)
      have hk1' := hide hk1
      have hcut2 := hide (fun w' => cut_any p R2 w')
      have hR2' := hide hR2
      have hR2l : R2.length ≤ 5000 := by rw [hRe] at hRl; simp at hRl; omega
      have hprt' := hide hprt
      have gmr : GM wr := hm'.out.keep hb
      have hne1 : gp ≠ w1.heap.size := by omega
      have hne2 : w1.heap.size ≠ gp := by omega
      have hne3 : gp ≠ w.heap.size := by omega
      have lr := hb.size
      have lt1 := hTr.lt
      have lp1 := hPr.lt
      have lz1 := hZr.lt
      subst hRe
      clear hxj hpj hR2 hprt hk1 hnd hR hlx hlp hRl
      obtain ⟨z0, hz0⟩ : ∃ z0, c.toNat = z0 := ⟨_, rfl⟩
      rw [hz0] at hc
      have hz0' := hide hz0
      clear hz0
      by_cases h40 : z0 = 40
      · have q40 : ((z0 : Int) == 40) = true := by rw [h40]; rfl
        by_cases hj0 : j = 0
        · subst hj0
          have hz1 := hide (hz0'.out.trans h40)
          have hav : Av = none := hgp.out rfl
          subst hav
          clear hz0' hgp
          subst h40
          have hk3 := hh.out.2.2.1
          have hkk : k = 3 ∨ k = 5 ∨ k = 13 := by
            rcases hk3.1 hz1.out with h | h | h <;> simp [h]
          clear hk3
          rcases hkk with rfl | rfl | rfl
          · have hpe : p = [62] := by have := hprt'.out; simpa [prt] using this.symm
            have hts : Hid (ts.length = 2) := hide (by have := hX.out.1; have h2 := hh.out.2.2.2; simp [prt] at h2; rw [← h2.2] at this; simpa using this.symm)
            subst hpe
            simp only [List.cons_append, List.nil_append] at hkid hcut2
            obtain ⟨qb1, qb2⟩ := byt_ne (c := 62) (l := R2)
            obtain ⟨hb0, hbz⟩ : ∃ h : 0 < (byt (62 :: R2)).size, ((byt (62 :: R2))[0]'h).toNat = 62 := byt_head rfl
            have hbs : (byt (62 :: R2)).size ≤ 100000 := by simp [byt, ByteArray.size]; omega
            have hsplit2 : Hid (∀ (w : World) (g : Nat), GM w → g = w.heap.size → Calls Tryz.prog 114 #[.string (byt (shp 3)), .string ⟨#[46]⟩] w fun e w' => e = .returned (.slice (some ⟨g, 0, none⟩) 3 3) ∧ Blk w' g (strs (prt 3)) ∧ Below w.heap.size w w') := hide (fun w g h hg => split_at (k := 3) (g := g) ⟨by decide, by decide⟩ w h hg)
            go_wp2_with (first
              | (at_builtin; refine wpList_append_built (B := w1.heap.size + 1) (m := 0) (k := k1) (n := n1) (c := c5) hp (hb5.alloc hb5.size _) (by omega) (hf5.alloc _) hl5 (by rw [List.length_take]; omega) (by omega) rfl _ _ rfl rfl (by show Value.slice (some ⟨w5.heap.size + 1, 0, none⟩) 1 1 = _; simp) ?_; intro A6 c6 w6 hp6 hb6 hg6; clear x2 f2; have hT6 := (hT5.alloc (.cells #[.int .i64 k1, .int .i64 n1, .slice A5 ks1.length c5] 27)).below hb6 (by omega); have x0 := hT6.at_ (i := 0) rfl; have x2 := hT6.at_ (i := 2) rfl; have f2 := hT6.frozen 2; have f0 := hT6.frozen 0; have lt6 := hT6.lt; have hP6 := ((hPr.keep hb5).alloc (.cells #[.int .i64 k1, .int .i64 n1, .slice A5 ks1.length c5] 27)).grown hg6 (by simp [Value.ownBlock]); have hZ6 := ((hZr.keep hb5).alloc (.cells #[.int .i64 k1, .int .i64 n1, .slice A5 ks1.length c5] 27)).below hb6 (by omega); have g6 : Below w.heap.size w w6 := ((hb.trans (hb5.mono (by omega))).alloc (by have := hb5.size; omega) _).trans (hb6.mono (by omega)); have l6 := hP6.lt)
              | (go_at_call 86; refine (hkid.out _ gmr).mono ?_; rintro e w5 ⟨A5, c5, rfl, hl5, hf5, hb5⟩; have hT5 := hTr.keep hb5; have x2 := hT5.at_ (i := 2) rfl; have f2 := hT5.frozen 2; have lt5 := hT5.lt; have s5 := hb5.size))
            refine name_world ?_
            intro wx hwx
            have hTx : Blk wx w1.heap.size #[.int .i64 3, .int .i64 0, .slice A6 1 c6] := by rw [hwx]; exact (hT6.set_ 2 _).set_ 0 _
            have hpx : Part (w1.heap.size + 1) wx (.slice A6 1 c6) [.mk k1 n1 ks1] := by rw [hwx]; have := (hp6.setCell (a := ⟨w1.heap.size, 2, none⟩) (by simp) (.slice A6 1 c6)).setCell (a := ⟨w1.heap.size, 0, none⟩) (by simp) (.int .i64 3); simpa using this
            have hZx : Blk wx w.heap.size #[.int .i64 0, .int .i64 0, .slice none 0 0] := by rw [hwx]; exact (hZ6.far (by simp; omega) _).far (by simp; omega) _
            have gx : Below w.heap.size w wx := by rw [hwx]; exact (g6.setCell (by simp; omega) _).setCell (by simp; omega) _
            have lx : w1.heap.size < wx.heap.size := hTx.lt
            have r0 := hTx.rule (i := 0) rfl
            clear hwx x0 x2 f2 f0
            refine wp_region_firstY (fun w' => Below wx.heap.size wx w') [1, 2, 3] [0] [4, 5, 6, 7] [_, _, _] [_] [_, _, _, _] (by kernel_rfl) (by kernel_rfl) rfl rfl rfl (fun _ _ d _ _ h => by cases d <;> exact h) (Below.refl _ _).drew ?_
            repeat (first | ((refine takeY_skip (a' := ?_) ?_ ?_ ?_); (rotate_left); (· (simp [Region.wanted, yielded, Go.undef]; done)); (· (simp only [List.getElem_toArray, List.getElem_cons_zero, List.getElem_cons_succ, Act.put, List.setIfInBounds_toArray, List.set_cons_zero, List.set_cons_succ]; exact rfl))) | ((refine takeY_step (v := ?_) (a' := ?_) ?_ ?_ ?_ ?_); (rotate_left 2); (· (simp [Region.wanted, yielded, Go.undef]; done)); (· (intro w' hS'; go_simp; try (with_reducible rfl))); (· (simp only [List.getElem_toArray, List.getElem_cons_zero, List.getElem_cons_succ, Act.put, List.setIfInBounds_toArray, List.set_cons_zero, List.set_cons_succ]; exact rfl))))
            refine takeY_nil (then_cons ?_)
            go_wp2_with (go_at_call 115; refine (shapes_at (g := wx.heap.size) _ (by simp)).mono ?_; rintro e w7 ⟨rfl, hH7, hb7⟩)
            have hx1 : Below wx.heap.size wx w7 := (Below.refl _ _).drew.trans hb7
            have s7 := hx1.size
            have hcl7 : w7.cell? ⟨wx.heap.size, 2, none⟩ = some (.string (byt (shp 3))) := shp_cell hH7 (K := 3) ⟨by decide, by decide⟩
            have gm7 : GM w7 := (hm'.out.keep gx).keep hx1
            refine mid_intro hx1 (then_nil ?_)
            clear r0
            go_wp2_with (first
              | (go_at_call 116; refine (hcut2.out _).mono ?_; rintro e w9 ⟨rfl, rfl⟩)
              | (go_at_call 114; refine (hsplit2.out _ w7.heap.size gm7 rfl).mono ?_; rintro e w8 ⟨rfl, hP8, hb8⟩; have hpc8 := prt_cell hP8 (j := 1) (p := [62]) rfl))
            have hx2 : Below wx.heap.size wx w8 := hx1.trans (hb8.mono s7)
            go_roundw
            case rel => exact ⟨1, 3, w7.heap.size, A6, c6, R2, by omega, hide hR2'.out.symm, hR2l, by rw [hts.out], rfl, rfl, by go_num, by rw [List.take_succ_eq_append_getElem hlt, hk1'.out]; simpa using hpx.below hx2, hide (fun h => absurd h (by omega)), by omega, hP8, hTx.keep hx2, hZx.keep hx2, gx.trans (hx2.mono gx.size), hide (.inl rfl)⟩
            case measure => simp [intOf]
          · have hpe : p = [32] := by have := hprt'.out; simpa [prt] using this.symm
            have hts : Hid (ts.length = 2) := hide (by have := hX.out.1; have h2 := hh.out.2.2.2; simp [prt] at h2; rw [← h2.2] at this; simpa using this.symm)
            subst hpe
            simp only [List.cons_append, List.nil_append] at hkid hcut2
            obtain ⟨qb1, qb2⟩ := byt_ne (c := 32) (l := R2)
            obtain ⟨hb0, hbz⟩ : ∃ h : 0 < (byt (32 :: R2)).size, ((byt (32 :: R2))[0]'h).toNat = 32 := byt_head rfl
            have hbs : (byt (32 :: R2)).size ≤ 100000 := by simp [byt, ByteArray.size]; omega
            have hsplit2 : Hid (∀ (w : World) (g : Nat), GM w → g = w.heap.size → Calls Tryz.prog 114 #[.string (byt (shp 5)), .string ⟨#[46]⟩] w fun e w' => e = .returned (.slice (some ⟨g, 0, none⟩) 3 3) ∧ Blk w' g (strs (prt 5)) ∧ Below w.heap.size w w') := hide (fun w g h hg => split_at (k := 5) (g := g) ⟨by decide, by decide⟩ w h hg)
            go_wp2_with (first
              | (at_builtin; refine wpList_append_built (B := w1.heap.size + 1) (m := 0) (k := k1) (n := n1) (c := c5) hp (hb5.alloc hb5.size _) (by omega) (hf5.alloc _) hl5 (by rw [List.length_take]; omega) (by omega) rfl _ _ rfl rfl (by show Value.slice (some ⟨w5.heap.size + 1, 0, none⟩) 1 1 = _; simp) ?_; intro A6 c6 w6 hp6 hb6 hg6; clear x2 f2; have hT6 := (hT5.alloc (.cells #[.int .i64 k1, .int .i64 n1, .slice A5 ks1.length c5] 27)).below hb6 (by omega); have x0 := hT6.at_ (i := 0) rfl; have x2 := hT6.at_ (i := 2) rfl; have f2 := hT6.frozen 2; have f0 := hT6.frozen 0; have lt6 := hT6.lt; have hP6 := ((hPr.keep hb5).alloc (.cells #[.int .i64 k1, .int .i64 n1, .slice A5 ks1.length c5] 27)).grown hg6 (by simp [Value.ownBlock]); have hZ6 := ((hZr.keep hb5).alloc (.cells #[.int .i64 k1, .int .i64 n1, .slice A5 ks1.length c5] 27)).below hb6 (by omega); have g6 : Below w.heap.size w w6 := ((hb.trans (hb5.mono (by omega))).alloc (by have := hb5.size; omega) _).trans (hb6.mono (by omega)); have l6 := hP6.lt)
              | (go_at_call 86; refine (hkid.out _ gmr).mono ?_; rintro e w5 ⟨A5, c5, rfl, hl5, hf5, hb5⟩; have hT5 := hTr.keep hb5; have x2 := hT5.at_ (i := 2) rfl; have f2 := hT5.frozen 2; have lt5 := hT5.lt; have s5 := hb5.size))
            refine name_world ?_
            intro wx hwx
            have hTx : Blk wx w1.heap.size #[.int .i64 5, .int .i64 0, .slice A6 1 c6] := by rw [hwx]; exact (hT6.set_ 2 _).set_ 0 _
            have hpx : Part (w1.heap.size + 1) wx (.slice A6 1 c6) [.mk k1 n1 ks1] := by rw [hwx]; have := (hp6.setCell (a := ⟨w1.heap.size, 2, none⟩) (by simp) (.slice A6 1 c6)).setCell (a := ⟨w1.heap.size, 0, none⟩) (by simp) (.int .i64 5); simpa using this
            have hZx : Blk wx w.heap.size #[.int .i64 0, .int .i64 0, .slice none 0 0] := by rw [hwx]; exact (hZ6.far (by simp; omega) _).far (by simp; omega) _
            have gx : Below w.heap.size w wx := by rw [hwx]; exact (g6.setCell (by simp; omega) _).setCell (by simp; omega) _
            have lx : w1.heap.size < wx.heap.size := hTx.lt
            have r0 := hTx.rule (i := 0) rfl
            clear hwx x0 x2 f2 f0
            refine wp_region_firstY (fun w' => Below wx.heap.size wx w') [1, 2, 3] [0] [4, 5, 6, 7] [_, _, _] [_] [_, _, _, _] (by kernel_rfl) (by kernel_rfl) rfl rfl rfl (fun _ _ d _ _ h => by cases d <;> exact h) (Below.refl _ _).drew ?_
            repeat (first | ((refine takeY_skip (a' := ?_) ?_ ?_ ?_); (rotate_left); (· (simp [Region.wanted, yielded, Go.undef]; done)); (· (simp only [List.getElem_toArray, List.getElem_cons_zero, List.getElem_cons_succ, Act.put, List.setIfInBounds_toArray, List.set_cons_zero, List.set_cons_succ]; exact rfl))) | ((refine takeY_step (v := ?_) (a' := ?_) ?_ ?_ ?_ ?_); (rotate_left 2); (· (simp [Region.wanted, yielded, Go.undef]; done)); (· (intro w' hS'; go_simp; try (with_reducible rfl))); (· (simp only [List.getElem_toArray, List.getElem_cons_zero, List.getElem_cons_succ, Act.put, List.setIfInBounds_toArray, List.set_cons_zero, List.set_cons_succ]; exact rfl))))
            refine takeY_nil (then_cons ?_)
            go_wp2_with (go_at_call 115; refine (shapes_at (g := wx.heap.size) _ (by simp)).mono ?_; rintro e w7 ⟨rfl, hH7, hb7⟩)
            have hx1 : Below wx.heap.size wx w7 := (Below.refl _ _).drew.trans hb7
            have s7 := hx1.size
            have hcl7 : w7.cell? ⟨wx.heap.size, 4, none⟩ = some (.string (byt (shp 5))) := shp_cell hH7 (K := 5) ⟨by decide, by decide⟩
            have gm7 : GM w7 := (hm'.out.keep gx).keep hx1
            refine mid_intro hx1 (then_nil ?_)
            clear r0
            go_wp2_with (first
              | (go_at_call 116; refine (hcut2.out _).mono ?_; rintro e w9 ⟨rfl, rfl⟩)
              | (go_at_call 114; refine (hsplit2.out _ w7.heap.size gm7 rfl).mono ?_; rintro e w8 ⟨rfl, hP8, hb8⟩; have hpc8 := prt_cell hP8 (j := 1) (p := [32]) rfl))
            have hx2 : Below wx.heap.size wx w8 := hx1.trans (hb8.mono s7)
            go_roundw
            case rel => exact ⟨1, 5, w7.heap.size, A6, c6, R2, by omega, hide hR2'.out.symm, hR2l, by rw [hts.out], rfl, rfl, by go_num, by rw [List.take_succ_eq_append_getElem hlt, hk1'.out]; simpa using hpx.below hx2, hide (fun h => absurd h (by omega)), by omega, hP8, hTx.keep hx2, hZx.keep hx2, gx.trans (hx2.mono gx.size), hide (.inl rfl)⟩
            case measure => simp [intOf]
          · have hpe : p = [42] := by have := hprt'.out; simpa [prt] using this.symm
            have hts : Hid (ts.length = 2) := hide (by have := hX.out.1; have h2 := hh.out.2.2.2; simp [prt] at h2; rw [← h2.2] at this; simpa using this.symm)
            subst hpe
            simp only [List.cons_append, List.nil_append] at hkid hcut2
            obtain ⟨qb1, qb2⟩ := byt_ne (c := 42) (l := R2)
            obtain ⟨hb0, hbz⟩ : ∃ h : 0 < (byt (42 :: R2)).size, ((byt (42 :: R2))[0]'h).toNat = 42 := byt_head rfl
            have hbs : (byt (42 :: R2)).size ≤ 100000 := by simp [byt, ByteArray.size]; omega
            have hsplit2 : Hid (∀ (w : World) (g : Nat), GM w → g = w.heap.size → Calls Tryz.prog 114 #[.string (byt (shp 13)), .string ⟨#[46]⟩] w fun e w' => e = .returned (.slice (some ⟨g, 0, none⟩) 3 3) ∧ Blk w' g (strs (prt 13)) ∧ Below w.heap.size w w') := hide (fun w g h hg => split_at (k := 13) (g := g) ⟨by decide, by decide⟩ w h hg)
            go_wp2_with (first
              | (at_builtin; refine wpList_append_built (B := w1.heap.size + 1) (m := 0) (k := k1) (n := n1) (c := c5) hp (hb5.alloc hb5.size _) (by omega) (hf5.alloc _) hl5 (by rw [List.length_take]; omega) (by omega) rfl _ _ rfl rfl (by show Value.slice (some ⟨w5.heap.size + 1, 0, none⟩) 1 1 = _; simp) ?_; intro A6 c6 w6 hp6 hb6 hg6; clear x2 f2; have hT6 := (hT5.alloc (.cells #[.int .i64 k1, .int .i64 n1, .slice A5 ks1.length c5] 27)).below hb6 (by omega); have x0 := hT6.at_ (i := 0) rfl; have x2 := hT6.at_ (i := 2) rfl; have f2 := hT6.frozen 2; have f0 := hT6.frozen 0; have lt6 := hT6.lt; have hP6 := ((hPr.keep hb5).alloc (.cells #[.int .i64 k1, .int .i64 n1, .slice A5 ks1.length c5] 27)).grown hg6 (by simp [Value.ownBlock]); have hZ6 := ((hZr.keep hb5).alloc (.cells #[.int .i64 k1, .int .i64 n1, .slice A5 ks1.length c5] 27)).below hb6 (by omega); have g6 : Below w.heap.size w w6 := ((hb.trans (hb5.mono (by omega))).alloc (by have := hb5.size; omega) _).trans (hb6.mono (by omega)); have l6 := hP6.lt)
              | (go_at_call 86; refine (hkid.out _ gmr).mono ?_; rintro e w5 ⟨A5, c5, rfl, hl5, hf5, hb5⟩; have hT5 := hTr.keep hb5; have x2 := hT5.at_ (i := 2) rfl; have f2 := hT5.frozen 2; have lt5 := hT5.lt; have s5 := hb5.size))
            refine name_world ?_
            intro wx hwx
            have hTx : Blk wx w1.heap.size #[.int .i64 13, .int .i64 0, .slice A6 1 c6] := by rw [hwx]; exact (hT6.set_ 2 _).set_ 0 _
            have hpx : Part (w1.heap.size + 1) wx (.slice A6 1 c6) [.mk k1 n1 ks1] := by rw [hwx]; have := (hp6.setCell (a := ⟨w1.heap.size, 2, none⟩) (by simp) (.slice A6 1 c6)).setCell (a := ⟨w1.heap.size, 0, none⟩) (by simp) (.int .i64 13); simpa using this
            have hZx : Blk wx w.heap.size #[.int .i64 0, .int .i64 0, .slice none 0 0] := by rw [hwx]; exact (hZ6.far (by simp; omega) _).far (by simp; omega) _
            have gx : Below w.heap.size w wx := by rw [hwx]; exact (g6.setCell (by simp; omega) _).setCell (by simp; omega) _
            have lx : w1.heap.size < wx.heap.size := hTx.lt
            have r0 := hTx.rule (i := 0) rfl
            clear hwx x0 x2 f2 f0
            refine wp_region_firstY (fun w' => Below wx.heap.size wx w') [1, 2, 3] [0] [4, 5, 6, 7] [_, _, _] [_] [_, _, _, _] (by kernel_rfl) (by kernel_rfl) rfl rfl rfl (fun _ _ d _ _ h => by cases d <;> exact h) (Below.refl _ _).drew ?_
            repeat (first | ((refine takeY_skip (a' := ?_) ?_ ?_ ?_); (rotate_left); (· (simp [Region.wanted, yielded, Go.undef]; done)); (· (simp only [List.getElem_toArray, List.getElem_cons_zero, List.getElem_cons_succ, Act.put, List.setIfInBounds_toArray, List.set_cons_zero, List.set_cons_succ]; exact rfl))) | ((refine takeY_step (v := ?_) (a' := ?_) ?_ ?_ ?_ ?_); (rotate_left 2); (· (simp [Region.wanted, yielded, Go.undef]; done)); (· (intro w' hS'; go_simp; try (with_reducible rfl))); (· (simp only [List.getElem_toArray, List.getElem_cons_zero, List.getElem_cons_succ, Act.put, List.setIfInBounds_toArray, List.set_cons_zero, List.set_cons_succ]; exact rfl))))
            refine takeY_nil (then_cons ?_)
            go_wp2_with (go_at_call 115; refine (shapes_at (g := wx.heap.size) _ (by simp)).mono ?_; rintro e w7 ⟨rfl, hH7, hb7⟩)
            have hx1 : Below wx.heap.size wx w7 := (Below.refl _ _).drew.trans hb7
            have s7 := hx1.size
            have hcl7 : w7.cell? ⟨wx.heap.size, 12, none⟩ = some (.string (byt (shp 13))) := shp_cell hH7 (K := 13) ⟨by decide, by decide⟩
            have gm7 : GM w7 := (hm'.out.keep gx).keep hx1
            refine mid_intro hx1 (then_nil ?_)
            clear r0
            go_wp2_with (first
              | (go_at_call 116; refine (hcut2.out _).mono ?_; rintro e w9 ⟨rfl, rfl⟩)
              | (go_at_call 114; refine (hsplit2.out _ w7.heap.size gm7 rfl).mono ?_; rintro e w8 ⟨rfl, hP8, hb8⟩; have hpc8 := prt_cell hP8 (j := 1) (p := [42]) rfl))
            have hx2 : Below wx.heap.size wx w8 := hx1.trans (hb8.mono s7)
            go_roundw
            case rel => exact ⟨1, 13, w7.heap.size, A6, c6, R2, by omega, hide hR2'.out.symm, hR2l, by rw [hts.out], rfl, rfl, by go_num, by rw [List.take_succ_eq_append_getElem hlt, hk1'.out]; simpa using hpx.below hx2, hide (fun h => absurd h (by omega)), by omega, hP8, hTx.keep hx2, hZx.keep hx2, gx.trans (hx2.mono gx.size), hide (.inl rfl)⟩
            case measure => simp [intOf]
        · have qj : ((j : Int) == 0) = false := beq_eq_false_iff_ne.2 (by omega)
          have qj2 : ((j : Int) + 1 == 1) = false := beq_eq_false_iff_ne.2 (by omega)
          clear h40
          obtain rfl : kj = k := hkj.out.elim id (fun h => absurd h.1 hj0)
          go_wp2_with (first
            | (go_at_call 116; refine (hcut2.out _).mono ?_; rintro e w9 ⟨rfl, rfl⟩)
            | (at_builtin; refine wpList_append_built (B := w1.heap.size + 1) (m := j) (k := k1) (n := n1) (c := c5) hp (hb5.alloc hb5.size _) (by omega) (hf5.alloc _) hl5 (by rw [List.length_take]; omega) (by omega) rfl _ _ rfl rfl (by show Value.slice (some ⟨w5.heap.size + 1, 0, none⟩) 1 1 = _; simp) ?_; intro A6 c6 w6 hp6 hb6 hg6; clear x2 f2; have hT6 := (hT5.alloc (.cells #[.int .i64 k1, .int .i64 n1, .slice A5 ks1.length c5] 27)).below hb6 (by omega); have x0 := hT6.at_ (i := 0) rfl; have x2 := hT6.at_ (i := 2) rfl; have f2 := hT6.frozen 2; have f0 := hT6.frozen 0; have lt6 := hT6.lt; have hP6 := ((hPr.keep hb5).alloc (.cells #[.int .i64 k1, .int .i64 n1, .slice A5 ks1.length c5] 27)).grown hg6 (part_ne hp (by rw [List.length_take]; omega) hgp.out hPr); have hpc6 := prt_cell hP6 hprt'.out; have hZ6 := ((hZr.keep hb5).alloc (.cells #[.int .i64 k1, .int .i64 n1, .slice A5 ks1.length c5] 27)).below hb6 (by omega); have g6 : Below w.heap.size w w6 := ((hb.trans (hb5.mono (by omega))).alloc (by have := hb5.size; omega) _).trans (hb6.mono (by omega)); have l6 := hP6.lt)
            | (go_at_call 86; refine (hkid.out _ gmr).mono ?_; rintro e w5 ⟨A5, c5, rfl, hl5, hf5, hb5⟩; have hT5 := hTr.keep hb5; have x2 := hT5.at_ (i := 2) rfl; have f2 := hT5.frozen 2; have lt5 := hT5.lt; have s5 := hb5.size))
          go_roundw
          case rel => exact ⟨j + 1, kj, gp, A6, c6, R2, by omega, hide hR2'.out.symm, hR2l, rfl, rfl, rfl, by go_num, by rw [List.take_succ_eq_append_getElem hlt, hk1'.out]; exact hp6.setCell (by simp) _, hide (fun h => absurd h (by omega)), hgl, hP6.far (by simp; omega) _, hT6.set_ 2 _, hZ6.far (by simp; omega) _, g6.setCell (by simp; omega) _, hide (.inl rfl)⟩
          case measure => simp [intOf]; omega
      · have q40 : ((z0 : Int) == 40) = false := beq_eq_false_iff_ne.2 (by omega)
        obtain rfl : kj = k := by
          rcases hkj.out with h | ⟨_, _, h⟩
          · exact h
          · exact absurd (hh.out.2.2.1.2 (h.elim (fun e => .inr (.inl e)) (fun e => .inr (.inr e)))) (by rw [hz0'.out]; exact h40)
        clear h40
        go_wp2_with (first
          | (go_at_call 116; refine (hcut2.out _).mono ?_; rintro e w9 ⟨rfl, rfl⟩)
          | (at_builtin; refine wpList_append_built (B := w1.heap.size + 1) (m := j) (k := k1) (n := n1) (c := c5) hp (hb5.alloc hb5.size _) (by omega) (hf5.alloc _) hl5 (by rw [List.length_take]; omega) (by omega) rfl _ _ rfl rfl (by show Value.slice (some ⟨w5.heap.size + 1, 0, none⟩) 1 1 = _; simp) ?_; intro A6 c6 w6 hp6 hb6 hg6; clear x2 f2; have hT6 := (hT5.alloc (.cells #[.int .i64 k1, .int .i64 n1, .slice A5 ks1.length c5] 27)).below hb6 (by omega); have x0 := hT6.at_ (i := 0) rfl; have x2 := hT6.at_ (i := 2) rfl; have f2 := hT6.frozen 2; have f0 := hT6.frozen 0; have lt6 := hT6.lt; have hP6 := ((hPr.keep hb5).alloc (.cells #[.int .i64 k1, .int .i64 n1, .slice A5 ks1.length c5] 27)).grown hg6 (part_ne hp (by rw [List.length_take]; omega) hgp.out hPr); have hpc6 := prt_cell hP6 hprt'.out; have hZ6 := ((hZr.keep hb5).alloc (.cells #[.int .i64 k1, .int .i64 n1, .slice A5 ks1.length c5] 27)).below hb6 (by omega); have g6 : Below w.heap.size w w6 := ((hb.trans (hb5.mono (by omega))).alloc (by have := hb5.size; omega) _).trans (hb6.mono (by omega)); have l6 := hP6.lt)
          | (go_at_call 86; refine (hkid.out _ gmr).mono ?_; rintro e w5 ⟨A5, c5, rfl, hl5, hf5, hb5⟩; have hT5 := hTr.keep hb5; have x2 := hT5.at_ (i := 2) rfl; have f2 := hT5.frozen 2; have lt5 := hT5.lt; have s5 := hb5.size))
        go_roundw
        case rel => exact ⟨j + 1, kj, gp, A6, c6, R2, by omega, hide hR2'.out.symm, hR2l, rfl, rfl, rfl, by go_num, by rw [List.take_succ_eq_append_getElem hlt, hk1'.out]; exact hp6.setCell (by simp) _, hide (fun h => absurd h (by omega)), hgl, hP6.far (by simp; omega) _, hT6.set_ 2 _, hZ6.far (by simp; omega) _, g6.setCell (by simp; omega) _, hide (.inl rfl)⟩
        case measure => simp [intOf]; omega
    · obtain rfl : j = ts.length := by omega
      have hRe : R = rest := by rw [hR.out, show xs.drop ts.length = [] from List.drop_eq_nil_of_le (by have := hX.out.2.1; omega), rem_nil]; rfl
      obtain rfl : kj = k := by
        rcases hkj.out with h | ⟨h1, _, h2⟩
        · exact h
        · exfalso
          have h3 := hh.out.2.2.2
          have h4 := hX.out.1
          rw [h1] at h4
          rcases h2 with rfl | rfl <;> (simp [prt] at h3; rw [← h3.2] at h4; simp at h4)
      subst hRe
      rw [List.take_length] at hp
      obtain ⟨Ax, cx, ex, hfr⟩ := hp.fresh
      injection ex with ex1 ex2 ex3
      subst ex1 ex3
      clear ex2
      have x0 := hTr.at_ (i := 0) rfl
      have x1 := hTr.at_ (i := 1) rfl
      have x2 := hTr.at_ (i := 2) rfl
      have d0 := hZr.at_ (i := 0) rfl
      have d1 := hZr.at_ (i := 1) rfl
      have d2 := hZr.at_ (i := 2) rfl
      have e0 := hZr.frozen 0
      have e1 := hZr.frozen 1
      have e2 := hZr.frozen 2
      go_wp2_with fail
      refine bodyPost_ret (v := .tuple #[.agg #[.int .i64 kj, .int .i64 0, .slice Av ts.length cv], .string (byt R), .bool true]) (by simp [results, Tryz.results86, go_sem, d0, d1, d2]) rfl ⟨Av, cv, rfl, by omega, ?_, ?_⟩
      · exact (((hfr.setCell (by simp; omega) _).setCell (by simp; omega) _).setCell (by simp; omega) _).mono (by omega)
      · exact ((hb.setCell (by simp) _).setCell (by simp) _).setCell (by simp) _
/-- a term's text is read as that term -/
theorem readTerm_any {d : Nat} {t : Tm} {b : List UInt8} (h : Tu d t b) : ReadOk d t b := by
  induction h with
  | num d k n c h => exact read_num d k n c h
  | node d k ts xs hk hl hx ht ih => exact read_node d k ts xs hk hl hx ih
end Go.Proofs.YthgmofdfecioaaaGreatDoor
