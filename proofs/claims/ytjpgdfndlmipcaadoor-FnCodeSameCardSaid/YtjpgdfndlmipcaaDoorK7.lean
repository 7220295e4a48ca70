/-
  Texts of this claim, merged: contracts of the functions that the law reaches. No condition.
-/
import Derived.Test.YtjpgdfndlmipcaaDoorK1
import Derived.Test.YtjpgdfndlmipcaaDoorK2
import Derived.Test.YtjpgdfndlmipcaaDoorK3
import Derived.Test.YtjpgdfndlmipcaaDoorK4
import Derived.Test.YtjpgdfndlmipcaaDoorK6
import Derived.Outline
import Derived.Test.YtjpgdfndlmipcaaDoorChecked
import Derived.ChangeSlices
import Derived.ProofKit
import Derived.OpenShut
import Derived.JoinedCond
import Derived.Carry
import Derived.Below
import Derived.ChangeSame

namespace Go.Proofs.YtjpgdfndlmipcaaDoor
open Go.RowKit
set_option linter.unusedSimpArgs false
set_option linter.unusedVariables false

theorem validT_size' {k n : Int} {ks : List Tm} (h : validT (.mk k n ks) = true) : sizes ks ≤ 400 := by
  simp only [validT, Bool.and_eq_true, decide_eq_true_eq] at h
  have := h.2
  rw [Tm.size] at this
  omega
set_option maxHeartbeats 4000000 in
set_option maxRecDepth 100000 in
theorem format_any {t : Tm} {b : List UInt8} {d : Nat} (h : Tx d t b) (k n : Int) (ks : List Tm) (ht : t = .mk k n ks) (hv : validT t = true) (hb : b.length ≤ 100000) (A : Option Addr) (c : Nat) (w : World) (hr : Rd w A 0 ks) :
    Calls Tryd.prog 49 #[.agg #[.int .i64 k, .int .i64 n, .slice A ks.length c]] w fun e w' => e = .returned (.string (byt b)) ∧ Below w.heap.size w w' := by
  have htx := hide (text_any h k n ks ht)
  subst ht
  have hM := validT_size' hv
  have hv' := hide hv
  clear hv h
  go_enter Tryd.func49, Tryd.ntmps49
  go_wp2_with (first
    | (go_at_call 64; refine (htx.out A c _ hb ((hr.alloc _).below hb1)).mono ?_; rintro e w2 ⟨rfl, hb2⟩)
    | (go_at_call 51; refine (sTermValid_any k n ks A c _ (by omega) (hr.alloc _)).mono ?_; rw [hv'.out]; rintro e w1 ⟨rfl, hb1⟩; have hB := (Blk.new_ w 48 #[.int .i64 k, .int .i64 n, .slice A ks.length c] rfl).keep hb1; have x0 := hB.at_ (i := 0) rfl; have x1 := hB.at_ (i := 1) rfl; have x2 := hB.at_ (i := 2) rfl))
  go_ret
  exact ⟨rfl, (((Below.refl _ _).alloc (Nat.le_refl _) _).trans (hb1.mono (by simp))).trans (hb2.mono (by have := hb1.size; simp at this; omega))⟩

/-- a text that the parser reads -/
def Good (t : Tm) (b : List UInt8) : Prop := Tx 30 t b ∧ validT t = true ∧ b.length ≤ 1000
def GotPT (w : World) (k n : Int) (ks : List Tm) (e : Ending) (w' : World) : Prop :=
  ∃ A c, e = .returned (.tuple #[.agg #[.int .i64 k, .int .i64 n, .slice A ks.length c], .bool true]) ∧ ks.length ≤ 9223372036854775807 ∧ Fresh w.heap.size w' A ks ∧ Below w.heap.size w w'
set_option maxHeartbeats 4000000 in
set_option maxRecDepth 100000 in
theorem parseTerm_any {k n : Int} {ks : List Tm} {b : List UInt8} (h : Good (.mk k n ks) b) (w : World) : Calls Tryd.prog 41 #[.string (byt b)] w (GotPT w k n ks) := by
  obtain ⟨htx, hv, hb⟩ := h
  have hs : (byt b).size = b.length := by simp [byt, ByteArray.size]
  have hpar := hide (fun w => parse_any htx k n ks rfl (byt b) 0 0 30 w (by rw [hs]; omega) rfl (Has.all b) (Nd.out (by rw [hs]; omega)) (by omega) (by omega))
  have hfm := hide (fun A c w hr => format_any htx k n ks rfl hv (by omega) A c w hr)
  have q1 : ((byt b).toList == []) = false := by
    have := htx.ne
    cases b with
    | nil => exact absurd rfl this
    | cons x xs => simp [byt]
  have q2 : (byt b).toList.isEmpty = false := by
    have := htx.ne
    cases b with
    | nil => exact absurd rfl this
    | cons x xs => simp [byt]
  have q3 : ((byt b).toList == (byt b).toList) = true := by simp
  have hpos : 0 < b.length := List.length_pos_iff.2 htx.ne
  clear htx hv
  go_enter Tryd.func41, Tryd.ntmps41
  go_wp2_with (first
    | (go_at_call 49; refine (hfm.out A1 c1 _ (hf1.rd.alloc _)).mono ?_; rintro e w2 ⟨rfl, hb2⟩; replace hX := hX.keep hb2; replace hZ := (hZ.alloc _).keep hb2; have x0 := hX.at_ (i := 0) rfl; have x1 := hX.at_ (i := 1) rfl; have x2 := hX.at_ (i := 2) rfl; have d0 := hZ.at_ (i := 0) rfl; have d1 := hZ.at_ (i := 1) rfl; have d2 := hZ.at_ (i := 2) rfl; have e0 := hZ.frozen 0; have e1 := hZ.frozen 1; have e2 := hZ.frozen 2; have lx := hX.lt; have lz := hZ.lt)
    | (go_at_call 48; refine (hpar.out _).mono ?_; rintro e w1 ⟨m, A1, c1, hm, rfl, hl1, hf1, hb1⟩; rw [Nat.zero_add] at hm; subst hm; have hZ := (Blk.new_ w 48 #[.int .i64 0, .int .i64 0, .slice none 0 0] rfl).keep hb1; have g1 : Below w.heap.size w w1 := ((Below.refl _ _).alloc (Nat.le_refl _) _).trans (hb1.mono (by simp)); have s1 := g1.size; have hX := Blk.new_ w1 48 #[.int .i64 k, .int .i64 n, .slice A1 ks.length c1] rfl; have lz1 := hZ.lt))
  have hf2 := (hf1.alloc (.cells #[.int .i64 k, .int .i64 n, .slice A1 ks.length c1] 48)).below hb2
  have g2 : Below w.heap.size w w2 := (g1.alloc (by omega) _).trans (hb2.mono (by simp; omega))
  refine bodyPost_ret (v := .tuple #[.agg #[.int .i64 k, .int .i64 n, .slice A1 ks.length c1], .bool true]) (by simp [results, Tryd.results41, go_sem, d0, d1, d2]) rfl ⟨A1, c1, rfl, hl1, ?_, ((g2.setCell (by simp) _).setCell (by simp) _).setCell (by simp) _⟩
  exact (((hf2.setCell (by simp) _).setCell (by simp) _).setCell (by simp) _).mono (by simp)

/-- texts in a block -/
def strs (xs : List (List UInt8)) : Array Value := (xs.map fun x => Value.string (byt x)).toArray
theorem strs_get {xs : List (List UInt8)} {j : Nat} (h : j < xs.length) : (strs xs)[j]? = some (.string (byt xs[j])) := by simp [strs, List.getElem?_eq_getElem h]
end Go.Proofs.YtjpgdfndlmipcaaDoor

namespace Go.Proofs.YtjpgdfndlmipcaaDoor
open Go.RowKit
set_option linter.unusedSimpArgs false
set_option linter.unusedVariables false

theorem Tx.cast {d : Nat} {t : Tm} {b b' : List UInt8} (h : Tx d t b) (e : b = b') : Tx d t b' := e ▸ h
/-- each text is its term's -/
def GoodL : List Tm → List (List UInt8) → Prop
  | [], [] => True
  | t :: ts, x :: xs => Good t x ∧ GoodL ts xs
  | _, _ => False
theorem GoodL.at_ : ∀ {ts : List Tm} {xs : List (List UInt8)}, GoodL ts xs → ∀ (j : Nat) (t : Tm) (x : List UInt8), ts[j]? = some t → xs[j]? = some x → Good t x
  | [], _, _, j, t, x, h1, _ => by simp at h1
  | _ :: _, [], h, _, _, _, _, _ => h.elim
  | a :: ts, b :: xs, h, 0, t, x, h1, h2 => by
    simp only [List.getElem?_cons_zero, Option.some.injEq] at h1 h2
    subst h1 h2; exact h.1
  | a :: ts, b :: xs, h, j + 1, t, x, h1, h2 => by
    simp only [List.getElem?_cons_succ] at h1 h2
    exact h.2.at_ j t x h1 h2
/-- the terms pats -/
def pats : List Tm := [(.mk 5 0 [(.mk 1 0 []), (.mk 1 1 [])]), (.mk 8 0 [(.mk 1 0 [])]), (.mk 10 0 [(.mk 6 0 []), (.mk 1 0 []), (.mk 1 0 [])]), (.mk 4 0 [(.mk 6 0 []), (.mk 5 0 [(.mk 1 1 []), (.mk 1 0 [])])]), (.mk 3 0 [(.mk 1 0 []), (.mk 1 2 [])]), (.mk 4 0 [(.mk 6 0 []), (.mk 8 0 [(.mk 1 0 [])])]), (.mk 1 0 []), (.mk 5 0 [(.mk 1 2 []), (.mk 1 0 [])]), (.mk 9 0 [(.mk 4 0 [(.mk 6 0 []), (.mk 6 0 [])]), (.mk 1 1 []), (.mk 1 2 []), (.mk 7 0 [])]), (.mk 14 0 [(.mk 13 0 [(.mk 6 0 []), (.mk 6 0 [])]), (.mk 1 0 []), (.mk 1 1 [])])]
def patsX : List (List UInt8) := [[40, 35, 48, 32, 35, 49, 41], [43, 35, 48], [123, 78, 44, 35, 48, 44, 35, 48, 125], [91, 78, 93, 40, 35, 49, 32, 35, 48, 41], [40, 35, 48, 62, 35, 50, 41], [91, 78, 93, 43, 35, 48], [35, 48], [40, 35, 50, 32, 35, 48, 41], [60, 91, 78, 93, 78, 44, 35, 49, 44, 35, 50, 44, 48, 62], [124, 40, 78, 42, 78, 41, 44, 35, 48, 44, 35, 49, 124]]
theorem pats_0 : Good (.mk 5 0 [(.mk 1 0 []), (.mk 1 1 [])]) [40, 35, 48, 32, 35, 49, 41] := ⟨Tx.cast (.rnd 29 5 32 _ _ _ _ (.inr (.inr ⟨rfl, rfl⟩)) (.var 28 0 48 (by decide)) (.var 28 1 49 (by decide))) (by simp [ser]), by decide +kernel, by decide⟩
theorem pats_1 : Good (.mk 8 0 [(.mk 1 0 [])]) [43, 35, 48] := ⟨Tx.cast (.pre 29 8 43 _ _ (.inl ⟨rfl, rfl⟩) (.var 28 0 48 (by decide))) (by simp [ser]), by decide +kernel, by decide⟩
theorem pats_2 : Good (.mk 10 0 [(.mk 6 0 []), (.mk 1 0 []), (.mk 1 0 [])]) [123, 78, 44, 35, 48, 44, 35, 48, 125] := ⟨Tx.cast (tx3 (.inr (.inl ⟨rfl, rfl, rfl, rfl⟩)) (.nat 28) (.var 28 0 48 (by decide)) (.var 28 0 48 (by decide))) (by simp [ser]), by decide +kernel, by decide⟩
theorem pats_3 : Good (.mk 4 0 [(.mk 6 0 []), (.mk 5 0 [(.mk 1 1 []), (.mk 1 0 [])])]) [91, 78, 93, 40, 35, 49, 32, 35, 48, 41] := ⟨Tx.cast (.lam 29 _ _ _ _ (.nat 28) (.rnd 28 5 32 _ _ _ _ (.inr (.inr ⟨rfl, rfl⟩)) (.var 27 1 49 (by decide)) (.var 27 0 48 (by decide)))) (by simp [ser]), by decide +kernel, by decide⟩
theorem pats_4 : Good (.mk 3 0 [(.mk 1 0 []), (.mk 1 2 [])]) [40, 35, 48, 62, 35, 50, 41] := ⟨Tx.cast (.rnd 29 3 62 _ _ _ _ (.inl ⟨rfl, rfl⟩) (.var 28 0 48 (by decide)) (.var 28 2 50 (by decide))) (by simp [ser]), by decide +kernel, by decide⟩
theorem pats_5 : Good (.mk 4 0 [(.mk 6 0 []), (.mk 8 0 [(.mk 1 0 [])])]) [91, 78, 93, 43, 35, 48] := ⟨Tx.cast (.lam 29 _ _ _ _ (.nat 28) (.pre 28 8 43 _ _ (.inl ⟨rfl, rfl⟩) (.var 27 0 48 (by decide)))) (by simp [ser]), by decide +kernel, by decide⟩
theorem pats_6 : Good (.mk 1 0 []) [35, 48] := ⟨Tx.cast (.var 29 0 48 (by decide)) (by simp [ser]), by decide +kernel, by decide⟩
theorem pats_7 : Good (.mk 5 0 [(.mk 1 2 []), (.mk 1 0 [])]) [40, 35, 50, 32, 35, 48, 41] := ⟨Tx.cast (.rnd 29 5 32 _ _ _ _ (.inr (.inr ⟨rfl, rfl⟩)) (.var 28 2 50 (by decide)) (.var 28 0 48 (by decide))) (by simp [ser]), by decide +kernel, by decide⟩
theorem pats_8 : Good (.mk 9 0 [(.mk 4 0 [(.mk 6 0 []), (.mk 6 0 [])]), (.mk 1 1 []), (.mk 1 2 []), (.mk 7 0 [])]) [60, 91, 78, 93, 78, 44, 35, 49, 44, 35, 50, 44, 48, 62] := ⟨Tx.cast (tx4 (.inl ⟨rfl, rfl, rfl, rfl⟩) (.lam 28 _ _ _ _ (.nat 27) (.nat 27)) (.var 28 1 49 (by decide)) (.var 28 2 50 (by decide)) (.zero 28)) (by simp [ser]), by decide +kernel, by decide⟩
theorem pats_9 : Good (.mk 14 0 [(.mk 13 0 [(.mk 6 0 []), (.mk 6 0 [])]), (.mk 1 0 []), (.mk 1 1 [])]) [124, 40, 78, 42, 78, 41, 44, 35, 48, 44, 35, 49, 124] := ⟨Tx.cast (tx3 (.inr (.inr (.inl ⟨rfl, rfl, rfl, rfl⟩))) (.rnd 28 13 42 _ _ _ _ (.inr (.inl ⟨rfl, rfl⟩)) (.nat 27) (.nat 27)) (.var 28 0 48 (by decide)) (.var 28 1 49 (by decide))) (by simp [ser]), by decide +kernel, by decide⟩
theorem pats_good : GoodL pats patsX := ⟨pats_0, pats_1, pats_2, pats_3, pats_4, pats_5, pats_6, pats_7, pats_8, pats_9, trivial⟩
/-- the terms blks -/
def blks : List Tm := [(.mk 5 0 [(.mk 1 0 []), (.mk 7 0 [])]), (.mk 9 0 [(.mk 4 0 [(.mk 6 0 []), (.mk 6 0 [])]), (.mk 7 0 []), (.mk 4 0 [(.mk 6 0 []), (.mk 4 0 [(.mk 6 0 []), (.mk 1 0 [])])]), (.mk 1 1 [])]), (.mk 15 0 [(.mk 16 0 [(.mk 1 2 [])])]), (.mk 12 0 [(.mk 4 0 [(.mk 6 0 []), (.mk 6 0 [])]), (.mk 5 0 [(.mk 1 1 []), (.mk 7 0 [])]), (.mk 7 0 [])]), (.mk 5 0 [(.mk 5 0 [(.mk 1 0 []), (.mk 4 0 [(.mk 6 0 []), (.mk 1 0 [])])]), (.mk 1 1 [])]), (.mk 5 0 [(.mk 5 0 [(.mk 4 0 [(.mk 6 0 []), (.mk 1 0 [])]), (.mk 1 1 [])]), (.mk 7 0 [])]), (.mk 8 0 [(.mk 1 0 [])])]
def blksX : List (List UInt8) := [[40, 35, 48, 32, 48, 41], [60, 91, 78, 93, 78, 44, 48, 44, 91, 78, 93, 91, 78, 93, 35, 48, 44, 35, 49, 62], [94, 95, 35, 50], [64, 60, 91, 78, 93, 78, 44, 40, 35, 49, 32, 48, 41, 44, 48, 62], [40, 40, 35, 48, 32, 91, 78, 93, 35, 48, 41, 32, 35, 49, 41], [40, 40, 91, 78, 93, 35, 48, 32, 35, 49, 41, 32, 48, 41], [43, 35, 48]]
theorem blks_0 : Good (.mk 5 0 [(.mk 1 0 []), (.mk 7 0 [])]) [40, 35, 48, 32, 48, 41] := ⟨Tx.cast (.rnd 29 5 32 _ _ _ _ (.inr (.inr ⟨rfl, rfl⟩)) (.var 28 0 48 (by decide)) (.zero 28)) (by simp [ser]), by decide +kernel, by decide⟩
theorem blks_1 : Good (.mk 9 0 [(.mk 4 0 [(.mk 6 0 []), (.mk 6 0 [])]), (.mk 7 0 []), (.mk 4 0 [(.mk 6 0 []), (.mk 4 0 [(.mk 6 0 []), (.mk 1 0 [])])]), (.mk 1 1 [])]) [60, 91, 78, 93, 78, 44, 48, 44, 91, 78, 93, 91, 78, 93, 35, 48, 44, 35, 49, 62] := ⟨Tx.cast (tx4 (.inl ⟨rfl, rfl, rfl, rfl⟩) (.lam 28 _ _ _ _ (.nat 27) (.nat 27)) (.zero 28) (.lam 28 _ _ _ _ (.nat 27) (.lam 27 _ _ _ _ (.nat 26) (.var 26 0 48 (by decide)))) (.var 28 1 49 (by decide))) (by simp [ser]), by decide +kernel, by decide⟩
theorem blks_2 : Good (.mk 15 0 [(.mk 16 0 [(.mk 1 2 [])])]) [94, 95, 35, 50] := ⟨Tx.cast (.pre 29 15 94 _ _ (.inr (.inr (.inl ⟨rfl, rfl⟩))) (.pre 28 16 95 _ _ (.inr (.inr (.inr ⟨rfl, rfl⟩))) (.var 27 2 50 (by decide)))) (by simp [ser]), by decide +kernel, by decide⟩
theorem blks_3 : Good (.mk 12 0 [(.mk 4 0 [(.mk 6 0 []), (.mk 6 0 [])]), (.mk 5 0 [(.mk 1 1 []), (.mk 7 0 [])]), (.mk 7 0 [])]) [64, 60, 91, 78, 93, 78, 44, 40, 35, 49, 32, 48, 41, 44, 48, 62] := ⟨Tx.cast (tx3 (.inr (.inr (.inr ⟨rfl, rfl, rfl, rfl⟩))) (.lam 28 _ _ _ _ (.nat 27) (.nat 27)) (.rnd 28 5 32 _ _ _ _ (.inr (.inr ⟨rfl, rfl⟩)) (.var 27 1 49 (by decide)) (.zero 27)) (.zero 28)) (by simp [ser]), by decide +kernel, by decide⟩
theorem blks_4 : Good (.mk 5 0 [(.mk 5 0 [(.mk 1 0 []), (.mk 4 0 [(.mk 6 0 []), (.mk 1 0 [])])]), (.mk 1 1 [])]) [40, 40, 35, 48, 32, 91, 78, 93, 35, 48, 41, 32, 35, 49, 41] := ⟨Tx.cast (.rnd 29 5 32 _ _ _ _ (.inr (.inr ⟨rfl, rfl⟩)) (.rnd 28 5 32 _ _ _ _ (.inr (.inr ⟨rfl, rfl⟩)) (.var 27 0 48 (by decide)) (.lam 27 _ _ _ _ (.nat 26) (.var 26 0 48 (by decide)))) (.var 28 1 49 (by decide))) (by simp [ser]), by decide +kernel, by decide⟩
theorem blks_5 : Good (.mk 5 0 [(.mk 5 0 [(.mk 4 0 [(.mk 6 0 []), (.mk 1 0 [])]), (.mk 1 1 [])]), (.mk 7 0 [])]) [40, 40, 91, 78, 93, 35, 48, 32, 35, 49, 41, 32, 48, 41] := ⟨Tx.cast (.rnd 29 5 32 _ _ _ _ (.inr (.inr ⟨rfl, rfl⟩)) (.rnd 28 5 32 _ _ _ _ (.inr (.inr ⟨rfl, rfl⟩)) (.lam 27 _ _ _ _ (.nat 26) (.var 26 0 48 (by decide))) (.var 27 1 49 (by decide))) (.zero 28)) (by simp [ser]), by decide +kernel, by decide⟩
theorem blks_6 : Good (.mk 8 0 [(.mk 1 0 [])]) [43, 35, 48] := ⟨Tx.cast (.pre 29 8 43 _ _ (.inl ⟨rfl, rfl⟩) (.var 28 0 48 (by decide))) (by simp [ser]), by decide +kernel, by decide⟩
theorem blks_good : GoodL blks blksX := ⟨blks_0, blks_1, blks_2, blks_3, blks_4, blks_5, blks_6, trivial⟩
end Go.Proofs.YtjpgdfndlmipcaaDoor

namespace Go.Proofs.YtjpgdfndlmipcaaDoor
open Go.RowKit
set_option linter.unusedSimpArgs false
set_option linter.unusedVariables false

/-- the terms drws -/
def drws : List Tm := [(.mk 5 0 [(.mk 4 0 [(.mk 6 0 []), (.mk 4 0 [(.mk 6 0 []), (.mk 9 0 [(.mk 4 0 [(.mk 6 0 []), (.mk 6 0 [])]), (.mk 1 1 []), (.mk 4 0 [(.mk 6 0 []), (.mk 4 0 [(.mk 6 0 []), (.mk 8 0 [(.mk 1 0 [])])])]), (.mk 1 0 [])])])]), (.mk 8 0 [(.mk 8 0 [(.mk 7 0 [])])])]), (.mk 5 0 [(.mk 5 0 [(.mk 4 0 [(.mk 6 0 []), (.mk 4 0 [(.mk 6 0 []), (.mk 9 0 [(.mk 4 0 [(.mk 6 0 []), (.mk 6 0 [])]), (.mk 1 1 []), (.mk 4 0 [(.mk 6 0 []), (.mk 4 0 [(.mk 6 0 []), (.mk 8 0 [(.mk 1 0 [])])])]), (.mk 1 0 [])])])]), (.mk 8 0 [(.mk 8 0 [(.mk 7 0 [])])])]), (.mk 8 0 [(.mk 7 0 [])])]), (.mk 5 0 [(.mk 4 0 [(.mk 6 0 []), (.mk 8 0 [(.mk 1 0 [])])]), (.mk 5 0 [(.mk 4 0 [(.mk 6 0 []), (.mk 8 0 [(.mk 8 0 [(.mk 1 0 [])])])]), (.mk 7 0 [])])]), (.mk 15 0 [(.mk 14 0 [(.mk 13 0 [(.mk 6 0 []), (.mk 6 0 [])]), (.mk 5 0 [(.mk 4 0 [(.mk 6 0 []), (.mk 1 0 [])]), (.mk 7 0 [])]), (.mk 8 0 [(.mk 7 0 [])])])]), (.mk 16 0 [(.mk 14 0 [(.mk 13 0 [(.mk 6 0 []), (.mk 6 0 [])]), (.mk 7 0 []), (.mk 5 0 [(.mk 4 0 [(.mk 6 0 []), (.mk 8 0 [(.mk 1 0 [])])]), (.mk 7 0 [])])])]), (.mk 12 0 [(.mk 4 0 [(.mk 6 0 []), (.mk 10 0 [(.mk 6 0 []), (.mk 7 0 []), (.mk 1 0 [])])]), (.mk 11 0 [(.mk 7 0 [])]), (.mk 11 0 [(.mk 7 0 [])])]), (.mk 5 0 [(.mk 4 0 [(.mk 2 0 []), (.mk 4 0 [(.mk 1 0 []), (.mk 1 0 [])])]), (.mk 6 0 [])]), (.mk 5 0 [(.mk 4 0 [(.mk 6 0 []), (.mk 5 0 [(.mk 1 0 []), (.mk 1 0 [])])]), (.mk 4 0 [(.mk 6 0 []), (.mk 1 0 [])])]), (.mk 5 0 [(.mk 4 0 [(.mk 6 0 []), (.mk 5 0 [(.mk 1 0 []), (.mk 1 0 [])])]), (.mk 4 0 [(.mk 6 0 []), (.mk 5 0 [(.mk 1 0 []), (.mk 1 0 [])])])]), (.mk 9 0 [(.mk 4 0 [(.mk 6 0 []), (.mk 2 0 [])]), (.mk 6 0 []), (.mk 4 0 [(.mk 6 0 []), (.mk 4 0 [(.mk 2 0 []), (.mk 3 0 [(.mk 6 0 []), (.mk 1 1 [])])])]), (.mk 8 0 [(.mk 8 0 [(.mk 8 0 [(.mk 7 0 [])])])])]), (.mk 4 0 [(.mk 6 0 []), (.mk 5 0 [(.mk 4 0 [(.mk 6 0 []), (.mk 5 0 [(.mk 1 0 []), (.mk 1 1 [])])]), (.mk 1 0 [])])]), (.mk 5 0 [(.mk 5 0 [(.mk 4 0 [(.mk 3 0 [(.mk 6 0 []), (.mk 6 0 [])]), (.mk 4 0 [(.mk 6 0 []), (.mk 5 0 [(.mk 1 1 []), (.mk 5 0 [(.mk 1 1 []), (.mk 1 0 [])])])])]), (.mk 4 0 [(.mk 6 0 []), (.mk 8 0 [(.mk 1 0 [])])])]), (.mk 1 0 [])]), (.mk 9 0 [(.mk 4 0 [(.mk 6 0 []), (.mk 6 0 [])]), (.mk 7 0 []), (.mk 4 0 [(.mk 6 0 []), (.mk 4 0 [(.mk 6 0 []), (.mk 1 1 [])])]), (.mk 5 0 [(.mk 4 0 [(.mk 6 0 []), (.mk 8 0 [(.mk 1 0 [])])]), (.mk 1 2 [])])])]
def drwsX : List (List UInt8) := [[40, 91, 78, 93, 91, 78, 93, 60, 91, 78, 93, 78, 44, 35, 49, 44, 91, 78, 93, 91, 78, 93, 43, 35, 48, 44, 35, 48, 62, 32, 43, 43, 48, 41], [40, 40, 91, 78, 93, 91, 78, 93, 60, 91, 78, 93, 78, 44, 35, 49, 44, 91, 78, 93, 91, 78, 93, 43, 35, 48, 44, 35, 48, 62, 32, 43, 43, 48, 41, 32, 43, 48, 41], [40, 91, 78, 93, 43, 35, 48, 32, 40, 91, 78, 93, 43, 43, 35, 48, 32, 48, 41, 41], [94, 124, 40, 78, 42, 78, 41, 44, 40, 91, 78, 93, 35, 48, 32, 48, 41, 44, 43, 48, 124], [95, 124, 40, 78, 42, 78, 41, 44, 48, 44, 40, 91, 78, 93, 43, 35, 48, 32, 48, 41, 124], [64, 60, 91, 78, 93, 123, 78, 44, 48, 44, 35, 48, 125, 44, 33, 48, 44, 33, 48, 62], [40, 91, 42, 48, 93, 91, 35, 48, 93, 35, 48, 32, 78, 41], [40, 91, 78, 93, 40, 35, 48, 32, 35, 48, 41, 32, 91, 78, 93, 35, 48, 41], [40, 91, 78, 93, 40, 35, 48, 32, 35, 48, 41, 32, 91, 78, 93, 40, 35, 48, 32, 35, 48, 41, 41], [60, 91, 78, 93, 42, 48, 44, 78, 44, 91, 78, 93, 91, 42, 48, 93, 40, 78, 62, 35, 49, 41, 44, 43, 43, 43, 48, 62], [91, 78, 93, 40, 91, 78, 93, 40, 35, 48, 32, 35, 49, 41, 32, 35, 48, 41], [40, 40, 91, 40, 78, 62, 78, 41, 93, 91, 78, 93, 40, 35, 49, 32, 40, 35, 49, 32, 35, 48, 41, 41, 32, 91, 78, 93, 43, 35, 48, 41, 32, 35, 48, 41], [60, 91, 78, 93, 78, 44, 48, 44, 91, 78, 93, 91, 78, 93, 35, 49, 44, 40, 91, 78, 93, 43, 35, 48, 32, 35, 50, 41, 62]]
theorem drws_0 : Good (.mk 5 0 [(.mk 4 0 [(.mk 6 0 []), (.mk 4 0 [(.mk 6 0 []), (.mk 9 0 [(.mk 4 0 [(.mk 6 0 []), (.mk 6 0 [])]), (.mk 1 1 []), (.mk 4 0 [(.mk 6 0 []), (.mk 4 0 [(.mk 6 0 []), (.mk 8 0 [(.mk 1 0 [])])])]), (.mk 1 0 [])])])]), (.mk 8 0 [(.mk 8 0 [(.mk 7 0 [])])])]) [40, 91, 78, 93, 91, 78, 93, 60, 91, 78, 93, 78, 44, 35, 49, 44, 91, 78, 93, 91, 78, 93, 43, 35, 48, 44, 35, 48, 62, 32, 43, 43, 48, 41] := ⟨Tx.cast (.rnd 29 5 32 _ _ _ _ (.inr (.inr ⟨rfl, rfl⟩)) (.lam 28 _ _ _ _ (.nat 27) (.lam 27 _ _ _ _ (.nat 26) (tx4 (.inl ⟨rfl, rfl, rfl, rfl⟩) (.lam 25 _ _ _ _ (.nat 24) (.nat 24)) (.var 25 1 49 (by decide)) (.lam 25 _ _ _ _ (.nat 24) (.lam 24 _ _ _ _ (.nat 23) (.pre 23 8 43 _ _ (.inl ⟨rfl, rfl⟩) (.var 22 0 48 (by decide))))) (.var 25 0 48 (by decide))))) (.pre 28 8 43 _ _ (.inl ⟨rfl, rfl⟩) (.pre 27 8 43 _ _ (.inl ⟨rfl, rfl⟩) (.zero 26)))) (by simp [ser]), by decide +kernel, by decide⟩
theorem drws_1 : Good (.mk 5 0 [(.mk 5 0 [(.mk 4 0 [(.mk 6 0 []), (.mk 4 0 [(.mk 6 0 []), (.mk 9 0 [(.mk 4 0 [(.mk 6 0 []), (.mk 6 0 [])]), (.mk 1 1 []), (.mk 4 0 [(.mk 6 0 []), (.mk 4 0 [(.mk 6 0 []), (.mk 8 0 [(.mk 1 0 [])])])]), (.mk 1 0 [])])])]), (.mk 8 0 [(.mk 8 0 [(.mk 7 0 [])])])]), (.mk 8 0 [(.mk 7 0 [])])]) [40, 40, 91, 78, 93, 91, 78, 93, 60, 91, 78, 93, 78, 44, 35, 49, 44, 91, 78, 93, 91, 78, 93, 43, 35, 48, 44, 35, 48, 62, 32, 43, 43, 48, 41, 32, 43, 48, 41] := ⟨Tx.cast (.rnd 29 5 32 _ _ _ _ (.inr (.inr ⟨rfl, rfl⟩)) (.rnd 28 5 32 _ _ _ _ (.inr (.inr ⟨rfl, rfl⟩)) (.lam 27 _ _ _ _ (.nat 26) (.lam 26 _ _ _ _ (.nat 25) (tx4 (.inl ⟨rfl, rfl, rfl, rfl⟩) (.lam 24 _ _ _ _ (.nat 23) (.nat 23)) (.var 24 1 49 (by decide)) (.lam 24 _ _ _ _ (.nat 23) (.lam 23 _ _ _ _ (.nat 22) (.pre 22 8 43 _ _ (.inl ⟨rfl, rfl⟩) (.var 21 0 48 (by decide))))) (.var 24 0 48 (by decide))))) (.pre 27 8 43 _ _ (.inl ⟨rfl, rfl⟩) (.pre 26 8 43 _ _ (.inl ⟨rfl, rfl⟩) (.zero 25)))) (.pre 28 8 43 _ _ (.inl ⟨rfl, rfl⟩) (.zero 27))) (by simp [ser]), by decide +kernel, by decide⟩
theorem drws_2 : Good (.mk 5 0 [(.mk 4 0 [(.mk 6 0 []), (.mk 8 0 [(.mk 1 0 [])])]), (.mk 5 0 [(.mk 4 0 [(.mk 6 0 []), (.mk 8 0 [(.mk 8 0 [(.mk 1 0 [])])])]), (.mk 7 0 [])])]) [40, 91, 78, 93, 43, 35, 48, 32, 40, 91, 78, 93, 43, 43, 35, 48, 32, 48, 41, 41] := ⟨Tx.cast (.rnd 29 5 32 _ _ _ _ (.inr (.inr ⟨rfl, rfl⟩)) (.lam 28 _ _ _ _ (.nat 27) (.pre 27 8 43 _ _ (.inl ⟨rfl, rfl⟩) (.var 26 0 48 (by decide)))) (.rnd 28 5 32 _ _ _ _ (.inr (.inr ⟨rfl, rfl⟩)) (.lam 27 _ _ _ _ (.nat 26) (.pre 26 8 43 _ _ (.inl ⟨rfl, rfl⟩) (.pre 25 8 43 _ _ (.inl ⟨rfl, rfl⟩) (.var 24 0 48 (by decide))))) (.zero 27))) (by simp [ser]), by decide +kernel, by decide⟩
theorem drws_3 : Good (.mk 15 0 [(.mk 14 0 [(.mk 13 0 [(.mk 6 0 []), (.mk 6 0 [])]), (.mk 5 0 [(.mk 4 0 [(.mk 6 0 []), (.mk 1 0 [])]), (.mk 7 0 [])]), (.mk 8 0 [(.mk 7 0 [])])])]) [94, 124, 40, 78, 42, 78, 41, 44, 40, 91, 78, 93, 35, 48, 32, 48, 41, 44, 43, 48, 124] := ⟨Tx.cast (.pre 29 15 94 _ _ (.inr (.inr (.inl ⟨rfl, rfl⟩))) (tx3 (.inr (.inr (.inl ⟨rfl, rfl, rfl, rfl⟩))) (.rnd 27 13 42 _ _ _ _ (.inr (.inl ⟨rfl, rfl⟩)) (.nat 26) (.nat 26)) (.rnd 27 5 32 _ _ _ _ (.inr (.inr ⟨rfl, rfl⟩)) (.lam 26 _ _ _ _ (.nat 25) (.var 25 0 48 (by decide))) (.zero 26)) (.pre 27 8 43 _ _ (.inl ⟨rfl, rfl⟩) (.zero 26)))) (by simp [ser]), by decide +kernel, by decide⟩
theorem drws_4 : Good (.mk 16 0 [(.mk 14 0 [(.mk 13 0 [(.mk 6 0 []), (.mk 6 0 [])]), (.mk 7 0 []), (.mk 5 0 [(.mk 4 0 [(.mk 6 0 []), (.mk 8 0 [(.mk 1 0 [])])]), (.mk 7 0 [])])])]) [95, 124, 40, 78, 42, 78, 41, 44, 48, 44, 40, 91, 78, 93, 43, 35, 48, 32, 48, 41, 124] := ⟨Tx.cast (.pre 29 16 95 _ _ (.inr (.inr (.inr ⟨rfl, rfl⟩))) (tx3 (.inr (.inr (.inl ⟨rfl, rfl, rfl, rfl⟩))) (.rnd 27 13 42 _ _ _ _ (.inr (.inl ⟨rfl, rfl⟩)) (.nat 26) (.nat 26)) (.zero 27) (.rnd 27 5 32 _ _ _ _ (.inr (.inr ⟨rfl, rfl⟩)) (.lam 26 _ _ _ _ (.nat 25) (.pre 25 8 43 _ _ (.inl ⟨rfl, rfl⟩) (.var 24 0 48 (by decide)))) (.zero 26)))) (by simp [ser]), by decide +kernel, by decide⟩
theorem drws_5 : Good (.mk 12 0 [(.mk 4 0 [(.mk 6 0 []), (.mk 10 0 [(.mk 6 0 []), (.mk 7 0 []), (.mk 1 0 [])])]), (.mk 11 0 [(.mk 7 0 [])]), (.mk 11 0 [(.mk 7 0 [])])]) [64, 60, 91, 78, 93, 123, 78, 44, 48, 44, 35, 48, 125, 44, 33, 48, 44, 33, 48, 62] := ⟨Tx.cast (tx3 (.inr (.inr (.inr ⟨rfl, rfl, rfl, rfl⟩))) (.lam 28 _ _ _ _ (.nat 27) (tx3 (.inr (.inl ⟨rfl, rfl, rfl, rfl⟩)) (.nat 26) (.zero 26) (.var 26 0 48 (by decide)))) (.pre 28 11 33 _ _ (.inr (.inl ⟨rfl, rfl⟩)) (.zero 27)) (.pre 28 11 33 _ _ (.inr (.inl ⟨rfl, rfl⟩)) (.zero 27))) (by simp [ser]), by decide +kernel, by decide⟩
theorem drws_6 : Good (.mk 5 0 [(.mk 4 0 [(.mk 2 0 []), (.mk 4 0 [(.mk 1 0 []), (.mk 1 0 [])])]), (.mk 6 0 [])]) [40, 91, 42, 48, 93, 91, 35, 48, 93, 35, 48, 32, 78, 41] := ⟨Tx.cast (.rnd 29 5 32 _ _ _ _ (.inr (.inr ⟨rfl, rfl⟩)) (.lam 28 _ _ _ _ (.sort 27 0 48 (by decide)) (.lam 27 _ _ _ _ (.var 26 0 48 (by decide)) (.var 26 0 48 (by decide)))) (.nat 28)) (by simp [ser]), by decide +kernel, by decide⟩
theorem drws_7 : Good (.mk 5 0 [(.mk 4 0 [(.mk 6 0 []), (.mk 5 0 [(.mk 1 0 []), (.mk 1 0 [])])]), (.mk 4 0 [(.mk 6 0 []), (.mk 1 0 [])])]) [40, 91, 78, 93, 40, 35, 48, 32, 35, 48, 41, 32, 91, 78, 93, 35, 48, 41] := ⟨Tx.cast (.rnd 29 5 32 _ _ _ _ (.inr (.inr ⟨rfl, rfl⟩)) (.lam 28 _ _ _ _ (.nat 27) (.rnd 27 5 32 _ _ _ _ (.inr (.inr ⟨rfl, rfl⟩)) (.var 26 0 48 (by decide)) (.var 26 0 48 (by decide)))) (.lam 28 _ _ _ _ (.nat 27) (.var 27 0 48 (by decide)))) (by simp [ser]), by decide +kernel, by decide⟩
theorem drws_8 : Good (.mk 5 0 [(.mk 4 0 [(.mk 6 0 []), (.mk 5 0 [(.mk 1 0 []), (.mk 1 0 [])])]), (.mk 4 0 [(.mk 6 0 []), (.mk 5 0 [(.mk 1 0 []), (.mk 1 0 [])])])]) [40, 91, 78, 93, 40, 35, 48, 32, 35, 48, 41, 32, 91, 78, 93, 40, 35, 48, 32, 35, 48, 41, 41] := ⟨Tx.cast (.rnd 29 5 32 _ _ _ _ (.inr (.inr ⟨rfl, rfl⟩)) (.lam 28 _ _ _ _ (.nat 27) (.rnd 27 5 32 _ _ _ _ (.inr (.inr ⟨rfl, rfl⟩)) (.var 26 0 48 (by decide)) (.var 26 0 48 (by decide)))) (.lam 28 _ _ _ _ (.nat 27) (.rnd 27 5 32 _ _ _ _ (.inr (.inr ⟨rfl, rfl⟩)) (.var 26 0 48 (by decide)) (.var 26 0 48 (by decide))))) (by simp [ser]), by decide +kernel, by decide⟩
theorem drws_9 : Good (.mk 9 0 [(.mk 4 0 [(.mk 6 0 []), (.mk 2 0 [])]), (.mk 6 0 []), (.mk 4 0 [(.mk 6 0 []), (.mk 4 0 [(.mk 2 0 []), (.mk 3 0 [(.mk 6 0 []), (.mk 1 1 [])])])]), (.mk 8 0 [(.mk 8 0 [(.mk 8 0 [(.mk 7 0 [])])])])]) [60, 91, 78, 93, 42, 48, 44, 78, 44, 91, 78, 93, 91, 42, 48, 93, 40, 78, 62, 35, 49, 41, 44, 43, 43, 43, 48, 62] := ⟨Tx.cast (tx4 (.inl ⟨rfl, rfl, rfl, rfl⟩) (.lam 28 _ _ _ _ (.nat 27) (.sort 27 0 48 (by decide))) (.nat 28) (.lam 28 _ _ _ _ (.nat 27) (.lam 27 _ _ _ _ (.sort 26 0 48 (by decide)) (.rnd 26 3 62 _ _ _ _ (.inl ⟨rfl, rfl⟩) (.nat 25) (.var 25 1 49 (by decide))))) (.pre 28 8 43 _ _ (.inl ⟨rfl, rfl⟩) (.pre 27 8 43 _ _ (.inl ⟨rfl, rfl⟩) (.pre 26 8 43 _ _ (.inl ⟨rfl, rfl⟩) (.zero 25))))) (by simp [ser]), by decide +kernel, by decide⟩
theorem drws_10 : Good (.mk 4 0 [(.mk 6 0 []), (.mk 5 0 [(.mk 4 0 [(.mk 6 0 []), (.mk 5 0 [(.mk 1 0 []), (.mk 1 1 [])])]), (.mk 1 0 [])])]) [91, 78, 93, 40, 91, 78, 93, 40, 35, 48, 32, 35, 49, 41, 32, 35, 48, 41] := ⟨Tx.cast (.lam 29 _ _ _ _ (.nat 28) (.rnd 28 5 32 _ _ _ _ (.inr (.inr ⟨rfl, rfl⟩)) (.lam 27 _ _ _ _ (.nat 26) (.rnd 26 5 32 _ _ _ _ (.inr (.inr ⟨rfl, rfl⟩)) (.var 25 0 48 (by decide)) (.var 25 1 49 (by decide)))) (.var 27 0 48 (by decide)))) (by simp [ser]), by decide +kernel, by decide⟩
theorem drws_11 : Good (.mk 5 0 [(.mk 5 0 [(.mk 4 0 [(.mk 3 0 [(.mk 6 0 []), (.mk 6 0 [])]), (.mk 4 0 [(.mk 6 0 []), (.mk 5 0 [(.mk 1 1 []), (.mk 5 0 [(.mk 1 1 []), (.mk 1 0 [])])])])]), (.mk 4 0 [(.mk 6 0 []), (.mk 8 0 [(.mk 1 0 [])])])]), (.mk 1 0 [])]) [40, 40, 91, 40, 78, 62, 78, 41, 93, 91, 78, 93, 40, 35, 49, 32, 40, 35, 49, 32, 35, 48, 41, 41, 32, 91, 78, 93, 43, 35, 48, 41, 32, 35, 48, 41] := ⟨Tx.cast (.rnd 29 5 32 _ _ _ _ (.inr (.inr ⟨rfl, rfl⟩)) (.rnd 28 5 32 _ _ _ _ (.inr (.inr ⟨rfl, rfl⟩)) (.lam 27 _ _ _ _ (.rnd 26 3 62 _ _ _ _ (.inl ⟨rfl, rfl⟩) (.nat 25) (.nat 25)) (.lam 26 _ _ _ _ (.nat 25) (.rnd 25 5 32 _ _ _ _ (.inr (.inr ⟨rfl, rfl⟩)) (.var 24 1 49 (by decide)) (.rnd 24 5 32 _ _ _ _ (.inr (.inr ⟨rfl, rfl⟩)) (.var 23 1 49 (by decide)) (.var 23 0 48 (by decide)))))) (.lam 27 _ _ _ _ (.nat 26) (.pre 26 8 43 _ _ (.inl ⟨rfl, rfl⟩) (.var 25 0 48 (by decide))))) (.var 28 0 48 (by decide))) (by simp [ser]), by decide +kernel, by decide⟩
theorem drws_12 : Good (.mk 9 0 [(.mk 4 0 [(.mk 6 0 []), (.mk 6 0 [])]), (.mk 7 0 []), (.mk 4 0 [(.mk 6 0 []), (.mk 4 0 [(.mk 6 0 []), (.mk 1 1 [])])]), (.mk 5 0 [(.mk 4 0 [(.mk 6 0 []), (.mk 8 0 [(.mk 1 0 [])])]), (.mk 1 2 [])])]) [60, 91, 78, 93, 78, 44, 48, 44, 91, 78, 93, 91, 78, 93, 35, 49, 44, 40, 91, 78, 93, 43, 35, 48, 32, 35, 50, 41, 62] := ⟨Tx.cast (tx4 (.inl ⟨rfl, rfl, rfl, rfl⟩) (.lam 28 _ _ _ _ (.nat 27) (.nat 27)) (.zero 28) (.lam 28 _ _ _ _ (.nat 27) (.lam 27 _ _ _ _ (.nat 26) (.var 26 1 49 (by decide)))) (.rnd 28 5 32 _ _ _ _ (.inr (.inr ⟨rfl, rfl⟩)) (.lam 27 _ _ _ _ (.nat 26) (.pre 26 8 43 _ _ (.inl ⟨rfl, rfl⟩) (.var 25 0 48 (by decide)))) (.var 27 2 50 (by decide)))) (by simp [ser]), by decide +kernel, by decide⟩
theorem drws_good : GoodL drws drwsX := ⟨drws_0, drws_1, drws_2, drws_3, drws_4, drws_5, drws_6, drws_7, drws_8, drws_9, drws_10, drws_11, drws_12, trivial⟩
/-- the terms prs0 -/
def prs0 : List Tm := [(.mk 4 0 [(.mk 2 0 []), (.mk 4 0 [(.mk 1 0 []), (.mk 1 0 [])])]), (.mk 4 0 [(.mk 6 0 []), (.mk 11 0 [(.mk 1 0 [])])]), (.mk 4 0 [(.mk 6 0 []), (.mk 4 0 [(.mk 6 0 []), (.mk 9 0 [(.mk 4 0 [(.mk 6 0 []), (.mk 6 0 [])]), (.mk 1 1 []), (.mk 4 0 [(.mk 6 0 []), (.mk 4 0 [(.mk 6 0 []), (.mk 8 0 [(.mk 1 0 [])])])]), (.mk 1 0 [])])])]), (.mk 3 0 [(.mk 6 0 []), (.mk 2 0 [])]), (.mk 5 0 [(.mk 4 0 [(.mk 2 0 []), (.mk 4 0 [(.mk 1 0 []), (.mk 1 0 [])])]), (.mk 6 0 [])]), (.mk 4 0 [(.mk 13 0 [(.mk 6 0 []), (.mk 6 0 [])]), (.mk 14 0 [(.mk 13 0 [(.mk 6 0 []), (.mk 6 0 [])]), (.mk 16 0 [(.mk 1 0 [])]), (.mk 15 0 [(.mk 1 0 [])])])]), (.mk 4 0 [(.mk 6 0 []), (.mk 14 0 [(.mk 13 0 [(.mk 6 0 []), (.mk 10 0 [(.mk 6 0 []), (.mk 1 0 []), (.mk 1 1 [])])]), (.mk 1 0 []), (.mk 11 0 [(.mk 1 0 [])])])]), (.mk 4 0 [(.mk 6 0 []), (.mk 4 0 [(.mk 6 0 []), (.mk 4 0 [(.mk 10 0 [(.mk 6 0 []), (.mk 1 1 []), (.mk 1 0 [])]), (.mk 12 0 [(.mk 4 0 [(.mk 6 0 []), (.mk 10 0 [(.mk 6 0 []), (.mk 1 0 []), (.mk 1 3 [])])]), (.mk 1 0 []), (.mk 11 0 [(.mk 1 2 [])])])])])]), (.mk 9 0 [(.mk 4 0 [(.mk 6 0 []), (.mk 2 0 [])]), (.mk 6 0 []), (.mk 4 0 [(.mk 6 0 []), (.mk 4 0 [(.mk 2 0 []), (.mk 3 0 [(.mk 6 0 []), (.mk 1 1 [])])])]), (.mk 8 0 [(.mk 8 0 [(.mk 7 0 [])])])]), (.mk 3 0 [(.mk 2 0 []), (.mk 3 0 [(.mk 1 0 []), (.mk 1 1 [])])]), (.mk 4 0 [(.mk 2 0 []), (.mk 4 0 [(.mk 3 0 [(.mk 1 0 []), (.mk 1 1 [])]), (.mk 1 0 [])])]), (.mk 2 2 [])]
def prs0X : List (List UInt8) := [[91, 42, 48, 93, 91, 35, 48, 93, 35, 48], [91, 78, 93, 33, 35, 48], [91, 78, 93, 91, 78, 93, 60, 91, 78, 93, 78, 44, 35, 49, 44, 91, 78, 93, 91, 78, 93, 43, 35, 48, 44, 35, 48, 62], [40, 78, 62, 42, 48, 41], [40, 91, 42, 48, 93, 91, 35, 48, 93, 35, 48, 32, 78, 41], [91, 40, 78, 42, 78, 41, 93, 124, 40, 78, 42, 78, 41, 44, 95, 35, 48, 44, 94, 35, 48, 124], [91, 78, 93, 124, 40, 78, 42, 123, 78, 44, 35, 48, 44, 35, 49, 125, 41, 44, 35, 48, 44, 33, 35, 48, 124], [91, 78, 93, 91, 78, 93, 91, 123, 78, 44, 35, 49, 44, 35, 48, 125, 93, 64, 60, 91, 78, 93, 123, 78, 44, 35, 48, 44, 35, 51, 125, 44, 35, 48, 44, 33, 35, 50, 62], [60, 91, 78, 93, 42, 48, 44, 78, 44, 91, 78, 93, 91, 42, 48, 93, 40, 78, 62, 35, 49, 41, 44, 43, 43, 48, 62], [40, 42, 48, 62, 40, 35, 48, 62, 35, 49, 41, 41], [91, 42, 48, 93, 91, 40, 35, 48, 62, 35, 49, 41, 93, 35, 48], [42, 50]]
theorem prs0_0 : Good (.mk 4 0 [(.mk 2 0 []), (.mk 4 0 [(.mk 1 0 []), (.mk 1 0 [])])]) [91, 42, 48, 93, 91, 35, 48, 93, 35, 48] := ⟨Tx.cast (.lam 29 _ _ _ _ (.sort 28 0 48 (by decide)) (.lam 28 _ _ _ _ (.var 27 0 48 (by decide)) (.var 27 0 48 (by decide)))) (by simp [ser]), by decide +kernel, by decide⟩
theorem prs0_1 : Good (.mk 4 0 [(.mk 6 0 []), (.mk 11 0 [(.mk 1 0 [])])]) [91, 78, 93, 33, 35, 48] := ⟨Tx.cast (.lam 29 _ _ _ _ (.nat 28) (.pre 28 11 33 _ _ (.inr (.inl ⟨rfl, rfl⟩)) (.var 27 0 48 (by decide)))) (by simp [ser]), by decide +kernel, by decide⟩
theorem prs0_2 : Good (.mk 4 0 [(.mk 6 0 []), (.mk 4 0 [(.mk 6 0 []), (.mk 9 0 [(.mk 4 0 [(.mk 6 0 []), (.mk 6 0 [])]), (.mk 1 1 []), (.mk 4 0 [(.mk 6 0 []), (.mk 4 0 [(.mk 6 0 []), (.mk 8 0 [(.mk 1 0 [])])])]), (.mk 1 0 [])])])]) [91, 78, 93, 91, 78, 93, 60, 91, 78, 93, 78, 44, 35, 49, 44, 91, 78, 93, 91, 78, 93, 43, 35, 48, 44, 35, 48, 62] := ⟨Tx.cast (.lam 29 _ _ _ _ (.nat 28) (.lam 28 _ _ _ _ (.nat 27) (tx4 (.inl ⟨rfl, rfl, rfl, rfl⟩) (.lam 26 _ _ _ _ (.nat 25) (.nat 25)) (.var 26 1 49 (by decide)) (.lam 26 _ _ _ _ (.nat 25) (.lam 25 _ _ _ _ (.nat 24) (.pre 24 8 43 _ _ (.inl ⟨rfl, rfl⟩) (.var 23 0 48 (by decide))))) (.var 26 0 48 (by decide))))) (by simp [ser]), by decide +kernel, by decide⟩
theorem prs0_3 : Good (.mk 3 0 [(.mk 6 0 []), (.mk 2 0 [])]) [40, 78, 62, 42, 48, 41] := ⟨Tx.cast (.rnd 29 3 62 _ _ _ _ (.inl ⟨rfl, rfl⟩) (.nat 28) (.sort 28 0 48 (by decide))) (by simp [ser]), by decide +kernel, by decide⟩
theorem prs0_4 : Good (.mk 5 0 [(.mk 4 0 [(.mk 2 0 []), (.mk 4 0 [(.mk 1 0 []), (.mk 1 0 [])])]), (.mk 6 0 [])]) [40, 91, 42, 48, 93, 91, 35, 48, 93, 35, 48, 32, 78, 41] := ⟨Tx.cast (.rnd 29 5 32 _ _ _ _ (.inr (.inr ⟨rfl, rfl⟩)) (.lam 28 _ _ _ _ (.sort 27 0 48 (by decide)) (.lam 27 _ _ _ _ (.var 26 0 48 (by decide)) (.var 26 0 48 (by decide)))) (.nat 28)) (by simp [ser]), by decide +kernel, by decide⟩
theorem prs0_5 : Good (.mk 4 0 [(.mk 13 0 [(.mk 6 0 []), (.mk 6 0 [])]), (.mk 14 0 [(.mk 13 0 [(.mk 6 0 []), (.mk 6 0 [])]), (.mk 16 0 [(.mk 1 0 [])]), (.mk 15 0 [(.mk 1 0 [])])])]) [91, 40, 78, 42, 78, 41, 93, 124, 40, 78, 42, 78, 41, 44, 95, 35, 48, 44, 94, 35, 48, 124] := ⟨Tx.cast (.lam 29 _ _ _ _ (.rnd 28 13 42 _ _ _ _ (.inr (.inl ⟨rfl, rfl⟩)) (.nat 27) (.nat 27)) (tx3 (.inr (.inr (.inl ⟨rfl, rfl, rfl, rfl⟩))) (.rnd 27 13 42 _ _ _ _ (.inr (.inl ⟨rfl, rfl⟩)) (.nat 26) (.nat 26)) (.pre 27 16 95 _ _ (.inr (.inr (.inr ⟨rfl, rfl⟩))) (.var 26 0 48 (by decide))) (.pre 27 15 94 _ _ (.inr (.inr (.inl ⟨rfl, rfl⟩))) (.var 26 0 48 (by decide))))) (by simp [ser]), by decide +kernel, by decide⟩
theorem prs0_6 : Good (.mk 4 0 [(.mk 6 0 []), (.mk 14 0 [(.mk 13 0 [(.mk 6 0 []), (.mk 10 0 [(.mk 6 0 []), (.mk 1 0 []), (.mk 1 1 [])])]), (.mk 1 0 []), (.mk 11 0 [(.mk 1 0 [])])])]) [91, 78, 93, 124, 40, 78, 42, 123, 78, 44, 35, 48, 44, 35, 49, 125, 41, 44, 35, 48, 44, 33, 35, 48, 124] := ⟨Tx.cast (.lam 29 _ _ _ _ (.nat 28) (tx3 (.inr (.inr (.inl ⟨rfl, rfl, rfl, rfl⟩))) (.rnd 27 13 42 _ _ _ _ (.inr (.inl ⟨rfl, rfl⟩)) (.nat 26) (tx3 (.inr (.inl ⟨rfl, rfl, rfl, rfl⟩)) (.nat 25) (.var 25 0 48 (by decide)) (.var 25 1 49 (by decide)))) (.var 27 0 48 (by decide)) (.pre 27 11 33 _ _ (.inr (.inl ⟨rfl, rfl⟩)) (.var 26 0 48 (by decide))))) (by simp [ser]), by decide +kernel, by decide⟩
theorem prs0_7 : Good (.mk 4 0 [(.mk 6 0 []), (.mk 4 0 [(.mk 6 0 []), (.mk 4 0 [(.mk 10 0 [(.mk 6 0 []), (.mk 1 1 []), (.mk 1 0 [])]), (.mk 12 0 [(.mk 4 0 [(.mk 6 0 []), (.mk 10 0 [(.mk 6 0 []), (.mk 1 0 []), (.mk 1 3 [])])]), (.mk 1 0 []), (.mk 11 0 [(.mk 1 2 [])])])])])]) [91, 78, 93, 91, 78, 93, 91, 123, 78, 44, 35, 49, 44, 35, 48, 125, 93, 64, 60, 91, 78, 93, 123, 78, 44, 35, 48, 44, 35, 51, 125, 44, 35, 48, 44, 33, 35, 50, 62] := ⟨Tx.cast (.lam 29 _ _ _ _ (.nat 28) (.lam 28 _ _ _ _ (.nat 27) (.lam 27 _ _ _ _ (tx3 (.inr (.inl ⟨rfl, rfl, rfl, rfl⟩)) (.nat 25) (.var 25 1 49 (by decide)) (.var 25 0 48 (by decide))) (tx3 (.inr (.inr (.inr ⟨rfl, rfl, rfl, rfl⟩))) (.lam 25 _ _ _ _ (.nat 24) (tx3 (.inr (.inl ⟨rfl, rfl, rfl, rfl⟩)) (.nat 23) (.var 23 0 48 (by decide)) (.var 23 3 51 (by decide)))) (.var 25 0 48 (by decide)) (.pre 25 11 33 _ _ (.inr (.inl ⟨rfl, rfl⟩)) (.var 24 2 50 (by decide))))))) (by simp [ser]), by decide +kernel, by decide⟩
theorem prs0_8 : Good (.mk 9 0 [(.mk 4 0 [(.mk 6 0 []), (.mk 2 0 [])]), (.mk 6 0 []), (.mk 4 0 [(.mk 6 0 []), (.mk 4 0 [(.mk 2 0 []), (.mk 3 0 [(.mk 6 0 []), (.mk 1 1 [])])])]), (.mk 8 0 [(.mk 8 0 [(.mk 7 0 [])])])]) [60, 91, 78, 93, 42, 48, 44, 78, 44, 91, 78, 93, 91, 42, 48, 93, 40, 78, 62, 35, 49, 41, 44, 43, 43, 48, 62] := ⟨Tx.cast (tx4 (.inl ⟨rfl, rfl, rfl, rfl⟩) (.lam 28 _ _ _ _ (.nat 27) (.sort 27 0 48 (by decide))) (.nat 28) (.lam 28 _ _ _ _ (.nat 27) (.lam 27 _ _ _ _ (.sort 26 0 48 (by decide)) (.rnd 26 3 62 _ _ _ _ (.inl ⟨rfl, rfl⟩) (.nat 25) (.var 25 1 49 (by decide))))) (.pre 28 8 43 _ _ (.inl ⟨rfl, rfl⟩) (.pre 27 8 43 _ _ (.inl ⟨rfl, rfl⟩) (.zero 26)))) (by simp [ser]), by decide +kernel, by decide⟩
theorem prs0_9 : Good (.mk 3 0 [(.mk 2 0 []), (.mk 3 0 [(.mk 1 0 []), (.mk 1 1 [])])]) [40, 42, 48, 62, 40, 35, 48, 62, 35, 49, 41, 41] := ⟨Tx.cast (.rnd 29 3 62 _ _ _ _ (.inl ⟨rfl, rfl⟩) (.sort 28 0 48 (by decide)) (.rnd 28 3 62 _ _ _ _ (.inl ⟨rfl, rfl⟩) (.var 27 0 48 (by decide)) (.var 27 1 49 (by decide)))) (by simp [ser]), by decide +kernel, by decide⟩
theorem prs0_10 : Good (.mk 4 0 [(.mk 2 0 []), (.mk 4 0 [(.mk 3 0 [(.mk 1 0 []), (.mk 1 1 [])]), (.mk 1 0 [])])]) [91, 42, 48, 93, 91, 40, 35, 48, 62, 35, 49, 41, 93, 35, 48] := ⟨Tx.cast (.lam 29 _ _ _ _ (.sort 28 0 48 (by decide)) (.lam 28 _ _ _ _ (.rnd 27 3 62 _ _ _ _ (.inl ⟨rfl, rfl⟩) (.var 26 0 48 (by decide)) (.var 26 1 49 (by decide))) (.var 27 0 48 (by decide)))) (by simp [ser]), by decide +kernel, by decide⟩
theorem prs0_11 : Good (.mk 2 2 []) [42, 50] := ⟨Tx.cast (.sort 29 2 50 (by decide)) (by simp [ser]), by decide +kernel, by decide⟩
theorem prs0_good : GoodL prs0 prs0X := ⟨prs0_0, prs0_1, prs0_2, prs0_3, prs0_4, prs0_5, prs0_6, prs0_7, prs0_8, prs0_9, prs0_10, prs0_11, trivial⟩
/-- the terms ctx1 -/
def ctx1 : List Tm := [(.mk 2 0 []), (.mk 1 0 []), (.mk 3 0 [(.mk 1 1 []), (.mk 1 2 [])])]
def ctx1X : List (List UInt8) := [[42, 48], [35, 48], [40, 35, 49, 62, 35, 50, 41]]
theorem ctx1_0 : Good (.mk 2 0 []) [42, 48] := ⟨Tx.cast (.sort 29 0 48 (by decide)) (by simp [ser]), by decide +kernel, by decide⟩
theorem ctx1_1 : Good (.mk 1 0 []) [35, 48] := ⟨Tx.cast (.var 29 0 48 (by decide)) (by simp [ser]), by decide +kernel, by decide⟩
theorem ctx1_2 : Good (.mk 3 0 [(.mk 1 1 []), (.mk 1 2 [])]) [40, 35, 49, 62, 35, 50, 41] := ⟨Tx.cast (.rnd 29 3 62 _ _ _ _ (.inl ⟨rfl, rfl⟩) (.var 28 1 49 (by decide)) (.var 28 2 50 (by decide))) (by simp [ser]), by decide +kernel, by decide⟩
theorem ctx1_good : GoodL ctx1 ctx1X := ⟨ctx1_0, ctx1_1, ctx1_2, trivial⟩
/-- the terms prs1 -/
def prs1 : List Tm := [(.mk 5 0 [(.mk 1 0 []), (.mk 1 1 [])]), (.mk 11 0 [(.mk 1 1 [])]), (.mk 10 0 [(.mk 1 2 []), (.mk 1 1 []), (.mk 5 0 [(.mk 1 0 []), (.mk 1 1 [])])]), (.mk 4 0 [(.mk 1 2 []), (.mk 1 1 [])]), (.mk 14 0 [(.mk 13 0 [(.mk 1 2 []), (.mk 1 3 [])]), (.mk 1 1 []), (.mk 5 0 [(.mk 1 0 []), (.mk 1 1 [])])]), (.mk 4 0 [(.mk 10 0 [(.mk 1 2 []), (.mk 1 1 []), (.mk 5 0 [(.mk 1 0 []), (.mk 1 1 [])])]), (.mk 12 0 [(.mk 4 0 [(.mk 1 3 []), (.mk 1 4 [])]), (.mk 1 0 []), (.mk 1 2 [])])])]
def prs1X : List (List UInt8) := [[40, 35, 48, 32, 35, 49, 41], [33, 35, 49], [123, 35, 50, 44, 35, 49, 44, 40, 35, 48, 32, 35, 49, 41, 125], [91, 35, 50, 93, 35, 49], [124, 40, 35, 50, 42, 35, 51, 41, 44, 35, 49, 44, 40, 35, 48, 32, 35, 49, 41, 124], [91, 123, 35, 50, 44, 35, 49, 44, 40, 35, 48, 32, 35, 49, 41, 125, 93, 64, 60, 91, 35, 51, 93, 35, 52, 44, 35, 48, 44, 35, 50, 62]]
theorem prs1_0 : Good (.mk 5 0 [(.mk 1 0 []), (.mk 1 1 [])]) [40, 35, 48, 32, 35, 49, 41] := ⟨Tx.cast (.rnd 29 5 32 _ _ _ _ (.inr (.inr ⟨rfl, rfl⟩)) (.var 28 0 48 (by decide)) (.var 28 1 49 (by decide))) (by simp [ser]), by decide +kernel, by decide⟩
theorem prs1_1 : Good (.mk 11 0 [(.mk 1 1 [])]) [33, 35, 49] := ⟨Tx.cast (.pre 29 11 33 _ _ (.inr (.inl ⟨rfl, rfl⟩)) (.var 28 1 49 (by decide))) (by simp [ser]), by decide +kernel, by decide⟩
theorem prs1_2 : Good (.mk 10 0 [(.mk 1 2 []), (.mk 1 1 []), (.mk 5 0 [(.mk 1 0 []), (.mk 1 1 [])])]) [123, 35, 50, 44, 35, 49, 44, 40, 35, 48, 32, 35, 49, 41, 125] := ⟨Tx.cast (tx3 (.inr (.inl ⟨rfl, rfl, rfl, rfl⟩)) (.var 28 2 50 (by decide)) (.var 28 1 49 (by decide)) (.rnd 28 5 32 _ _ _ _ (.inr (.inr ⟨rfl, rfl⟩)) (.var 27 0 48 (by decide)) (.var 27 1 49 (by decide)))) (by simp [ser]), by decide +kernel, by decide⟩
theorem prs1_3 : Good (.mk 4 0 [(.mk 1 2 []), (.mk 1 1 [])]) [91, 35, 50, 93, 35, 49] := ⟨Tx.cast (.lam 29 _ _ _ _ (.var 28 2 50 (by decide)) (.var 28 1 49 (by decide))) (by simp [ser]), by decide +kernel, by decide⟩
theorem prs1_4 : Good (.mk 14 0 [(.mk 13 0 [(.mk 1 2 []), (.mk 1 3 [])]), (.mk 1 1 []), (.mk 5 0 [(.mk 1 0 []), (.mk 1 1 [])])]) [124, 40, 35, 50, 42, 35, 51, 41, 44, 35, 49, 44, 40, 35, 48, 32, 35, 49, 41, 124] := ⟨Tx.cast (tx3 (.inr (.inr (.inl ⟨rfl, rfl, rfl, rfl⟩))) (.rnd 28 13 42 _ _ _ _ (.inr (.inl ⟨rfl, rfl⟩)) (.var 27 2 50 (by decide)) (.var 27 3 51 (by decide))) (.var 28 1 49 (by decide)) (.rnd 28 5 32 _ _ _ _ (.inr (.inr ⟨rfl, rfl⟩)) (.var 27 0 48 (by decide)) (.var 27 1 49 (by decide)))) (by simp [ser]), by decide +kernel, by decide⟩
theorem prs1_5 : Good (.mk 4 0 [(.mk 10 0 [(.mk 1 2 []), (.mk 1 1 []), (.mk 5 0 [(.mk 1 0 []), (.mk 1 1 [])])]), (.mk 12 0 [(.mk 4 0 [(.mk 1 3 []), (.mk 1 4 [])]), (.mk 1 0 []), (.mk 1 2 [])])]) [91, 123, 35, 50, 44, 35, 49, 44, 40, 35, 48, 32, 35, 49, 41, 125, 93, 64, 60, 91, 35, 51, 93, 35, 52, 44, 35, 48, 44, 35, 50, 62] := ⟨Tx.cast (.lam 29 _ _ _ _ (tx3 (.inr (.inl ⟨rfl, rfl, rfl, rfl⟩)) (.var 27 2 50 (by decide)) (.var 27 1 49 (by decide)) (.rnd 27 5 32 _ _ _ _ (.inr (.inr ⟨rfl, rfl⟩)) (.var 26 0 48 (by decide)) (.var 26 1 49 (by decide)))) (tx3 (.inr (.inr (.inr ⟨rfl, rfl, rfl, rfl⟩))) (.lam 27 _ _ _ _ (.var 26 3 51 (by decide)) (.var 26 4 52 (by decide))) (.var 27 0 48 (by decide)) (.var 27 2 50 (by decide)))) (by simp [ser]), by decide +kernel, by decide⟩
theorem prs1_good : GoodL prs1 prs1X := ⟨prs1_0, prs1_1, prs1_2, prs1_3, prs1_4, prs1_5, trivial⟩
/-- the terms ctx2 -/
def ctx2 : List Tm := [(.mk 6 0 []), (.mk 10 0 [(.mk 6 0 []), (.mk 1 0 []), (.mk 8 0 [(.mk 7 0 [])])])]
def ctx2X : List (List UInt8) := [[78], [123, 78, 44, 35, 48, 44, 43, 48, 125]]
theorem ctx2_0 : Good (.mk 6 0 []) [78] := ⟨Tx.cast (.nat 29) (by simp [ser]), by decide +kernel, by decide⟩
theorem ctx2_1 : Good (.mk 10 0 [(.mk 6 0 []), (.mk 1 0 []), (.mk 8 0 [(.mk 7 0 [])])]) [123, 78, 44, 35, 48, 44, 43, 48, 125] := ⟨Tx.cast (tx3 (.inr (.inl ⟨rfl, rfl, rfl, rfl⟩)) (.nat 28) (.var 28 0 48 (by decide)) (.pre 28 8 43 _ _ (.inl ⟨rfl, rfl⟩) (.zero 27))) (by simp [ser]), by decide +kernel, by decide⟩
theorem ctx2_good : GoodL ctx2 ctx2X := ⟨ctx2_0, ctx2_1, trivial⟩
/-- the terms prs2 -/
def prs2 : List Tm := [(.mk 1 0 []), (.mk 12 0 [(.mk 4 0 [(.mk 6 0 []), (.mk 10 0 [(.mk 6 0 []), (.mk 8 0 [(.mk 1 2 [])]), (.mk 8 0 [(.mk 1 0 [])])])]), (.mk 1 0 []), (.mk 11 0 [(.mk 8 0 [(.mk 1 1 [])])])]), (.mk 8 0 [(.mk 1 1 [])]), (.mk 12 0 [(.mk 4 0 [(.mk 6 0 []), (.mk 6 0 [])]), (.mk 1 0 []), (.mk 1 1 [])]), (.mk 9 0 [(.mk 4 0 [(.mk 6 0 []), (.mk 6 0 [])]), (.mk 7 0 []), (.mk 4 0 [(.mk 6 0 []), (.mk 4 0 [(.mk 6 0 []), (.mk 1 1 [])])]), (.mk 1 1 [])])]
def prs2X : List (List UInt8) := [[35, 48], [64, 60, 91, 78, 93, 123, 78, 44, 43, 35, 50, 44, 43, 35, 48, 125, 44, 35, 48, 44, 33, 43, 35, 49, 62], [43, 35, 49], [64, 60, 91, 78, 93, 78, 44, 35, 48, 44, 35, 49, 62], [60, 91, 78, 93, 78, 44, 48, 44, 91, 78, 93, 91, 78, 93, 35, 49, 44, 35, 49, 62]]
theorem prs2_0 : Good (.mk 1 0 []) [35, 48] := ⟨Tx.cast (.var 29 0 48 (by decide)) (by simp [ser]), by decide +kernel, by decide⟩
theorem prs2_1 : Good (.mk 12 0 [(.mk 4 0 [(.mk 6 0 []), (.mk 10 0 [(.mk 6 0 []), (.mk 8 0 [(.mk 1 2 [])]), (.mk 8 0 [(.mk 1 0 [])])])]), (.mk 1 0 []), (.mk 11 0 [(.mk 8 0 [(.mk 1 1 [])])])]) [64, 60, 91, 78, 93, 123, 78, 44, 43, 35, 50, 44, 43, 35, 48, 125, 44, 35, 48, 44, 33, 43, 35, 49, 62] := ⟨Tx.cast (tx3 (.inr (.inr (.inr ⟨rfl, rfl, rfl, rfl⟩))) (.lam 28 _ _ _ _ (.nat 27) (tx3 (.inr (.inl ⟨rfl, rfl, rfl, rfl⟩)) (.nat 26) (.pre 26 8 43 _ _ (.inl ⟨rfl, rfl⟩) (.var 25 2 50 (by decide))) (.pre 26 8 43 _ _ (.inl ⟨rfl, rfl⟩) (.var 25 0 48 (by decide))))) (.var 28 0 48 (by decide)) (.pre 28 11 33 _ _ (.inr (.inl ⟨rfl, rfl⟩)) (.pre 27 8 43 _ _ (.inl ⟨rfl, rfl⟩) (.var 26 1 49 (by decide))))) (by simp [ser]), by decide +kernel, by decide⟩
theorem prs2_2 : Good (.mk 8 0 [(.mk 1 1 [])]) [43, 35, 49] := ⟨Tx.cast (.pre 29 8 43 _ _ (.inl ⟨rfl, rfl⟩) (.var 28 1 49 (by decide))) (by simp [ser]), by decide +kernel, by decide⟩
theorem prs2_3 : Good (.mk 12 0 [(.mk 4 0 [(.mk 6 0 []), (.mk 6 0 [])]), (.mk 1 0 []), (.mk 1 1 [])]) [64, 60, 91, 78, 93, 78, 44, 35, 48, 44, 35, 49, 62] := ⟨Tx.cast (tx3 (.inr (.inr (.inr ⟨rfl, rfl, rfl, rfl⟩))) (.lam 28 _ _ _ _ (.nat 27) (.nat 27)) (.var 28 0 48 (by decide)) (.var 28 1 49 (by decide))) (by simp [ser]), by decide +kernel, by decide⟩
theorem prs2_4 : Good (.mk 9 0 [(.mk 4 0 [(.mk 6 0 []), (.mk 6 0 [])]), (.mk 7 0 []), (.mk 4 0 [(.mk 6 0 []), (.mk 4 0 [(.mk 6 0 []), (.mk 1 1 [])])]), (.mk 1 1 [])]) [60, 91, 78, 93, 78, 44, 48, 44, 91, 78, 93, 91, 78, 93, 35, 49, 44, 35, 49, 62] := ⟨Tx.cast (tx4 (.inl ⟨rfl, rfl, rfl, rfl⟩) (.lam 28 _ _ _ _ (.nat 27) (.nat 27)) (.zero 28) (.lam 28 _ _ _ _ (.nat 27) (.lam 27 _ _ _ _ (.nat 26) (.var 26 1 49 (by decide)))) (.var 28 1 49 (by decide))) (by simp [ser]), by decide +kernel, by decide⟩
theorem prs2_good : GoodL prs2 prs2X := ⟨prs2_0, prs2_1, prs2_2, prs2_3, prs2_4, trivial⟩
/-- the terms ctx3 -/
def ctx3 : List Tm := [(.mk 3 0 [(.mk 6 0 []), (.mk 2 0 [])]), (.mk 3 0 [(.mk 6 0 []), (.mk 5 0 [(.mk 1 1 []), (.mk 1 0 [])])])]
def ctx3X : List (List UInt8) := [[40, 78, 62, 42, 48, 41], [40, 78, 62, 40, 35, 49, 32, 35, 48, 41, 41]]
theorem ctx3_0 : Good (.mk 3 0 [(.mk 6 0 []), (.mk 2 0 [])]) [40, 78, 62, 42, 48, 41] := ⟨Tx.cast (.rnd 29 3 62 _ _ _ _ (.inl ⟨rfl, rfl⟩) (.nat 28) (.sort 28 0 48 (by decide))) (by simp [ser]), by decide +kernel, by decide⟩
theorem ctx3_1 : Good (.mk 3 0 [(.mk 6 0 []), (.mk 5 0 [(.mk 1 1 []), (.mk 1 0 [])])]) [40, 78, 62, 40, 35, 49, 32, 35, 48, 41, 41] := ⟨Tx.cast (.rnd 29 3 62 _ _ _ _ (.inl ⟨rfl, rfl⟩) (.nat 28) (.rnd 28 5 32 _ _ _ _ (.inr (.inr ⟨rfl, rfl⟩)) (.var 27 1 49 (by decide)) (.var 27 0 48 (by decide)))) (by simp [ser]), by decide +kernel, by decide⟩
theorem ctx3_good : GoodL ctx3 ctx3X := ⟨ctx3_0, ctx3_1, trivial⟩
/-- the terms prs3 -/
def prs3 : List Tm := [(.mk 5 0 [(.mk 1 0 []), (.mk 7 0 [])]), (.mk 4 0 [(.mk 6 0 []), (.mk 5 0 [(.mk 1 1 []), (.mk 1 0 [])])]), (.mk 5 0 [(.mk 1 1 []), (.mk 8 0 [(.mk 8 0 [(.mk 7 0 [])])])]), (.mk 4 0 [(.mk 6 0 []), (.mk 4 0 [(.mk 10 0 [(.mk 6 0 []), (.mk 1 0 []), (.mk 7 0 [])]), (.mk 12 0 [(.mk 1 3 []), (.mk 1 0 []), (.mk 5 0 [(.mk 1 2 []), (.mk 1 1 [])])])])])]
def prs3X : List (List UInt8) := [[40, 35, 48, 32, 48, 41], [91, 78, 93, 40, 35, 49, 32, 35, 48, 41], [40, 35, 49, 32, 43, 43, 48, 41], [91, 78, 93, 91, 123, 78, 44, 35, 48, 44, 48, 125, 93, 64, 60, 35, 51, 44, 35, 48, 44, 40, 35, 50, 32, 35, 49, 41, 62]]
theorem prs3_0 : Good (.mk 5 0 [(.mk 1 0 []), (.mk 7 0 [])]) [40, 35, 48, 32, 48, 41] := ⟨Tx.cast (.rnd 29 5 32 _ _ _ _ (.inr (.inr ⟨rfl, rfl⟩)) (.var 28 0 48 (by decide)) (.zero 28)) (by simp [ser]), by decide +kernel, by decide⟩
theorem prs3_1 : Good (.mk 4 0 [(.mk 6 0 []), (.mk 5 0 [(.mk 1 1 []), (.mk 1 0 [])])]) [91, 78, 93, 40, 35, 49, 32, 35, 48, 41] := ⟨Tx.cast (.lam 29 _ _ _ _ (.nat 28) (.rnd 28 5 32 _ _ _ _ (.inr (.inr ⟨rfl, rfl⟩)) (.var 27 1 49 (by decide)) (.var 27 0 48 (by decide)))) (by simp [ser]), by decide +kernel, by decide⟩
theorem prs3_2 : Good (.mk 5 0 [(.mk 1 1 []), (.mk 8 0 [(.mk 8 0 [(.mk 7 0 [])])])]) [40, 35, 49, 32, 43, 43, 48, 41] := ⟨Tx.cast (.rnd 29 5 32 _ _ _ _ (.inr (.inr ⟨rfl, rfl⟩)) (.var 28 1 49 (by decide)) (.pre 28 8 43 _ _ (.inl ⟨rfl, rfl⟩) (.pre 27 8 43 _ _ (.inl ⟨rfl, rfl⟩) (.zero 26)))) (by simp [ser]), by decide +kernel, by decide⟩
theorem prs3_3 : Good (.mk 4 0 [(.mk 6 0 []), (.mk 4 0 [(.mk 10 0 [(.mk 6 0 []), (.mk 1 0 []), (.mk 7 0 [])]), (.mk 12 0 [(.mk 1 3 []), (.mk 1 0 []), (.mk 5 0 [(.mk 1 2 []), (.mk 1 1 [])])])])]) [91, 78, 93, 91, 123, 78, 44, 35, 48, 44, 48, 125, 93, 64, 60, 35, 51, 44, 35, 48, 44, 40, 35, 50, 32, 35, 49, 41, 62] := ⟨Tx.cast (.lam 29 _ _ _ _ (.nat 28) (.lam 28 _ _ _ _ (tx3 (.inr (.inl ⟨rfl, rfl, rfl, rfl⟩)) (.nat 26) (.var 26 0 48 (by decide)) (.zero 26)) (tx3 (.inr (.inr (.inr ⟨rfl, rfl, rfl, rfl⟩))) (.var 26 3 51 (by decide)) (.var 26 0 48 (by decide)) (.rnd 26 5 32 _ _ _ _ (.inr (.inr ⟨rfl, rfl⟩)) (.var 25 2 50 (by decide)) (.var 25 1 49 (by decide)))))) (by simp [ser]), by decide +kernel, by decide⟩
theorem prs3_good : GoodL prs3 prs3X := ⟨prs3_0, prs3_1, prs3_2, prs3_3, trivial⟩
end Go.Proofs.YtjpgdfndlmipcaaDoor

namespace Go.Proofs.YtjpgdfndlmipcaaDoor
open Go.RowKit
set_option linter.unusedSimpArgs false
set_option linter.unusedVariables false

set_option maxHeartbeats 2000000 in
set_option maxRecDepth 100000 in
theorem of_any (xs : List (List UInt8)) (B r p g : Nat) (w : World) (hx : 0 < xs.length) (hx2 : xs.length ≤ 1000) (hp : p ≤ 1000000000) (hB : B ≤ w.heap.size) (hr : Rdr B w r p) (hL : Blk w g (strs xs)) (hg : r ≠ g) :
    Calls Tryd.prog 39 #[.pointer (some ⟨r, 0, none⟩), .slice (some ⟨g, 0, none⟩) xs.length xs.length] w fun e w' => ∃ (m : Nat) (h : m < xs.length), e = .returned (.string (byt xs[m])) ∧ Rdr B w' r (p + 1) ∧ w.grownBy w' (some r) := by
  go_enter Tryd.func39, Tryd.ntmps39
  go_wp2_with (go_at_call 16; refine (pick_any B r p xs.length _ hp (by omega) hB hr).mono ?_; rintro e w1 ⟨m, rfl, hm, hm0, hr1, hg1⟩; have hm := hm (by omega); clear hm0; have hm' : m < xs.length := (by omega); have hc : w1.cell? ⟨g, m, none⟩ = some (.string (byt xs[m])) := (hL.grown hg1 (by simpa using hg.symm)).at_ (strs_get hm'))
  go_ret
  exact ⟨m, hm', rfl, hr1, hg1⟩
def plusX : List UInt8 := [91, 78, 93, 91, 78, 93, 60, 91, 78, 93, 78, 44, 35, 49, 44, 91, 78, 93, 91, 78, 93, 43, 35, 48, 44, 35, 48, 62]
set_option maxHeartbeats 2000000 in
set_option maxRecDepth 100000 in
theorem plus_any (w : World) : Calls Tryd.prog 40 #[] w fun e w' => e = .returned (.string (byt plusX)) ∧ w = w' := by
  go_enter Tryd.func40, Tryd.ntmps40
  go_wp2_with fail
  go_ret
  exact ⟨rfl, rfl⟩
theorem byt_append (a b : List UInt8) : byt a ++ byt b = byt (a ++ b) := by
  apply ByteArray.ext
  simp [byt]
end Go.Proofs.YtjpgdfndlmipcaaDoor

namespace Go.Proofs.YtjpgdfndlmipcaaDoor
open Go.RowKit
set_option linter.unusedSimpArgs false
set_option linter.unusedVariables false

/-- what fill puts in a variable's place -/
def filF (args : List Tm) (n d : Int) : Tm :=
  if n - d < 0 then .mk 1 n [] else if (args.length : Int) ≤ n - d then .mk 1 (n - args.length) [] else (shiftI d 0 (args.getD (n - d).toNat default)).getD (.mk 0 0 [])
def filOk (args : List Tm) (n d : Int) : Bool :=
  if n - d < 0 then true else if (args.length : Int) ≤ n - d then true else (shiftI d 0 (args.getD (n - d).toNat default)).isSome
theorem gotO_some {w : World} {k n : Int} {ks : List Tm} {e : Ending} {w' : World} (h : GotO w (some (.mk k n ks)) e w') :
    ∃ A c, e = .returned (.tuple #[.agg #[.int .i64 k, .int .i64 n, .slice A ks.length c], .bool true]) ∧ ks.length ≤ 9223372036854775807 ∧ Fresh w.heap.size w' A ks ∧ Below w.heap.size w w' := h
theorem gotO_none {w : World} {e : Ending} {w' : World} (h : GotO w none e w') : e = .returned (.tuple #[.agg #[.int .i64 0, .int .i64 0, .slice none 0 0], .bool false]) ∧ Below w.heap.size w w' := h

end Go.Proofs.YtjpgdfndlmipcaaDoor

namespace Go.Proofs.YtjpgdfndlmipcaaDoor
open Go.RowKit
set_option linter.unusedSimpArgs false
set_option linter.unusedVariables false

theorem validT_size {t : Tm} (h : validT t = true) : t.size ≤ 400 := by simp only [validT, Bool.and_eq_true, decide_eq_true_eq] at h; exact h.2
theorem filF_size (args : List Tm) (n d : Int) : (filF args n d).size ≤ 400 := by
  unfold filF
  split
  · simp [Tm.size, sizes]
  · split
    · simp [Tm.size, sizes]
    · unfold shiftI
      split
      · split
        · rename_i h; exact validT_size h
        · simp [Tm.size, sizes]
      · simp [Tm.size, sizes]
/-- what fill answers -/
def fillI (args : List Tm) (t : Tm) : Option Tm := if chgOk (filOk args) 0 t = true then (if validT (chg (filF args) 0 t) = true then some (chg (filF args) 0 t) else none) else none

end Go.Proofs.YtjpgdfndlmipcaaDoor

namespace Go.Proofs.YtjpgdfndlmipcaaDoor
open Go.RowKit
set_option linter.unusedSimpArgs false
set_option linter.unusedVariables false

/-- what is asked of a test of terms -/
def TestOk (F : Nat) (p : Tm → Bool) : Prop := ∀ (k n : Int) (ks : List Tm) (A : Option Addr) (c : Nat) (w : World), sizes ks ≤ 1099511627775 → Rd w A 0 ks →
  Calls Tryd.prog F #[.agg #[.int .i64 k, .int .i64 n, .slice A ks.length c]] w fun e w' => e = .returned (.bool (p (.mk k n ks))) ∧ Below w.heap.size w w'

/-- what FillTerm answers -/
def fillTI (t : Tm) (args : List Tm) : Option Tm := if validT t = true ∧ args.length ≤ 6 ∧ (args.any fun a => !validT a) = false then fillI args t else none
end Go.Proofs.YtjpgdfndlmipcaaDoor

namespace Go.Proofs.YtjpgdfndlmipcaaDoor
open Go.RowKit
set_option linter.unusedSimpArgs false
set_option linter.unusedVariables false

theorem shS_size (by_ : Int) (t : Tm) : ∀ d, (shS by_ d t).size = t.size := by
  refine Tm.rec (motive_1 := fun t => ∀ d, (shS by_ d t).size = t.size) (motive_2 := fun ts => ∀ k d i, sizes (shSL by_ k d i ts) = sizes ts) ?_ ?_ ?_ t
  · intro k n ks ih d; rw [shS, Tm.size, Tm.size, ih]
  · intro k d i; rfl
  · intro t ts h1 h2 k d i; rw [shSL, sizes, sizes, h1, h2]
theorem flS_size (args : List Tm) (hs : ∀ t, t ∈ args → t.size ≤ 400) (t : Tm) : ∀ d, (flS args d t).size ≤ t.size * 400 := by
  refine Tm.rec (motive_1 := fun t => ∀ d, (flS args d t).size ≤ t.size * 400) (motive_2 := fun ts => ∀ k d i, sizes (flSL args k d i ts) ≤ sizes ts * 400) ?_ ?_ ?_ t
  · intro k n ks ih d
    rw [flS]
    have h3 := ih k d 0
    split
    · split
      · rename_i h1 h2
        rw [shS_size, List.getD_eq_getElem?_getD]
        have hlt : (n - d).toNat < args.length := by omega
        rw [List.getElem?_eq_getElem hlt, Option.getD_some]
        have := hs _ (List.getElem_mem hlt)
        simp only [Tm.size]; omega
      · simp only [Tm.size, sizes]; omega
    · simp only [Tm.size]; omega
  · intro k d i; simp [flSL, sizes]
  · intro t ts h1 h2 k d i; have a := h1 (d + under k i); have b := h2 k d (i + 1); rw [flSL, sizes, sizes]; omega

/-- what the reference's FillTerm answers -/
def fillTS (t : Tm) (args : List Tm) : Option Tm := if validT t = true ∧ args.length ≤ 6 ∧ (args.any fun a => !validT a) = false ∧ validT (flS args 0 t) = true then some (flS args 0 t) else none

end Go.Proofs.YtjpgdfndlmipcaaDoor

namespace Go.Proofs.YtjpgdfndlmipcaaDoor
open Go.RowKit
set_option linter.unusedSimpArgs false
set_option linter.unusedVariables false

theorem shape_pos {q : Nat} {k n : Int} {ks : List Tm} (h : shape q (.mk k n ks) = true) : ∃ q', q = q' + 1 ∧ arity k = (ks.length : Int) ∧ 0 ≤ n ∧ n ≤ mostN k ∧ ∀ t, t ∈ ks → shape q' t = true := by
  cases q with
  | zero => simp [shape] at h
  | succ q => exact ⟨q, rfl, (shape_split q k n ks).1 h⟩
theorem var_nil {ks : List Tm} (h : arity 1 = (ks.length : Int)) : ks = [] := by
  have h0 : arity 1 = 0 := rfl
  rw [h0] at h
  exact List.eq_nil_of_length_eq_zero (by omega)

theorem shS_chg (by_ cut : Int) (t : Tm) : ∀ (q : Nat) (e : Int), shape q t = true → chg (shF by_ cut) e t = shS by_ (cut + e) t := by
  refine Tm.rec (motive_1 := fun t => ∀ (q : Nat) (e : Int), shape q t = true → chg (shF by_ cut) e t = shS by_ (cut + e) t)
    (motive_2 := fun ts => ∀ (q : Nat) (k e : Int) (i : Nat), (∀ t, t ∈ ts → shape q t = true) → chgs (shF by_ cut) k e i ts = shSL by_ k (cut + e) i ts) ?_ ?_ ?_ t
  · intro k n ks ih q e h
    obtain ⟨q', rfl, ha, h0, h1, hk⟩ := shape_pos h
    rw [chg, shS]
    by_cases h1 : k = 1
    · subst h1
      have := var_nil ha
      subst this
      rw [if_pos rfl, shF, shSL]
      congr 1
      by_cases hc : cut ≤ n - e
      · rw [if_pos hc, if_pos ⟨rfl, by omega⟩]
      · rw [if_neg hc, if_neg (by rintro ⟨-, h⟩; omega)]
    · rw [if_neg h1, if_neg (by rintro ⟨h, -⟩; exact h1 h), ih q' k e 0 hk]
  · intro q k e i _; rfl
  · intro t ts h1 h2 q k e i hk
    rw [chgs, shSL, h1 q _ (hk t List.mem_cons_self), h2 q k e (i + 1) (fun t ht => hk t (List.mem_cons_of_mem _ ht)), show cut + (e + under k i) = cut + e + under k i by omega]

theorem shOk_of_shape (by_ cut : Int) (hb : 0 ≤ by_) (t : Tm) : ∀ (q p : Nat) (e : Int), shape q t = true → shape p (shS by_ (cut + e) t) = true → chgOk (shOk by_ cut) e t = true := by
  refine Tm.rec (motive_1 := fun t => ∀ (q p : Nat) (e : Int), shape q t = true → shape p (shS by_ (cut + e) t) = true → chgOk (shOk by_ cut) e t = true)
    (motive_2 := fun ts => ∀ (q p : Nat) (k e : Int) (i : Nat), (∀ t, t ∈ ts → shape q t = true) → (∀ t, t ∈ shSL by_ k (cut + e) i ts → shape p t = true) → chgsOk (shOk by_ cut) k e i ts = true) ?_ ?_ ?_ t
  · intro k n ks ih q p e h hp
    obtain ⟨q', rfl, ha, h0, h1, hk⟩ := shape_pos h
    rw [shS] at hp
    obtain ⟨p', rfl, hpa, hp0, hp1, hpk⟩ := shape_pos hp
    rw [chgOk]
    by_cases h1 : k = 1
    · subst h1
      have h20 : mostN 1 = 20 := rfl
      rw [if_pos rfl, shOk]
      by_cases hc : cut ≤ n - e
      · rw [if_pos ⟨rfl, by omega⟩] at hp1
        rw [if_pos hc, decide_eq_true (by omega), decide_eq_true (by omega)]; rfl
      · rw [if_neg hc]
    · rw [if_neg h1]; exact ih q' p' k e 0 hk hpk
  · intro q p k e i _ _; rfl
  · intro t ts h1 h2 q p k e i hk hp
    rw [shSL] at hp
    rw [chgsOk, h1 q p _ (hk t List.mem_cons_self) (by rw [show cut + (e + under k i) = cut + e + under k i by omega]; exact hp _ List.mem_cons_self), h2 q p k e (i + 1) (fun t ht => hk t (List.mem_cons_of_mem _ ht)) (fun t ht => hp t (List.mem_cons_of_mem _ ht))]; rfl

theorem shape_up {p q : Nat} (h : p ≤ q) (t : Tm) : shape p t = true → shape q t = true := by
  induction p generalizing q t with
  | zero => intro hp; simp [shape] at hp
  | succ p ih =>
    intro hp
    obtain ⟨k, n, ks⟩ := t
    obtain ⟨q', rfl⟩ : ∃ q', q = q' + 1 := ⟨q - 1, by omega⟩
    obtain ⟨a, b, c, d⟩ := (shape_split p k n ks).1 hp
    exact (shape_split q' k n ks).2 ⟨a, b, c, fun t ht => ih (by omega) t (d t ht)⟩

/-- what fill lays in a variable's place is the reference's, where it goes well -/
theorem shiftI_some {d : Int} {a : Tm} (hs : shape 30 a = true) (h : (shiftI d 0 a).isSome = true) : (shiftI d 0 a).getD (.mk 0 0 []) = shS d 0 a := by
  unfold shiftI at h ⊢
  split
  · rename_i h1
    rw [if_pos h1] at h
    split
    · rw [Option.getD_some, shS_chg d 0 a 30 0 hs, Int.zero_add]
    · rename_i h2; rw [if_neg h2] at h; cases h
  · rename_i h1; rw [if_neg h1] at h; cases h
theorem shiftI_ok {d : Int} {a : Tm} (hd : 0 ≤ d) (hs : shape 30 a = true) (h : validT (shS d 0 a) = true) : (shiftI d 0 a).isSome = true := by
  have hsh : shape 30 (shS d 0 a) = true := by simp only [validT, Bool.and_eq_true] at h; exact h.1
  have h1 : chgOk (shOk d 0) 0 a = true := shOk_of_shape d 0 hd a 30 30 0 hs (by rw [Int.zero_add]; exact hsh)
  unfold shiftI
  rw [if_pos h1, shS_chg d 0 a 30 0 hs, Int.zero_add, if_pos h]; rfl

section
variable {args : List Tm} (hsa : ∀ t, t ∈ args → shape 30 t = true)
include hsa
theorem filled (t : Tm) : ∀ (q : Nat) (d : Int), 0 ≤ d → shape q t = true → chgOk (filOk args) d t = true → chg (filF args) d t = flS args d t := by
  refine Tm.rec (motive_1 := fun t => ∀ (q : Nat) (d : Int), 0 ≤ d → shape q t = true → chgOk (filOk args) d t = true → chg (filF args) d t = flS args d t)
    (motive_2 := fun ts => ∀ (q : Nat) (k d : Int) (i : Nat), 0 ≤ d → (∀ t, t ∈ ts → shape q t = true) → chgsOk (filOk args) k d i ts = true → chgs (filF args) k d i ts = flSL args k d i ts) ?_ ?_ ?_ t
  · intro k n ks ih q d hd h hok
    obtain ⟨q', rfl, ha, h0, h1, hk⟩ := shape_pos h
    rw [chgOk] at hok
    rw [chg, flS]
    by_cases h1 : k = 1
    · subst h1
      have := var_nil ha
      subst this
      rw [if_pos rfl] at hok ⊢
      unfold filOk at hok
      unfold filF
      by_cases h2 : n - d < 0
      · rw [if_pos h2, if_neg (by rintro ⟨-, h⟩; omega), flSL]
      · rw [if_neg h2] at hok ⊢
        rw [if_pos (show (1 : Int) = 1 ∧ d ≤ n from ⟨rfl, by omega⟩)]
        by_cases h3 : (args.length : Int) ≤ n - d
        · rw [if_pos h3, if_neg (show ¬ n < d + (args.length : Int) by omega)]
        · rw [if_neg h3] at hok ⊢
          rw [if_pos (show n < d + (args.length : Int) by omega)]
          have hlt : (n - d).toNat < args.length := by omega
          have hsx : shape 30 (args.getD (n - d).toNat default) = true := by
            rw [List.getD_eq_getElem?_getD, List.getElem?_eq_getElem hlt, Option.getD_some]; exact hsa _ (List.getElem_mem hlt)
          exact shiftI_some hsx hok
    · rw [if_neg h1] at hok ⊢
      rw [if_neg (by rintro ⟨h, -⟩; exact h1 h), ih q' k d 0 hd hk hok]
  · intro q k d i _ _ _; rfl
  · intro t ts h1 h2 q k d i hd hk hok
    rw [chgsOk, Bool.and_eq_true] at hok
    rw [chgs, flSL, h1 q _ (by have := under_le k i; omega) (hk t List.mem_cons_self) hok.1, h2 q k d (i + 1) hd (fun t ht => hk t (List.mem_cons_of_mem _ ht)) hok.2]

theorem fill_ok (t : Tm) : ∀ (q p : Nat) (d : Int), 0 ≤ d → p ≤ 30 → shape q t = true → shape p (flS args d t) = true → (flS args d t).size ≤ 400 → chgOk (filOk args) d t = true := by
  refine Tm.rec (motive_1 := fun t => ∀ (q p : Nat) (d : Int), 0 ≤ d → p ≤ 30 → shape q t = true → shape p (flS args d t) = true → (flS args d t).size ≤ 400 → chgOk (filOk args) d t = true)
    (motive_2 := fun ts => ∀ (q p : Nat) (k d : Int) (i : Nat), 0 ≤ d → p ≤ 30 → (∀ t, t ∈ ts → shape q t = true) → (∀ t, t ∈ flSL args k d i ts → shape p t = true) → sizes (flSL args k d i ts) ≤ 400 → chgsOk (filOk args) k d i ts = true) ?_ ?_ ?_ t
  · intro k n ks ih q p d hd hp h hs hz
    obtain ⟨q', rfl, ha, h0, h1, hk⟩ := shape_pos h
    rw [chgOk]
    rw [flS] at hs hz
    by_cases h1 : k = 1
    · subst h1
      rw [if_pos rfl]
      unfold filOk
      by_cases h2 : n - d < 0
      · rw [if_pos h2]
      · rw [if_neg h2]
        by_cases h3 : (args.length : Int) ≤ n - d
        · rw [if_pos h3]
        · rw [if_neg h3]
          rw [if_pos (show (1 : Int) = 1 ∧ d ≤ n from ⟨rfl, by omega⟩), if_pos (show n < d + (args.length : Int) by omega)] at hs hz
          have hlt : (n - d).toNat < args.length := by omega
          have hsx : shape 30 (args.getD (n - d).toNat default) = true := by
            rw [List.getD_eq_getElem?_getD, List.getElem?_eq_getElem hlt, Option.getD_some]; exact hsa _ (List.getElem_mem hlt)
          refine shiftI_ok hd hsx ?_
          rw [validT, shape_up hp _ hs, decide_eq_true hz]; rfl
    · rw [if_neg h1]
      have hn : ¬ (k = 1 ∧ d ≤ n) := by rintro ⟨h, -⟩; exact h1 h
      rw [if_neg hn] at hs hz
      obtain ⟨p', rfl, hpa, hp0, hp1, hpk⟩ := shape_pos hs
      rw [Tm.size] at hz
      exact ih q' p' k d 0 hd (by omega) hk hpk (by omega)
  · intro q p k d i _ _ _ _ _; rfl
  · intro t ts h1 h2 q p k d i hd hp hk hs hz
    rw [flSL] at hs hz
    rw [sizes] at hz
    rw [chgsOk, h1 q p _ (by have := under_le k i; omega) hp (hk t List.mem_cons_self) (hs _ List.mem_cons_self) (by omega), h2 q p k d (i + 1) hd hp (fun t ht => hk t (List.mem_cons_of_mem _ ht)) (fun t ht => hs t (List.mem_cons_of_mem _ ht)) (by omega)]; rfl
end

theorem fill_same (t : Tm) (args : List Tm) : fillTS t args = fillTI t args := by
  unfold fillTS fillTI
  by_cases hv : validT t = true
  · by_cases hl : args.length ≤ 6
    · by_cases ha : (args.any fun a => !validT a) = false
      · rw [if_pos (⟨hv, hl, ha⟩ : _ ∧ _ ∧ _)]
        have hval : ∀ t, t ∈ args → shape 30 t = true := fun t ht => by
          have : validT t = true := by simpa using List.any_eq_false.1 ha t ht
          simp only [validT, Bool.and_eq_true] at this
          exact this.1
        have hs : shape 30 t = true := by simp only [validT, Bool.and_eq_true] at hv; exact hv.1
        unfold fillI
        by_cases hok : chgOk (filOk args) 0 t = true
        · rw [if_pos hok, filled hval t 30 0 (Int.le_refl 0) hs hok]
          by_cases h4 : validT (flS args 0 t) = true
          · rw [if_pos ⟨hv, hl, ha, h4⟩, if_pos h4]
          · rw [if_neg (by rintro ⟨-, -, -, h⟩; exact h4 h), if_neg h4]
        · rw [if_neg hok, if_neg]
          rintro ⟨-, -, -, h4⟩
          simp only [validT, Bool.and_eq_true, decide_eq_true_eq] at h4
          exact hok (fill_ok hval t 30 30 0 (Int.le_refl 0) (Nat.le_refl _) hs h4.1 h4.2)
      · rw [if_neg (by rintro ⟨-, -, h, -⟩; exact ha h), if_neg (by rintro ⟨-, -, h⟩; exact ha h)]
    · rw [if_neg (by rintro ⟨-, h, -⟩; exact hl h), if_neg (by rintro ⟨-, h, -⟩; exact hl h)]
  · rw [if_neg (by rintro ⟨h, -⟩; exact hv h), if_neg (by rintro ⟨h, -⟩; exact hv h)]
end Go.Proofs.YtjpgdfndlmipcaaDoor

namespace Go.Proofs.YtjpgdfndlmipcaaDoor
open Go.RowKit
set_option linter.unusedSimpArgs false
set_option linter.unusedVariables false

mutual
/-- no variable that lies between cut and cut + by -/
def kpS (by_ : Int) : Int → Tm → Bool | d, .mk k n ks => if k = 1 ∧ d ≤ n ∧ n < d + by_ then false else kpSL by_ k d 0 ks
def kpSL (by_ : Int) : Int → Int → Nat → List Tm → Bool | _, _, _, [] => true | k, d, i, t :: ts => kpS by_ (d + under k i) t && kpSL by_ k d (i + 1) ts
end
theorem kpSL_append (by_ k d : Int) (us : List Tm) : ∀ (ts : List Tm) (i : Nat), kpSL by_ k d i (ts ++ us) = (kpSL by_ k d i ts && kpSL by_ k d (i + ts.length) us)
  | [], i => by simp [kpSL]
  | t :: ts, i => by rw [List.cons_append, kpSL, kpSL, kpSL_append by_ k d us ts (i + 1), List.length_cons, show i + 1 + ts.length = i + (ts.length + 1) from by omega, Bool.and_assoc]
theorem kpSL_take (by_ k d : Int) {ks : List Tm} {j : Nat} (hj : j < ks.length) : kpSL by_ k d 0 (ks.take (j + 1)) = (kpSL by_ k d 0 (ks.take j) && kpS by_ (d + under k j) ks[j]) := by
  rw [List.take_succ_eq_append_getElem hj, kpSL_append, List.length_take, Nat.min_eq_left (Nat.le_of_lt hj), Nat.zero_add, kpSL, kpSL, Bool.and_true]
theorem kpSL_no (by_ k d : Int) {ks : List Tm} {j : Nat} (hj : j < ks.length) (h : kpS by_ (d + under k j) ks[j] = false) : kpSL by_ k d 0 ks = false := by
  have h1 : kpSL by_ k d 0 (ks.take (j + 1)) = false := by rw [kpSL_take by_ k d hj, h, Bool.and_false]
  have h2 : ks = ks.take (j + 1) ++ ks.drop (j + 1) := (List.take_append_drop _ _).symm
  rw [h2, kpSL_append, h1, Bool.false_and]

/-- the two tests of a shift down are one -/
theorem kp_ok {dp : Int} (h0 : 0 ≤ dp) (t : Tm) : ∀ (q : Nat) (d : Int), 0 ≤ d → shape q t = true → chgOk (shOk (-dp) 0) d t = kpS dp d t := by
  refine Tm.rec (motive_1 := fun t => ∀ (q : Nat) (d : Int), 0 ≤ d → shape q t = true → chgOk (shOk (-dp) 0) d t = kpS dp d t)
    (motive_2 := fun ts => ∀ (q : Nat) (k d : Int) (i : Nat), 0 ≤ d → (∀ t, t ∈ ts → shape q t = true) → chgsOk (shOk (-dp) 0) k d i ts = kpSL dp k d i ts) ?_ ?_ ?_ t
  · intro k n ks ih q d hd h
    obtain ⟨q', rfl, ha, h0, h1, hk⟩ := shape_pos h
    rw [chgOk, kpS]
    by_cases h1 : k = 1
    · subst h1
      have h20 : n ≤ 20 := by simpa [mostN] using h1
      have := var_nil ha
      subst this
      rw [if_pos rfl, shOk, kpSL]
      by_cases h2 : d ≤ n
      · rw [if_pos (by omega), decide_eq_true (show n + -dp ≤ 20 by omega), Bool.and_true]
        by_cases h3 : n < d + dp
        · rw [if_pos ⟨rfl, h2, h3⟩, decide_eq_false (by omega)]
        · rw [if_neg (by rintro ⟨-, -, h⟩; exact h3 h), decide_eq_true (by omega)]
      · rw [if_neg (by omega), if_neg (by rintro ⟨-, h, -⟩; exact h2 h)]
    · rw [if_neg h1, if_neg (by rintro ⟨h, -⟩; exact h1 h), ih q' k d 0 hd hk]
  · intro q k d i _ _; rfl
  · intro t ts h1 h2 q k d i hd hk
    rw [chgsOk, kpSL, h1 q _ (by have := under_le k i; omega) (hk t List.mem_cons_self), h2 q k d (i + 1) hd (fun t ht => hk t (List.mem_cons_of_mem _ ht))]
theorem shS_shape {dp : Int} (h0 : 0 ≤ dp) (t : Tm) : ∀ (q : Nat) (d : Int), 0 ≤ d → shape q t = true → kpS dp d t = true → shape q (shS (-dp) d t) = true := by
  refine Tm.rec (motive_1 := fun t => ∀ (q : Nat) (d : Int), 0 ≤ d → shape q t = true → kpS dp d t = true → shape q (shS (-dp) d t) = true)
    (motive_2 := fun ts => ∀ (q : Nat) (k d : Int) (i : Nat), 0 ≤ d → (∀ t, t ∈ ts → shape q t = true) → kpSL dp k d i ts = true → ∀ t, t ∈ shSL (-dp) k d i ts → shape q t = true) ?_ ?_ ?_ t
  · intro k n ks ih q d hd h hkp
    obtain ⟨q', rfl, ha, hn0, hn1, hk⟩ := shape_pos h
    rw [kpS] at hkp
    rw [shS]
    by_cases h1 : k = 1 ∧ d ≤ n ∧ n < d + dp
    · rw [if_pos h1] at hkp; cases hkp
    · rw [if_neg h1] at hkp
      refine (shape_split _ _ _ _).2 ⟨by rw [shSL_length]; exact ha, ?_, ?_, ih q' k d 0 hd hk hkp⟩
      · split
        · rename_i h2
          have : ¬ n < d + dp := fun h => h1 ⟨h2.1, h2.2, h⟩
          omega
        · exact hn0
      · split
        · omega
        · exact hn1
  · intro q k d i _ _ _ t ht; rw [shSL] at ht; cases ht
  · intro t ts h1 h2 q k d i hd hk hkp u hu
    rw [kpSL, Bool.and_eq_true] at hkp
    rw [shSL] at hu
    rcases List.mem_cons.1 hu with rfl | hu
    · exact h1 q _ (by have := under_le k i; omega) (hk t List.mem_cons_self) hkp.1
    · exact h2 q k d (i + 1) hd (fun t ht => hk t (List.mem_cons_of_mem _ ht)) hkp.2 u hu
/-- a shift down of a valid term goes well just where no variable is lost, and is the reference's -/
theorem shiftI_down {dp : Int} (h0 : 0 ≤ dp) {u : Tm} (hv : validT u = true) : shiftI (-dp) 0 u = if kpS dp 0 u = true then some (shS (-dp) 0 u) else none := by
  have hs : shape 30 u = true := by simp only [validT, Bool.and_eq_true] at hv; exact hv.1
  unfold shiftI
  rw [kp_ok h0 u 30 0 (Int.le_refl 0) hs]
  split
  · rename_i hk
    rw [shS_chg (-dp) 0 u 30 0 hs, Int.zero_add, if_pos]
    rw [validT, shS_shape h0 u 30 0 (Int.le_refl 0) hs hk, shS_size, decide_eq_true (validT_size hv)]; rfl
  · rfl
end Go.Proofs.YtjpgdfndlmipcaaDoor

namespace Go.Proofs.YtjpgdfndlmipcaaDoor
open Go.RowKit
set_option linter.unusedSimpArgs false
set_option linter.unusedVariables false

mutual
/-- how often a variable stands free -/
def cnV (x : Int) : Int → Tm → Nat | d, .mk k n ks => (if k = 1 ∧ d ≤ n ∧ n - d = x then 1 else 0) + cnVL x k d 0 ks
def cnVL (x : Int) : Int → Int → Nat → List Tm → Nat | _, _, _, [] => 0 | k, d, i, t :: ts => cnV x (d + under k i) t + cnVL x k d (i + 1) ts
end
theorem cnVL_append (x k d : Int) (us : List Tm) : ∀ (ts : List Tm) (i : Nat), cnVL x k d i (ts ++ us) = cnVL x k d i ts + cnVL x k d (i + ts.length) us
  | [], i => by simp [cnVL]
  | t :: ts, i => by rw [List.cons_append, cnVL, cnVL, cnVL_append x k d us ts (i + 1), List.length_cons, show i + 1 + ts.length = i + (ts.length + 1) from by omega, Nat.add_assoc]
theorem cnVL_take (x k d : Int) {ks : List Tm} {j : Nat} (hj : j < ks.length) : cnVL x k d 0 (ks.take (j + 1)) = cnVL x k d 0 (ks.take j) + cnV x (d + under k j) ks[j] := by
  rw [List.take_succ_eq_append_getElem hj, cnVL_append, List.length_take, Nat.min_eq_left (Nat.le_of_lt hj), Nat.zero_add, cnVL, cnVL, Nat.add_zero]
theorem cnV_size (x : Int) (t : Tm) : ∀ d, cnV x d t ≤ t.size := by
  refine Tm.rec (motive_1 := fun t => ∀ d, cnV x d t ≤ t.size) (motive_2 := fun ts => ∀ k d i, cnVL x k d i ts ≤ sizes ts) ?_ ?_ ?_ t
  · intro k n ks ih d; rw [cnV, Tm.size]; have := ih k d 0; split <;> omega
  · intro k d i; simp [cnVL]
  · intro t ts h1 h2 k d i; rw [cnVL, sizes]; have := h1 (d + under k i); have := h2 k d (i + 1); omega

theorem cnVL_size (x k d : Int) (i : Nat) (ts : List Tm) : cnVL x k d i ts ≤ sizes ts := by
  induction ts generalizing i with
  | nil => simp [cnVL]
  | cons t ts ih => rw [cnVL, sizes]; have := cnV_size x t (d + under k i); have := ih (i + 1); omega
theorem grown_below {w w' : World} {g B : Nat} (h : w.grownBy w' (some g)) (hB : B ≤ w.heap.size) (hg : B ≤ g) : Below B w w' :=
  ⟨h.os, h.tape, h.output, h.size, fun b hb => h.block b (by omega) (by simp; omega)⟩

def UnitV : Value := .tuple #[]
def CntPost (g : Nat) (cc : Int) (w : World) (e : Ending) (w' : World) : Prop := e = .returned UnitV ∧ Blk w' g #[.int .i64 cc] ∧ w.grownBy w' (some g)
end Go.Proofs.YtjpgdfndlmipcaaDoor

namespace Go.Proofs.YtjpgdfndlmipcaaDoor
open Go.RowKit
set_option linter.unusedSimpArgs false
set_option linter.unusedVariables false

theorem drws_small {k n : Int} {ks : List Tm} (h : Tm.mk k n ks ∈ drws) : sizes ks ≤ 60 := by
  have h1 : (drws.all fun t => decide (t.size ≤ 61)) = true := by decide
  have := of_decide_eq_true (List.all_eq_true.1 h1 _ h)
  rw [Tm.size] at this
  omega
set_option maxHeartbeats 8000000 in
set_option maxRecDepth 100000 in
theorem l3draw_any (B r p : Nat) (w : World) (hp : p ≤ 890000000) (hB : B ≤ w.heap.size) (hr : Rdr B w r p) : Calls Tryd.prog 25 #[.pointer (some ⟨r, 0, none⟩)] w (DrawnT B w r p 1030 341) := by
  have hrl := hr.lt
  have a1 : ∀ w, (Op.stringOp .add ⟨#[40]⟩ (byt plusX)).run Tryd.prog w = .ok (.string (byt [40, 91, 78, 93, 91, 78, 93, 60, 91, 78, 93, 78, 44, 35, 49, 44, 91, 78, 93, 91, 78, 93, 43, 35, 48, 44, 35, 48, 62])) w := fun w => add_strE (a := [40]) (b := plusX) rfl (by decide) w
  have a2 : ∀ w, (Op.stringOp .add (byt [40, 91, 78, 93, 91, 78, 93, 60, 91, 78, 93, 78, 44, 35, 49, 44, 91, 78, 93, 91, 78, 93, 43, 35, 48, 44, 35, 48, 62]) ⟨#[32, 43, 43, 48, 41]⟩).run Tryd.prog w = .ok (.string (byt [40, 91, 78, 93, 91, 78, 93, 60, 91, 78, 93, 78, 44, 35, 49, 44, 91, 78, 93, 91, 78, 93, 43, 35, 48, 44, 35, 48, 62, 32, 43, 43, 48, 41])) w := fun w => add_strE (a := [40, 91, 78, 93, 91, 78, 93, 60, 91, 78, 93, 78, 44, 35, 49, 44, 91, 78, 93, 91, 78, 93, 43, 35, 48, 44, 35, 48, 62]) (b := [32, 43, 43, 48, 41]) rfl (by decide) w
  have a3 : ∀ w, (Op.stringOp .add ⟨#[40, 40]⟩ (byt plusX)).run Tryd.prog w = .ok (.string (byt [40, 40, 91, 78, 93, 91, 78, 93, 60, 91, 78, 93, 78, 44, 35, 49, 44, 91, 78, 93, 91, 78, 93, 43, 35, 48, 44, 35, 48, 62])) w := fun w => add_strE (a := [40, 40]) (b := plusX) rfl (by decide) w
  have a4 : ∀ w, (Op.stringOp .add (byt [40, 40, 91, 78, 93, 91, 78, 93, 60, 91, 78, 93, 78, 44, 35, 49, 44, 91, 78, 93, 91, 78, 93, 43, 35, 48, 44, 35, 48, 62]) ⟨#[32, 43, 43, 48, 41, 32, 43, 48, 41]⟩).run Tryd.prog w = .ok (.string (byt [40, 40, 91, 78, 93, 91, 78, 93, 60, 91, 78, 93, 78, 44, 35, 49, 44, 91, 78, 93, 91, 78, 93, 43, 35, 48, 44, 35, 48, 62, 32, 43, 43, 48, 41, 32, 43, 48, 41])) w := fun w => add_strE (a := [40, 40, 91, 78, 93, 91, 78, 93, 60, 91, 78, 93, 78, 44, 35, 49, 44, 91, 78, 93, 91, 78, 93, 43, 35, 48, 44, 35, 48, 62]) (b := [32, 43, 43, 48, 41, 32, 43, 48, 41]) rfl (by decide) w
  go_enter Tryd.func25, Tryd.ntmps25
  go_wp2_with (first
    | (go_at_call 41; refine (parseTerm_any hgood.out _).mono ?_; rintro e w2 ⟨A2, c2, rfl, hl2, hf2, hb2⟩; have tok2 := trivial)
    | (go_at_call 39; refine (of_any drwsX B r p (w.heap.size + 1) _ (by decide) (by decide) (by omega) (by simp; omega) ((hr.alloc (by omega) _).alloc (by simp; omega) _) (Blk.new_ _ 9 (strs drwsX) (by simp)) (by omega)).mono ?_; rintro e w1 ⟨m, hm, rfl, hr1, hg1⟩; have hm13 : m < drws.length := hm; obtain ⟨k, n, ks, hk⟩ := tm_eta drws[m]; have hgood := hide (drws_good.at_ m (.mk k n ks) drwsX[m] (by rw [List.getElem?_eq_getElem hm13, hk]) (List.getElem?_eq_getElem hm)); have hsm := drws_small (k := k) (n := n) (ks := ks) (hk ▸ List.getElem_mem hm13); clear hk; have hZ : Blk w1 w.heap.size #[.int .i64 0, .int .i64 0, .slice none 0 0] := ((Blk.new_ w 48 #[.int .i64 0, .int .i64 0, .slice none 0 0] rfl).alloc _).grown hg1 (by simp; omega); have g1 : w.grownBy w1 (some r) := grown_trans (only_alloc (only_alloc (World.grownBy.refl _ _) _) _) hg1; have s1 := g1.size; have lz1 := hZ.lt)
    | (go_at_call 40; refine (plus_any _).mono ?_; rintro e w' ⟨rfl, rfl⟩))
  replace hZ := hZ.keep hb2
  have g2 := only_below g1 hb2
  have s2 := hb2.size
  refine (pick_any B r (p + 1) 3 _ (by omega) (by omega) (by simp; omega) ((hr1.below hb2 (by omega)).alloc (by omega) _)).mono ?_
  rintro e w3 ⟨m3, rfl, hm3, hm30, hr3, hg3⟩
  clear hm3 hm30
  have hX := (Blk.new_ w2 48 #[.int .i64 k, .int .i64 n, .slice A2 ks.length c2] rfl).grown hg3 (by simp; omega)
  replace hZ := (hZ.alloc (.cells #[.int .i64 k, .int .i64 n, .slice A2 ks.length c2] 48)).grown hg3 (by simp; omega)
  have g3 := grown_trans (only_alloc g2 (.cells #[.int .i64 k, .int .i64 n, .slice A2 ks.length c2] 48)) hg3
  have s3 := g3.size
  have f3 := (hf2.alloc (.cells #[.int .i64 k, .int .i64 n, .slice A2 ks.length c2] 48)).keep (fun b h1 h2 => hg3.block b h2 (by simp; omega))
  obtain ⟨x0, x1, x2⟩ := hX.three
  have lx := hX.lt
  have lz := hZ.lt
  by_cases h0 : m3 = 0
  · have q0 : ¬ 0 < m3 := by omega
    clear h0
    go_wp2_with (go_at_call 42; refine (any_any B r (p + 1 + 1) _ (by omega) (by omega) hr3).mono ?_; rintro e w4 ⟨k4, n4, ks4, A4, c4, p4, rfl, hl4, hs4, hp4, hf4, hr4, hg4⟩; replace hZ := hZ.grown hg4 (by simp; omega); obtain ⟨d0, d1, d2⟩ := hZ.three; have e0 := hZ.frozen 0; have e1 := hZ.frozen 1; have e2 := hZ.frozen 2)
    have g4 := grown_trans g3 hg4
    refine bodyPost_ret (v := .agg #[.int .i64 k4, .int .i64 n4, .slice A4 ks4.length c4]) (by simp [results, Tryd.results25, go_sem, d0, d1, d2]) rfl ⟨k4, n4, ks4, A4, c4, p4, rfl, hl4, by omega, by omega, ?_, ?_, ?_⟩
    · exact (((hf4.setCell (by simp; omega) _).setCell (by simp; omega) _).setCell (by simp; omega) _).mono (by omega)
    · exact ((hr4.setCell (by simp; omega) _).setCell (by simp; omega) _).setCell (by simp; omega) _
    · exact only_setCell (only_setCell (only_setCell g4 (.inr (by simp)) _) (.inr (by simp)) _) (.inr (by simp)) _
  · have q0 : 0 < m3 := by omega
    clear h0
    obtain ⟨d0, d1, d2⟩ := hZ.three
    have e0 := hZ.frozen 0
    have e1 := hZ.frozen 1
    have e2 := hZ.frozen 2
    go_wp2_with fail
    refine bodyPost_ret (v := .agg #[.int .i64 k, .int .i64 n, .slice A2 ks.length c2]) (by simp [results, Tryd.results25, go_sem, d0, d1, d2]) rfl ⟨k, n, ks, A2, c2, _, rfl, hl2, by omega, (by omega : p + 1 + 1 ≤ p + 1030), ?_, ?_, ?_⟩
    · exact (((f3.setCell (by simp; omega) _).setCell (by simp; omega) _).setCell (by simp; omega) _).mono (by omega)
    · exact ((hr3.setCell (by simp; omega) _).setCell (by simp; omega) _).setCell (by simp; omega) _
    · exact only_setCell (only_setCell (only_setCell g3 (.inr (by simp)) _) (.inr (by simp)) _) (.inr (by simp)) _
end Go.Proofs.YtjpgdfndlmipcaaDoor

namespace Go.Proofs.YtjpgdfndlmipcaaDoor
open Go.RowKit
set_option linter.unusedSimpArgs false
set_option linter.unusedVariables false

/-- a valid term that has been drawn -/
def DrawnV (B : Nat) (w : World) (r p q : Nat) (e : Ending) (w' : World) : Prop :=
  ∃ (k n : Int) (ks : List Tm) (A : Option Addr) (c p' : Nat), e = .returned (.agg #[.int .i64 k, .int .i64 n, .slice A ks.length c]) ∧ ks.length ≤ 9223372036854775807 ∧ validT (.mk k n ks) = true ∧ p' ≤ p + q ∧ Fresh w.heap.size w' A ks ∧ Rdr B w' r p' ∧ w.grownBy w' (some r)
set_option maxHeartbeats 4000000 in
set_option maxRecDepth 100000 in
theorem anyV_any (B r p : Nat) (w : World) (hp : p ≤ 900000000) (hB : B ≤ w.heap.size) (hr : Rdr B w r p) : Calls Tryd.prog 42 #[.pointer (some ⟨r, 0, none⟩)] w (DrawnV B w r p 1024) := by
  have hrl := hr.lt
  go_enter Tryd.func42, Tryd.ntmps42
  go_wp2_with (first
    | (go_at_call 43; refine (sLeaf_any _ _ _).mono ?_; rintro e w5 ⟨rfl, hb5⟩; have tok : True := trivial; replace hZ := hZ.keep hb5; have d0 := hZ.at_ (i := 0) rfl; have d1 := hZ.at_ (i := 1) rfl; have d2 := hZ.at_ (i := 2) rfl; have e0 := hZ.frozen 0; have e1 := hZ.frozen 1; have e2 := hZ.frozen 2)
    | (go_at_call 51; refine (sTermValid_any k n ks A c _ (by omega) (hf.rd.alloc _)).mono ?_; rintro e w4 ⟨rfl, hb4⟩; have hX := (Blk.new_ w2 48 #[.int .i64 k, .int .i64 n, .slice A ks.length c] rfl).keep hb4; replace hZ := (hZ.alloc _).keep hb4; have x0 := hX.at_ (i := 0) rfl; have x1 := hX.at_ (i := 1) rfl; have x2 := hX.at_ (i := 2) rfl; have d0 := hZ.at_ (i := 0) rfl; have d1 := hZ.at_ (i := 1) rfl; have d2 := hZ.at_ (i := 2) rfl; have e0 := hZ.frozen 0; have e1 := hZ.frozen 1; have e2 := hZ.frozen 2; have lx := hX.lt; have lz := hZ.lt)
    | (go_at_call 50; refine (draw_any d B r (p + 1) _ (by omega) (by omega) hr1).mono ?_; rintro e w2 ⟨k, n, ks, A, c, p2, rfl, hl2, hs2, hp2, hf, hr2, hg2⟩; replace hZ := hZ.grown hg2 (by simp; omega); have lz2 := hZ.lt; have g2 := grown_trans g1 hg2; have s2 := hg2.size)
    | (go_at_call 27; refine (num_any [3, 4, 2, 3, 1] B r p (w.heap.size + 1) _ (by decide) (by decide) (by omega) (by simp; omega) ((hr.alloc (by omega) _).alloc (by simp; omega) _) (Blk.new_ _ 3 _ (by simp)) (by omega)).mono ?_; rintro e w1 ⟨x, hx, rfl, hr1, hg1⟩; obtain ⟨d, rfl, hd⟩ := any_depth hx; have hkd := kd4 hd; have hZ : Blk w1 w.heap.size #[.int .i64 0, .int .i64 0, .slice none 0 0] := ((Blk.new_ w 48 #[.int .i64 0, .int .i64 0, .slice none 0 0] rfl).alloc _).grown hg1 (by simp; omega); have g1 : w.grownBy w1 (some r) := grown_trans (only_alloc (only_alloc (World.grownBy.refl _ _) _) _) hg1; have s1 := g1.size; have lz1 := hZ.lt))
  · have r4 := (hr2.alloc (by omega) (.cells #[.int .i64 k, .int .i64 n, .slice A ks.length c] 48)).below hb4 (by simp; omega)
    have g4 := only_below (only_alloc g2 (.cells #[.int .i64 k, .int .i64 n, .slice A ks.length c] 48)) hb4
    have f4 := (hf.alloc (.cells #[.int .i64 k, .int .i64 n, .slice A ks.length c] 48)).below hb4
    refine bodyPost_ret (v := .agg #[.int .i64 k, .int .i64 n, .slice A ks.length c]) (by simp [results, Tryd.results42, go_sem, d0, d1, d2]) rfl ⟨k, n, ks, A, c, p2, rfl, hl2, by assumption, by omega, ?_, ?_, ?_⟩
    · exact (((f4.setCell (by simp; omega) _).setCell (by simp; omega) _).setCell (by simp; omega) _).mono (by omega)
    · exact ((r4.setCell (by simp; omega) _).setCell (by simp; omega) _).setCell (by simp; omega) _
    · exact only_setCell (only_setCell (only_setCell g4 (.inr (by simp)) _) (.inr (by simp)) _) (.inr (by simp)) _
  · have r4 := ((hr2.alloc (by omega) (.cells #[.int .i64 k, .int .i64 n, .slice A ks.length c] 48)).below hb4 (by simp; omega)).below hb5 (by have := hb4.size; simp at this; omega)
    have g4 := only_below (only_below (only_alloc g2 (.cells #[.int .i64 k, .int .i64 n, .slice A ks.length c] 48)) hb4) hb5
    refine bodyPost_ret (v := .agg #[.int .i64 7, .int .i64 0, .slice none 0 0]) (by simp [results, Tryd.results42, go_sem, d0, d1, d2]) rfl ⟨7, 0, [], none, 0, p2, rfl, by simp, by decide, by omega, Fresh.nil, ?_, ?_⟩
    · exact ((r4.setCell (by simp; omega) _).setCell (by simp; omega) _).setCell (by simp; omega) _
    · exact only_setCell (only_setCell (only_setCell g4 (.inr (by simp)) _) (.inr (by simp)) _) (.inr (by simp)) _
set_option maxHeartbeats 8000000 in
set_option maxRecDepth 100000 in
theorem l3drawV_any (B r p : Nat) (w : World) (hp : p ≤ 890000000) (hB : B ≤ w.heap.size) (hr : Rdr B w r p) : Calls Tryd.prog 25 #[.pointer (some ⟨r, 0, none⟩)] w (DrawnV B w r p 1030) := by
  have hrl := hr.lt
  have a1 : ∀ w, (Op.stringOp .add ⟨#[40]⟩ (byt plusX)).run Tryd.prog w = .ok (.string (byt [40, 91, 78, 93, 91, 78, 93, 60, 91, 78, 93, 78, 44, 35, 49, 44, 91, 78, 93, 91, 78, 93, 43, 35, 48, 44, 35, 48, 62])) w := fun w => add_strE (a := [40]) (b := plusX) rfl (by decide) w
  have a2 : ∀ w, (Op.stringOp .add (byt [40, 91, 78, 93, 91, 78, 93, 60, 91, 78, 93, 78, 44, 35, 49, 44, 91, 78, 93, 91, 78, 93, 43, 35, 48, 44, 35, 48, 62]) ⟨#[32, 43, 43, 48, 41]⟩).run Tryd.prog w = .ok (.string (byt [40, 91, 78, 93, 91, 78, 93, 60, 91, 78, 93, 78, 44, 35, 49, 44, 91, 78, 93, 91, 78, 93, 43, 35, 48, 44, 35, 48, 62, 32, 43, 43, 48, 41])) w := fun w => add_strE (a := [40, 91, 78, 93, 91, 78, 93, 60, 91, 78, 93, 78, 44, 35, 49, 44, 91, 78, 93, 91, 78, 93, 43, 35, 48, 44, 35, 48, 62]) (b := [32, 43, 43, 48, 41]) rfl (by decide) w
  have a3 : ∀ w, (Op.stringOp .add ⟨#[40, 40]⟩ (byt plusX)).run Tryd.prog w = .ok (.string (byt [40, 40, 91, 78, 93, 91, 78, 93, 60, 91, 78, 93, 78, 44, 35, 49, 44, 91, 78, 93, 91, 78, 93, 43, 35, 48, 44, 35, 48, 62])) w := fun w => add_strE (a := [40, 40]) (b := plusX) rfl (by decide) w
  have a4 : ∀ w, (Op.stringOp .add (byt [40, 40, 91, 78, 93, 91, 78, 93, 60, 91, 78, 93, 78, 44, 35, 49, 44, 91, 78, 93, 91, 78, 93, 43, 35, 48, 44, 35, 48, 62]) ⟨#[32, 43, 43, 48, 41, 32, 43, 48, 41]⟩).run Tryd.prog w = .ok (.string (byt [40, 40, 91, 78, 93, 91, 78, 93, 60, 91, 78, 93, 78, 44, 35, 49, 44, 91, 78, 93, 91, 78, 93, 43, 35, 48, 44, 35, 48, 62, 32, 43, 43, 48, 41, 32, 43, 48, 41])) w := fun w => add_strE (a := [40, 40, 91, 78, 93, 91, 78, 93, 60, 91, 78, 93, 78, 44, 35, 49, 44, 91, 78, 93, 91, 78, 93, 43, 35, 48, 44, 35, 48, 62]) (b := [32, 43, 43, 48, 41, 32, 43, 48, 41]) rfl (by decide) w
  go_enter Tryd.func25, Tryd.ntmps25
  go_wp2_with (first
    | (go_at_call 41; refine (parseTerm_any hgood.out _).mono ?_; rintro e w2 ⟨A2, c2, rfl, hl2, hf2, hb2⟩; have tok2 := trivial)
    | (go_at_call 39; refine (of_any drwsX B r p (w.heap.size + 1) _ (by decide) (by decide) (by omega) (by simp; omega) ((hr.alloc (by omega) _).alloc (by simp; omega) _) (Blk.new_ _ 9 (strs drwsX) (by simp)) (by omega)).mono ?_; rintro e w1 ⟨m, hm, rfl, hr1, hg1⟩; have hm13 : m < drws.length := hm; obtain ⟨k, n, ks, hk⟩ := tm_eta drws[m]; have hgood := hide (drws_good.at_ m (.mk k n ks) drwsX[m] (by rw [List.getElem?_eq_getElem hm13, hk]) (List.getElem?_eq_getElem hm)); have hsm := drws_small (k := k) (n := n) (ks := ks) (hk ▸ List.getElem_mem hm13); clear hk; have hZ : Blk w1 w.heap.size #[.int .i64 0, .int .i64 0, .slice none 0 0] := ((Blk.new_ w 48 #[.int .i64 0, .int .i64 0, .slice none 0 0] rfl).alloc _).grown hg1 (by simp; omega); have g1 : w.grownBy w1 (some r) := grown_trans (only_alloc (only_alloc (World.grownBy.refl _ _) _) _) hg1; have s1 := g1.size; have lz1 := hZ.lt)
    | (go_at_call 40; refine (plus_any _).mono ?_; rintro e w' ⟨rfl, rfl⟩))
  replace hZ := hZ.keep hb2
  have g2 := only_below g1 hb2
  have s2 := hb2.size
  refine (pick_any B r (p + 1) 3 _ (by omega) (by omega) (by simp; omega) ((hr1.below hb2 (by omega)).alloc (by omega) _)).mono ?_
  rintro e w3 ⟨m3, rfl, hm3, hm30, hr3, hg3⟩
  clear hm3 hm30
  have hX := (Blk.new_ w2 48 #[.int .i64 k, .int .i64 n, .slice A2 ks.length c2] rfl).grown hg3 (by simp; omega)
  replace hZ := (hZ.alloc (.cells #[.int .i64 k, .int .i64 n, .slice A2 ks.length c2] 48)).grown hg3 (by simp; omega)
  have g3 := grown_trans (only_alloc g2 (.cells #[.int .i64 k, .int .i64 n, .slice A2 ks.length c2] 48)) hg3
  have s3 := g3.size
  have f3 := (hf2.alloc (.cells #[.int .i64 k, .int .i64 n, .slice A2 ks.length c2] 48)).keep (fun b h1 h2 => hg3.block b h2 (by simp; omega))
  obtain ⟨x0, x1, x2⟩ := hX.three
  have lx := hX.lt
  have lz := hZ.lt
  by_cases h0 : m3 = 0
  · have q0 : ¬ 0 < m3 := by omega
    clear h0
    go_wp2_with (go_at_call 42; refine (anyV_any B r (p + 1 + 1) _ (by omega) (by omega) hr3).mono ?_; rintro e w4 ⟨k4, n4, ks4, A4, c4, p4, rfl, hl4, hs4, hp4, hf4, hr4, hg4⟩; replace hZ := hZ.grown hg4 (by simp; omega); obtain ⟨d0, d1, d2⟩ := hZ.three; have e0 := hZ.frozen 0; have e1 := hZ.frozen 1; have e2 := hZ.frozen 2)
    have g4 := grown_trans g3 hg4
    refine bodyPost_ret (v := .agg #[.int .i64 k4, .int .i64 n4, .slice A4 ks4.length c4]) (by simp [results, Tryd.results25, go_sem, d0, d1, d2]) rfl ⟨k4, n4, ks4, A4, c4, p4, rfl, hl4, hs4, by omega, ?_, ?_, ?_⟩
    · exact (((hf4.setCell (by simp; omega) _).setCell (by simp; omega) _).setCell (by simp; omega) _).mono (by omega)
    · exact ((hr4.setCell (by simp; omega) _).setCell (by simp; omega) _).setCell (by simp; omega) _
    · exact only_setCell (only_setCell (only_setCell g4 (.inr (by simp)) _) (.inr (by simp)) _) (.inr (by simp)) _
  · have q0 : 0 < m3 := by omega
    clear h0
    obtain ⟨d0, d1, d2⟩ := hZ.three
    have e0 := hZ.frozen 0
    have e1 := hZ.frozen 1
    have e2 := hZ.frozen 2
    go_wp2_with fail
    refine bodyPost_ret (v := .agg #[.int .i64 k, .int .i64 n, .slice A2 ks.length c2]) (by simp [results, Tryd.results25, go_sem, d0, d1, d2]) rfl ⟨k, n, ks, A2, c2, _, rfl, hl2, hgood.out.2.1, (by omega : p + 1 + 1 ≤ p + 1030), ?_, ?_, ?_⟩
    · exact (((f3.setCell (by simp; omega) _).setCell (by simp; omega) _).setCell (by simp; omega) _).mono (by omega)
    · exact ((hr3.setCell (by simp; omega) _).setCell (by simp; omega) _).setCell (by simp; omega) _
    · exact only_setCell (only_setCell (only_setCell g3 (.inr (by simp)) _) (.inr (by simp)) _) (.inr (by simp)) _
end Go.Proofs.YtjpgdfndlmipcaaDoor

namespace Go.Proofs.YtjpgdfndlmipcaaDoor.Cd
open Go.RowKit Nw
set_option linter.unusedSimpArgs false
set_option linter.unusedVariables false

theorem shape_wz (d : Nat) : ∀ t : Tm, Go.Proofs.YtjpgdfndlmipcaaDoor.shape d t = true → wz t = t.size := by
  induction d with
  | zero => intro t h; simp [Go.Proofs.YtjpgdfndlmipcaaDoor.shape] at h
  | succ d ih =>
    rintro ⟨k, n, ks⟩ h
    obtain ⟨h1, _, _, h4⟩ := (Go.Proofs.YtjpgdfndlmipcaaDoor.shape_split d k n ks).1 h
    have hs : ∀ ts : List Tm, (∀ t, t ∈ ts → Go.Proofs.YtjpgdfndlmipcaaDoor.shape d t = true) → wzs ts = sizes ts := by
      intro ts
      induction ts with
      | nil => intro _; rfl
      | cons t ts iht =>
        intro hs
        rw [wzs, sizes, ih t (hs t (by simp)), iht fun u hu => hs u (by simp [hu])]
    rw [wz_ok h1, Tm.size, hs ks h4]
theorem valid_wz {t : Tm} (h : Go.Proofs.YtjpgdfndlmipcaaDoor.validT t = true) : wz t ≤ 2560 := by
  simp only [Go.Proofs.YtjpgdfndlmipcaaDoor.validT, Bool.and_eq_true, decide_eq_true_eq] at h
  rw [shape_wz 30 t h.1]; omega
/-- a code that has been drawn -/
def DrawnC (B : Nat) (w : World) (r p q s : Nat) (e : Ending) (w' : World) : Prop :=
  ∃ (k n : Int) (ks : List Tm) (A : Option Addr) (c p' : Nat), e = .returned (.agg #[.int .i64 k, .int .i64 n, .slice A ks.length c]) ∧ ks.length ≤ 9223372036854775807 ∧ sizes ks + 1 ≤ s ∧ p' ≤ p + q ∧ RdP (fun b => w.heap.size ≤ b) w' A 0 ks ∧ Rdr B w' r p' ∧ w.grownBy w' (some r)
theorem cdraw_done {B r p q s p' : Nat} {w w1 : World} {k n : Int} {ks : List Tm} {A : Option Addr} {c : Nat} {x y z : Value} (hB : B ≤ w.heap.size) (hrl : r < B) (hl : ks.length ≤ 9223372036854775807) (hs : sizes ks + 1 ≤ s) (hp : p' ≤ p + q) (hk : RdP (fun b => w.heap.size < b) w1 A 0 ks) (hr : Rdr B w1 r p') (hg : w.grownBy w1 (some r)) :
    DrawnC B w r p q s (.returned (.agg #[.int .i64 k, .int .i64 n, .slice A ks.length c])) (((w1.setCell ⟨w.heap.size, 0, none⟩ x).setCell ⟨w.heap.size, 1, none⟩ y).setCell ⟨w.heap.size, 2, none⟩ z) := by
  refine ⟨k, n, ks, A, c, p', rfl, hl, hs, hp, ?_, ?_, ?_⟩
  · exact (((hk.setCell (by simp) _).setCell (by simp) _).setCell (by simp) _).mono (fun b hb => by omega)
  · exact ((hr.setCell (by simp; omega) _).setCell (by simp; omega) _).setCell (by simp; omega) _
  · exact only_setCell (only_setCell (only_setCell hg (.inr (by simp)) _) (.inr (by simp)) _) (.inr (by simp)) _
theorem num_324 {x : Int} (h : x ∈ ([3, 2, 4] : List Int)) : 0 ≤ x ∧ x ≤ 4 := by
  simp only [List.mem_cons, List.not_mem_nil, or_false] at h
  omega
/-- the part behind the term -/
structure StC (B r P g : Nat) (w w1 : World) (k n : Int) (ks : List Tm) (A : Option Addr) (c : Nat) : Prop where
  rd : Rdr B w1 r P
  gr : w.grownBy w1 (some r)
  hZ : Blk w1 w.heap.size #[.int .i64 0, .int .i64 0, .slice none 0 0]
  hT : Blk w1 g #[.int .i64 k, .int .i64 n, .slice A ks.length c]
  hk : RdP (fun b => w.heap.size < b) w1 A 0 ks
  hl : ks.length ≤ 9223372036854775807
  hz : wz (.mk k n ks) ≤ 2560
set_option maxHeartbeats 4000000 in
set_option maxRecDepth 100000 in
theorem cdraw_any (B r p : Nat) (w : World) (hp : p ≤ 700000000) (hB : B ≤ w.heap.size) (hr : Rdr B w r p) : Calls Tryd.prog 15 #[.pointer (some ⟨r, 0, none⟩)] w (DrawnC B w r p 4000 2560) := by
  have hrl := hr.lt
  go_enter Tryd.func15, Tryd.ntmps15
  go_wp2_with (go_at_call 25; refine name_callsN ?_; intro wx hwx; have hrx : Rdr B wx r p := (by rw [hwx]; exact hr.alloc hB _); have hgx : w.grownBy wx (some r) := (by rw [hwx]; exact only_alloc (World.grownBy.refl _ _) _); have hZx : Blk wx w.heap.size #[.int .i64 0, .int .i64 0, .slice none 0 0] := (by rw [hwx]; exact Blk.new_ _ 25 _ rfl); clear hwx; have sx := hZx.lt; refine (l3drawV_any B r p wx (by omega) (by omega) hrx).mono ?_; rintro e w1 ⟨k, n, ks, A, c, p1, rfl, hl, hv, hp1, hf, hr1, hg1⟩; have s1 := hg1.size; have hk1 : RdP (fun b => w.heap.size < b) w1 A 0 ks := hf.rdp.mono (fun b hb => Nat.lt_of_lt_of_le sx hb.1); have hZ1 := hZx.grown hg1 (by simp; omega); have g1 := grown_trans hgx hg1)
  refine (pick_any B r p1 2 _ (by omega) (by omega) (by simp; omega) (hr1.alloc (by omega) _)).mono ?_
  rintro e w2 ⟨m, rfl, hm, hm0, hr2, hg2⟩
  clear hm hm0
  have hS : StC B r (p1 + 1) w1.heap.size w w2 k n ks A c := ⟨hr2, grown_trans (only_alloc g1 _) hg2, (hZ1.alloc _).grown hg2 (by simp; omega), (Blk.new_ w1 48 _ rfl).grown hg2 (by simp; omega), (hk1.alloc _).grownL hg2 (by omega), hl, valid_wz hv⟩
  have lg : w.heap.size < w1.heap.size := by omega
  clear hv hf hr1 hg1 hk1 hZ1 g1 hr2 hg2 hZx hgx hrx s1
  by_cases h0 : m = 0
  · subst h0
    have lT := hS.hT.lt
    go_wp2_with (first
      | (go_at_call 28; have _t := tok2; refine name_callsN ?_; intro wy hwy; have hry : Rdr B wy r p5 := (by rw [hwy]; exact ((hr5.setCell (by simp; omega) _).setCell (by simp; omega) _).setCell (by simp; omega) _); have gy : w.grownBy wy (some r) := (by rw [hwy]; exact only_setCell (only_setCell (only_setCell g5 (.inr (by simp; omega)) _) (.inr (by simp; omega)) _) (.inr (by simp; omega)) _); have hZy : Blk wy w.heap.size #[.int .i64 0, .int .i64 0, .slice none 0 0] := (by rw [hwy]; exact ((hZ5.far (by simp; omega) _).far (by simp; omega) _).far (by simp; omega) _); have hky : RdP (fun b => w1.heap.size < b) wy A5 0 ks5 := (by rw [hwy]; exact ((hk5.setCell (by simp) _).setCell (by simp) _).setCell (by simp) _); clear hwy; refine (ext_any (by omega) hl5 hky.rd).mono ?_; rintro e w6 ⟨k6, n6, ks6, A6, c6, rfl, hl6, hs6, hk6, hb6⟩; have s6 := hb6.size; have lZ := hZy.lt; have hz6 := hz5; have hk7 := hk6.mono (q := fun b => w.heap.size < b) (fun b hb => Nat.lt_of_lt_of_le lZ hb); have hr6 := hry.below hb6 (by omega); have g6 := only_below gy hb6; have hZ6 := hZy.keep hb6)
      | (go_at_call 26; have _t := tok1; refine (Nw.nat_any 4 (Nat.le_refl 4) B r (p1 + 1 + 1) 0 x _ (by omega) (by omega) (by omega) (by omega) (by simp [NB]; omega) (by omega) hr3).mono ?_; rintro e w5 ⟨k5, n5, ks5, A5, c5, p5, rfl, hl5, hz5, hp5, hk5, hr5, hg5⟩; replace hz5 : wz (.mk k5 n5 ks5) ≤ 2560 := (by simpa [NB] using hz5); replace hp5 : p5 ≤ p1 + 1 + 1 + 2560 := (by simpa [NB] using hp5); have s5 := hg5.size; have hZ5 := hZ3.grown hg5 (by simp; omega); have hT5 := hT3.grown hg5 (by simp; omega); have g5 := grown_trans g3 hg5; have f0 := hT5.frozen 0; have f1 := hT5.frozen 1; have f2 := hT5.frozen 2; obtain ⟨t0, t1, t2⟩ := hT5.three; have lT5 := hT5.lt; replace hk5 := hk5.mono (q := fun b => w1.heap.size < b) (fun b hb => Nat.lt_of_lt_of_le (by omega) hb); have tok2 := trivial)
      | (go_at_call 27; refine (num_any [3, 2, 4] B r (p1 + 1) w2.heap.size _ (by decide) (by decide) (by omega) (by simp; omega) (hS.rd.alloc (by omega) _) (Blk.new_ _ 3 _ rfl) (by omega)).mono ?_; rintro e w3 ⟨x, hx, rfl, hr3, hg3⟩; have hx2 := num_324 hx; have g3 := grown_trans (only_alloc hS.gr (.cells (intc [3, 2, 4]) 3)) hg3; have hZ3 := (hS.hZ.alloc (.cells (intc [3, 2, 4]) 3)).grown hg3 (by simp; omega); have hT3 := (hS.hT.alloc (.cells (intc [3, 2, 4]) 3)).grown hg3 (by simp; omega); have s3 : w2.heap.size + 1 ≤ w3.heap.size := (by have := hg3.size; simpa using this); have tok1 := trivial))
    refine (sTermValid_any k6 n6 ks6 A6 c6 _ (by omega) (hk6.rd.alloc _)).mono ?_
    rintro e w7 ⟨rfl, hb7⟩
    have hX := (Blk.new_ w6 25 #[.int .i64 k6, .int .i64 n6, .slice A6 ks6.length c6] rfl).keep hb7
    obtain ⟨x0, x1, x2⟩ := hX.three
    have hZ7 := (hZ6.alloc (.cells #[.int .i64 k6, .int .i64 n6, .slice A6 ks6.length c6] 25)).keep hb7
    have hr7 := (hr6.alloc (by omega) (.cells #[.int .i64 k6, .int .i64 n6, .slice A6 ks6.length c6] 25)).below hb7 (by simp; omega)
    have g7 := only_below (only_alloc g6 (.cells #[.int .i64 k6, .int .i64 n6, .slice A6 ks6.length c6] 25)) hb7
    have hk8 := (hk7.alloc (.cells #[.int .i64 k6, .int .i64 n6, .slice A6 ks6.length c6] 25)).below hb7
    have s7 := g7.size
    cases hv : validT (.mk k6 n6 ks6) with
    | true =>
      have hv' := hide hv
      clear hv
      obtain ⟨d0, d1, d2⟩ := hZ7.three
      have e0 := hZ7.frozen 0
      have e1 := hZ7.frozen 1
      have e2 := hZ7.frozen 2
      go_wp2_with fail
      refine bodyPost_ret (v := .agg #[.int .i64 k6, .int .i64 n6, .slice A6 ks6.length c6]) (by simp [results, Tryd.results15, go_sem, d0, d1, d2]) rfl (cdraw_done hB hrl hl6 (by omega) (by omega) hk8 hr7 g7)
    | false =>
      have hv' := hide hv
      clear hv
      go_wp2_with (go_at_call 29; refine (node0_any _ _).mono ?_; rintro e w8 ⟨A8, c8, rfl, hb8⟩; have hZ8 := hZ7.keep hb8; obtain ⟨d0, d1, d2⟩ := hZ8.three; have e0 := hZ8.frozen 0; have e1 := hZ8.frozen 1; have e2 := hZ8.frozen 2)
      refine bodyPost_ret (v := .agg #[.int .i64 4, .int .i64 0, .slice A8 0 c8]) (by simp [results, Tryd.results15, go_sem, d0, d1, d2]) rfl (cdraw_done (ks := []) hB hrl (by simp) (by simp [sizes]) (by omega) RdP.nil (hr7.below hb8 (by omega)) (only_below g7 hb8))
  · have q0 : ((m : Int) == 0) = false := beq_eq_false_iff_ne.2 (by omega)
    obtain ⟨t0, t1, t2⟩ := hS.hT.three
    go_wp2_with (go_at_call 28; refine (ext_any (by have := hS.hz; omega) hS.hl hS.hk.rd).mono ?_; rintro e w6 ⟨k6, n6, ks6, A6, c6, rfl, hl6, hs6, hk6, hb6⟩; have s6 := hb6.size; have lZ := hS.hZ.lt; have hz6 := hS.hz; have hk7 := hk6.mono (q := fun b => w.heap.size < b) (fun b hb => Nat.lt_of_lt_of_le lZ hb); have hr6 := hS.rd.below hb6 (by omega); have g6 := only_below hS.gr hb6; have hZ6 := hS.hZ.keep hb6)
    refine (sTermValid_any k6 n6 ks6 A6 c6 _ (by omega) (hk6.rd.alloc _)).mono ?_
    rintro e w7 ⟨rfl, hb7⟩
    have hX := (Blk.new_ w6 25 #[.int .i64 k6, .int .i64 n6, .slice A6 ks6.length c6] rfl).keep hb7
    obtain ⟨x0, x1, x2⟩ := hX.three
    have hZ7 := (hZ6.alloc (.cells #[.int .i64 k6, .int .i64 n6, .slice A6 ks6.length c6] 25)).keep hb7
    have hr7 := (hr6.alloc (by omega) (.cells #[.int .i64 k6, .int .i64 n6, .slice A6 ks6.length c6] 25)).below hb7 (by simp; omega)
    have g7 := only_below (only_alloc g6 (.cells #[.int .i64 k6, .int .i64 n6, .slice A6 ks6.length c6] 25)) hb7
    have hk8 := (hk7.alloc (.cells #[.int .i64 k6, .int .i64 n6, .slice A6 ks6.length c6] 25)).below hb7
    have s7 := g7.size
    cases hv : validT (.mk k6 n6 ks6) with
    | true =>
      have hv' := hide hv
      clear hv
      obtain ⟨d0, d1, d2⟩ := hZ7.three
      have e0 := hZ7.frozen 0
      have e1 := hZ7.frozen 1
      have e2 := hZ7.frozen 2
      go_wp2_with fail
      refine bodyPost_ret (v := .agg #[.int .i64 k6, .int .i64 n6, .slice A6 ks6.length c6]) (by simp [results, Tryd.results15, go_sem, d0, d1, d2]) rfl (cdraw_done hB hrl hl6 (by omega) (by omega) hk8 hr7 g7)
    | false =>
      have hv' := hide hv
      clear hv
      go_wp2_with (go_at_call 29; refine (node0_any _ _).mono ?_; rintro e w8 ⟨A8, c8, rfl, hb8⟩; have hZ8 := hZ7.keep hb8; obtain ⟨d0, d1, d2⟩ := hZ8.three; have e0 := hZ8.frozen 0; have e1 := hZ8.frozen 1; have e2 := hZ8.frozen 2)
      refine bodyPost_ret (v := .agg #[.int .i64 4, .int .i64 0, .slice A8 0 c8]) (by simp [results, Tryd.results15, go_sem, d0, d1, d2]) rfl (cdraw_done (ks := []) hB hrl (by simp) (by simp [sizes]) (by omega) RdP.nil (hr7.below hb8 (by omega)) (only_below g7 hb8))
end Go.Proofs.YtjpgdfndlmipcaaDoor.Cd

namespace Go.Proofs.YtjpgdfndlmipcaaDoor.Cd
open Go.RowKit
set_option linter.unusedSimpArgs false
set_option linter.unusedVariables false

/-- a term that has been drawn: it can be read, in blocks that are new -/
def DrawnR (B : Nat) (w : World) (r p q s : Nat) (e : Ending) (w' : World) : Prop :=
  ∃ (k n : Int) (ks : List Tm) (A : Option Addr) (c p' : Nat), e = .returned (.agg #[.int .i64 k, .int .i64 n, .slice A ks.length c]) ∧ ks.length ≤ 9223372036854775807 ∧ sizes ks + 1 ≤ s ∧ p' ≤ p + q ∧ RdP (fun b => w.heap.size ≤ b ∧ b < w'.heap.size) w' A 0 ks ∧ Rdr B w' r p' ∧ w.grownBy w' (some r)
theorem RdP.setOut {p : Nat → Prop} {w : World} {A : Option Addr} {i : Nat} {ks : List Tm} (hr : RdP p w A i ks) {a : Addr} (hp : ¬ p a.block) (u : Value) : RdP p (w.setCell a u) A i ks := hr.setCell hp u
set_option maxHeartbeats 8000000 in
set_option maxRecDepth 100000 in
theorem mutate_any (B r p : Nat) (k n : Int) (ks : List Tm) (A : Option Addr) (c : Nat) (w : World) (hp : p ≤ 900000000) (hB : B ≤ w.heap.size) (hr : Rdr B w r p) (hM : sizes ks ≤ 1000000) (hrk : Rd w A 0 ks) :
    Calls Tryd.prog 17 #[.pointer (some ⟨r, 0, none⟩), .agg #[.int .i64 k, .int .i64 n, .slice A ks.length c]] w (DrawnR B w r p 2 (sizes ks + 3)) := by
  have hrl := hr.lt
  have hlen := length_le_sizes ks
  go_enter Tryd.func17, Tryd.ntmps17
  go_wp2_with (go_at_call 30; refine (sCopyV_any _ k n ks A c _ (Nat.lt_succ_self _) (by omega) ((hrk.alloc _).alloc _)).mono ?_; rintro e w2 ⟨v, rfl, hl2, hq, hb2⟩; obtain ⟨A1, c1, rfl⟩ := hq.shape; have hZ : Blk w2 (w.heap.size + 1) #[.int .i64 0, .int .i64 0, .slice none 0 0] := (Blk.new_ (w.alloc (.cells #[.int .i64 k, .int .i64 n, .slice A ks.length c] 25)) 25 #[.int .i64 0, .int .i64 0, .slice none 0 0] (by simp)).keep hb2; have g2 : w.grownBy w2 (some r) := only_below (only_alloc (only_alloc (World.grownBy.refl _ _) _) _) hb2; have s2 : w.heap.size + 1 + 1 ≤ w2.heap.size := (by have := hb2.size; simpa using this); have hr2 : Rdr B w2 r p := ((hr.alloc (by omega) _).alloc (by simp; omega) _).below hb2 (by simp; omega); replace hq := hq.mono (B' := w.heap.size + 2) (by simp))
  refine (pick_any B r p 40 _ (by omega) (by omega) (by simp; omega) (hr2.alloc (by omega) _)).mono ?_
  rintro e w3 ⟨m, rfl, hm, hm0, hr3, hg3⟩
  clear hm hm0
  have hX := (Blk.new_ w2 25 #[.int .i64 k, .int .i64 n, .slice A1 ks.length c1] rfl).grown hg3 (by simp; omega)
  replace hZ := (hZ.alloc (.cells #[.int .i64 k, .int .i64 n, .slice A1 ks.length c1] 25)).grown hg3 (by simp; omega)
  have hfr : ∀ b, w.heap.size + 2 ≤ b → b < w2.heap.size → w3.heap[b]? = w2.heap[b]? := fun b h1 h2 => (hg3.block b (by simp; omega) (by simp; omega)).trans (Below.heap_alloc _ _ b h2)
  have g3 := grown_trans (only_alloc g2 _) hg3
  have s3 : w2.heap.size + 1 ≤ w3.heap.size := by have := hg3.size; simpa using this
  have lx := hX.lt
  have lz := hZ.lt
  have hq3 : RdP (fun b => w.heap.size + 2 ≤ b ∧ b < w2.heap.size) w3 A1 0 ks := by
    obtain ⟨A', c', e, hf⟩ := hq.fresh
    injection e with e1
    subst e1
    exact hf.rdp.blocks fun b h1 h2 => hfr b h1.1 h1.2
  have x0 := hX.at_ (i := 0) rfl
  have x1 := hX.at_ (i := 1) rfl
  have x2 := hX.at_ (i := 2) rfl
  have d0 := hZ.at_ (i := 0) rfl
  have d1 := hZ.at_ (i := 1) rfl
  have d2 := hZ.at_ (i := 2) rfl
  have e0 := hZ.frozen 0
  have e1 := hZ.frozen 1
  have e2 := hZ.frozen 2
  have hne : r ≠ w2.heap.size := by omega
  by_cases m0 : m = 0
  · subst m0
    go_wp2_with (go_at_call 27; refine (num_any [0, 11, 4, 1] B r (p + 1) w3.heap.size _ (by decide) (by decide) (by omega) (by simp; omega) (hr3.alloc (by omega) _) (Blk.new_ _ 3 _ rfl) (by omega)).mono ?_; rintro e w4 ⟨x, hx, rfl, hr4, hg4⟩; clear d0 d1 d2 e0 e1 e2 x0 x1 x2; replace hX := (hX.alloc (.cells (intc [0, 11, 4, 1]) 3)).grown hg4 (by simp; omega); replace hZ := (hZ.alloc (.cells (intc [0, 11, 4, 1]) 3)).grown hg4 (by simp; omega); replace hq3 := (hq3.alloc (.cells (intc [0, 11, 4, 1]) 3)).blocks (w' := w4) (fun b h1 h2 => hg4.block b h2 (by simp; omega)); have g4 := grown_trans (only_alloc g3 _) hg4; have s4 : w3.heap.size + 1 ≤ w4.heap.size := (by have := hg4.size; simpa using this); have lx4 := hX.lt; have lz4 := hZ.lt; have x0 := hX.at_ (i := 0) rfl; have x1 := hX.at_ (i := 1) rfl; have x2 := hX.at_ (i := 2) rfl; have f0 := hX.frozen 0; have f1 := hX.frozen 1; have d0 := hZ.at_ (i := 0) rfl; have d1 := hZ.at_ (i := 1) rfl; have d2 := hZ.at_ (i := 2) rfl; have e0 := hZ.frozen 0; have e1 := hZ.frozen 1; have e2 := hZ.frozen 2)
    refine bodyPost_ret (v := .agg #[.int .i64 x, .int .i64 n, .slice A1 ks.length c1]) (by simp [results, Tryd.results17, go_sem, d0, d1, d2]) rfl ⟨x, n, ks, A1, c1, p + 1 + 1, rfl, hl2, by omega, by omega, ?_, ?_, ?_⟩
    · exact ((((hq3.setCell (a := ⟨w2.heap.size, 0, none⟩) (by simp) _).setCell (by simp) _).setCell (by simp) _).setCell (by simp) _).mono fun b h => ⟨by omega, by simp; omega⟩
    · exact (((hr4.setCell (a := ⟨w2.heap.size, 0, none⟩) (by simp; omega) _).setCell (by simp; omega) _).setCell (by simp; omega) _).setCell (by simp; omega) _
    · exact only_setCell (only_setCell (only_setCell (only_setCell g4 (p := ⟨w2.heap.size, 0, none⟩) (.inr (by simp; omega)) _) (.inr (by simp)) _) (.inr (by simp)) _) (.inr (by simp)) _

  by_cases m1 : m = 1
  · subst m1
    go_wp2_with (go_at_call 27; refine (num_any [1, 21, -1] B r (p + 1) w3.heap.size _ (by decide) (by decide) (by omega) (by simp; omega) (hr3.alloc (by omega) _) (Blk.new_ _ 3 _ rfl) (by omega)).mono ?_; rintro e w4 ⟨x, hx, rfl, hr4, hg4⟩; clear d0 d1 d2 e0 e1 e2 x0 x1 x2; replace hX := (hX.alloc (.cells (intc [1, 21, -1]) 3)).grown hg4 (by simp; omega); replace hZ := (hZ.alloc (.cells (intc [1, 21, -1]) 3)).grown hg4 (by simp; omega); replace hq3 := (hq3.alloc (.cells (intc [1, 21, -1]) 3)).blocks (w' := w4) (fun b h1 h2 => hg4.block b h2 (by simp; omega)); have g4 := grown_trans (only_alloc g3 _) hg4; have s4 : w3.heap.size + 1 ≤ w4.heap.size := (by have := hg4.size; simpa using this); have lx4 := hX.lt; have lz4 := hZ.lt; have x0 := hX.at_ (i := 0) rfl; have x1 := hX.at_ (i := 1) rfl; have x2 := hX.at_ (i := 2) rfl; have f0 := hX.frozen 0; have f1 := hX.frozen 1; have d0 := hZ.at_ (i := 0) rfl; have d1 := hZ.at_ (i := 1) rfl; have d2 := hZ.at_ (i := 2) rfl; have e0 := hZ.frozen 0; have e1 := hZ.frozen 1; have e2 := hZ.frozen 2)
    refine bodyPost_ret (v := .agg #[.int .i64 k, .int .i64 x, .slice A1 ks.length c1]) (by simp [results, Tryd.results17, go_sem, d0, d1, d2]) rfl ⟨k, x, ks, A1, c1, p + 1 + 1, rfl, hl2, by omega, by omega, ?_, ?_, ?_⟩
    · exact ((((hq3.setCell (a := ⟨w2.heap.size, 1, none⟩) (by simp) _).setCell (by simp) _).setCell (by simp) _).setCell (by simp) _).mono fun b h => ⟨by omega, by simp; omega⟩
    · exact (((hr4.setCell (a := ⟨w2.heap.size, 1, none⟩) (by simp; omega) _).setCell (by simp; omega) _).setCell (by simp; omega) _).setCell (by simp; omega) _
    · exact only_setCell (only_setCell (only_setCell (only_setCell g4 (p := ⟨w2.heap.size, 1, none⟩) (.inr (by simp; omega)) _) (.inr (by simp)) _) (.inr (by simp)) _) (.inr (by simp)) _

  have q0 : ((m : Int) == 0) = false := beq_eq_false_iff_ne.2 (by omega)
  have q1 : ((m : Int) == 1) = false := beq_eq_false_iff_ne.2 (by omega)
  by_cases m2 : m = 2
  · subst m2
    have x2r := hX.rule (i := 2) rfl
    go_wp2_with fail
    refine wp_region_firstY (fun w' => Below w3.heap.size w3 w') [0, 1] [2, 3] [4, 5, 6] [_, _] [_, _] [_, _, _] (by kernel_rfl) (by kernel_rfl) rfl rfl rfl (fun _ _ d _ _ h => by cases d <;> exact h) (Below.refl _ _).drew ?_
    repeat (first | ((refine takeY_skip (a' := ?_) ?_ ?_ ?_); (rotate_left); (· (simp [Region.wanted, yielded]; done)); (· (simp only [List.getElem_toArray, List.getElem_cons_zero, List.getElem_cons_succ, Act.put, List.setIfInBounds_toArray, List.set_cons_zero, List.set_cons_succ]; exact rfl))) | ((refine takeY_step (v := ?_) (a' := ?_) ?_ ?_ ?_ ?_); (rotate_left 2); (· (simp [Region.wanted, yielded]; done)); (· (intro w' hS'; go_simp; try (with_reducible rfl))); (· (simp only [List.getElem_toArray, List.getElem_cons_zero, List.getElem_cons_succ, Act.put, List.setIfInBounds_toArray, List.set_cons_zero, List.set_cons_succ]; exact rfl))))
    refine takeY_nil (then_cons ?_)
    go_wp2_with (go_at_call 29; refine (node0_any _ _).mono ?_; rintro e w4 ⟨A4, c4, rfl, hb4⟩)
    have hx1 : Below w3.heap.size w3 w4 := (Below.refl _ _).drew.trans hb4
    have s4 := hx1.size
    refine mid_intro hx1 (then_cons ?_)
    go_wp2_with fail
    refine mid_intro (hx1.alloc hx1.size _) (then_nil ?_)
    refine wpList_append_leaf hq (fun b h1 h2 => (hx1.block b (by omega)).trans (hfr b h1 h2)) (by omega) (by omega) (m := ks.length) rfl (by omega) 4 0 A4 c4 rfl (.tmp 25) (.tmp 27) rfl rfl rfl ?_
    intro A2 c2 w5 hrd hg5 hown
    have hvo : ∀ g, (Value.slice A1 ks.length c1).ownBlock = some g → w.heap.size + 2 ≤ g ∧ g < w2.heap.size := hown
    have hX5 := (hX.keep hx1).grown hg5 (fun e => by have := hvo _ e.symm; omega)
    have hZ5 := (hZ.keep hx1).grown hg5 (fun e => by have := hvo _ e.symm; omega)
    have s5 := hg5.size
    have r5 : Rdr B w5 r (p + 1) := (hr3.below hx1 (by omega)).keep fun b hb => hg5.block b (by omega) (fun e => by have := hvo _ e.symm; omega)
    have g5 : w.grownBy w5 (some r) := ⟨hg5.os.trans ((only_below g3 hx1).os), hg5.tape.trans ((only_below g3 hx1).tape), hg5.output.trans ((only_below g3 hx1).output), by have := g3.size; omega, fun b hb hn => (hg5.block b (by have := g3.size; omega) (fun e => by have := hvo _ e.symm; omega)).trans ((only_below g3 hx1).block b hb hn)⟩
    clear x0 x1 x2 d0 d1 d2 e0 e1 e2 x2r
    have x0 := hX5.at_ (i := 0) rfl
    have x1 := hX5.at_ (i := 1) rfl
    have x2 := hX5.at_ (i := 2) rfl
    have f2 := hX5.frozen 2
    have d0 := hZ5.at_ (i := 0) rfl
    have d1 := hZ5.at_ (i := 1) rfl
    have d2 := hZ5.at_ (i := 2) rfl
    have e0 := hZ5.frozen 0
    have e1 := hZ5.frozen 1
    have e2 := hZ5.frozen 2
    have lx5 := hX5.lt
    have lz5 := hZ5.lt
    go_wp2_with fail
    refine bodyPost_ret (v := .agg #[.int .i64 k, .int .i64 n, .slice A2 (ks.length + 1) c2]) (by simp [results, Tryd.results17, go_sem, d0, d1, d2]) rfl ⟨k, n, ks ++ [.mk 4 0 []], A2, c2, p + 1, by simp, by simp; omega, by simp [sizes_append, sizes, Tm.size], by omega, ?_, ?_, ?_⟩
    · exact ((((hrd.setCell (a := ⟨w2.heap.size, 2, none⟩) (by simp; omega) _).setCell (by simp) _).setCell (by simp) _).setCell (by simp) _).mono fun b h => ⟨by omega, by simp; omega⟩
    · exact (((r5.setCell (a := ⟨w2.heap.size, 2, none⟩) (by simp; omega) _).setCell (by simp; omega) _).setCell (by simp; omega) _).setCell (by simp; omega) _
    · exact only_setCell (only_setCell (only_setCell (only_setCell g5 (p := ⟨w2.heap.size, 2, none⟩) (.inr (by simp; omega)) _) (.inr (by simp)) _) (.inr (by simp)) _) (.inr (by simp)) _
  have q2 : ((m : Int) == 2) = false := beq_eq_false_iff_ne.2 (by omega)
  by_cases m3 : m = 3
  · subst m3
    have hq4 := hq3.mono (q := fun b => w.heap.size + 1 < b) (fun b hb => by omega)
    have lZ := hZ.lt
    go_wp2_with (go_at_call 29; refine (node_q (L := w.heap.size + 1) (us := [.mk k n ks]) 8 (by simp; omega) (rdx_cons hl2 (hq4.alloc _) rfl) (by simp) _ 1 (Blk.new_ _ 25 _ rfl)).mono ?_; rintro e w4 ⟨A2, c2, rfl, hl4, hf4, hb4⟩; replace hZ := (hZ.alloc _).keep hb4; clear d0 d1 d2 e0 e1 e2; have d0 := hZ.at_ (i := 0) rfl; have d1 := hZ.at_ (i := 1) rfl; have d2 := hZ.at_ (i := 2) rfl; have e0 := hZ.frozen 0; have e1 := hZ.frozen 1; have e2 := hZ.frozen 2)
    have s4 : w3.heap.size + 1 ≤ w4.heap.size := by have := hb4.size; simpa using this
    have r4 := (hr3.alloc (by omega) (.cells #[.int .i64 k, .int .i64 n, .slice A1 ks.length c1] 25)).below hb4 (by simp; omega)
    have g4 := only_below (only_alloc g3 (.cells #[.int .i64 k, .int .i64 n, .slice A1 ks.length c1] 25)) hb4
    refine bodyPost_ret (v := .agg #[.int .i64 8, .int .i64 0, .slice A2 1 c2]) (by simp [results, Tryd.results17, go_sem, d0, d1, d2]) rfl ⟨8, 0, [.mk k n ks], A2, c2, p + 1, rfl, by simp, by simp [sizes, Tm.size], by omega, ?_, ?_, ?_⟩
    · exact ((((rdp_lt2.2 _ _ _ hf4).setCell (by simp) _).setCell (by simp) _).setCell (by simp) _).mono fun b h => ⟨by omega, by simp; omega⟩
    · exact ((r4.setCell (by simp; omega) _).setCell (by simp; omega) _).setCell (by simp; omega) _
    · exact only_setCell (only_setCell (only_setCell g4 (.inr (by simp)) _) (.inr (by simp)) _) (.inr (by simp)) _
  have q3 : ((m : Int) == 3) = false := beq_eq_false_iff_ne.2 (by omega)
  by_cases m4 : m = 4
  · subst m4
    have lZ := hZ.lt
    go_wp2_with (first
      | (go_at_call 29; have _t := tok1; refine (node_q (L := w.heap.size + 1) (us := [.mk 10 0 []]) 5 (by simp; omega) (rdx_cons (ks := []) (by simp) RdP.nil rfl) (by simp) _ 1 (Blk.new_ _ 25 _ rfl)).mono ?_; rintro e w5 ⟨A5, c5, rfl, hl5, hk5, hb5⟩; replace hZ := (hZ4.alloc (.cells #[.int .i64 10, .int .i64 0, .slice A4 0 c4] 25)).keep hb5; clear d0 d1 d2 e0 e1 e2; have d0 := hZ.at_ (i := 0) rfl; have d1 := hZ.at_ (i := 1) rfl; have d2 := hZ.at_ (i := 2) rfl; have e0 := hZ.frozen 0; have e1 := hZ.frozen 1; have e2 := hZ.frozen 2; have s5 : w4.heap.size + 1 ≤ w5.heap.size := (by have := hb5.size; simpa using this))
      | (go_at_call 29; refine (node0_any _ _).mono ?_; rintro e w4 ⟨A4, c4, rfl, hb4⟩; have s4 := hb4.size; have hZ4 := hZ.keep hb4; have r4 := hr3.below hb4 (by omega); have g4 := only_below g3 hb4; have tok1 := trivial))
    have r5 := (r4.alloc (by omega) (.cells #[.int .i64 10, .int .i64 0, .slice A4 0 c4] 25)).below hb5 (by simp; omega)
    have g5 := only_below (only_alloc g4 (.cells #[.int .i64 10, .int .i64 0, .slice A4 0 c4] 25)) hb5
    have hk6 := rdp_lt2.2 _ _ _ hk5
    refine bodyPost_ret (v := .agg #[.int .i64 5, .int .i64 0, .slice A5 1 c5]) (by simp [results, Tryd.results17, go_sem, d0, d1, d2]) rfl ⟨5, 0, [.mk 10 0 []], A5, c5, p + 1, rfl, by simp, by simp [sizes, Tm.size], by omega, ?_, ?_, ?_⟩
    · exact (((hk6.setCell (by simp) _).setCell (by simp) _).setCell (by simp) _).mono fun b h => ⟨by omega, by simp; omega⟩
    · exact ((r5.setCell (by simp; omega) _).setCell (by simp; omega) _).setCell (by simp; omega) _
    · exact only_setCell (only_setCell (only_setCell g5 (.inr (by simp)) _) (.inr (by simp)) _) (.inr (by simp)) _
  have q4 : ((m : Int) == 4) = false := beq_eq_false_iff_ne.2 (by omega)
  · go_wp2_with fail
    refine bodyPost_ret (v := .agg #[.int .i64 k, .int .i64 n, .slice A1 ks.length c1]) (by simp [results, Tryd.results17, go_sem, d0, d1, d2]) rfl ⟨k, n, ks, A1, c1, p + 1, rfl, hl2, by omega, by omega, ?_, ?_, ?_⟩
    · exact ((((hq3).setCell (by simp) _).setCell (by simp) _).setCell (by simp) _).mono fun b h => ⟨by omega, by simp; omega⟩
    · exact (((hr3).setCell (by simp; omega) _).setCell (by simp; omega) _).setCell (by simp; omega) _
    · exact only_setCell (only_setCell (only_setCell (g3) (.inr (by simp)) _) (.inr (by simp)) _) (.inr (by simp)) _

end Go.Proofs.YtjpgdfndlmipcaaDoor.Cd

namespace Go.Proofs.YtjpgdfndlmipcaaDoor
open Go.ChangeShapes Go.WideShapes Go.ChangeAt Go.RowKit
set_option linter.unusedSimpArgs false
set_option linter.unusedVariables false

set_option maxRecDepth 100000 in
theorem open_code {H : Type} {enc : TypeId × Value → H} {W : World} {base : Nat} {spare : Nat → Bool} {held : Bool} {r : Reach} {b0 : Nat} {v : Value} {d : DataW H} {p : List MemPlace} (hv : Value.okWide Tryd.prog W r b0 22 v) (h : DataW.Trod enc Tryd.prog W base spare held 22 v d p) :
    ∃ (xs : List Int) (A : Option Addr) (c : Nat), v = .slice A xs.length c ∧ xs.length ≤ 9223372036854775807 ∧ xs.length ≤ c ∧ RdY W A xs := by
  obtain ⟨a, len, cap, rfl⟩ := Go.WideShapes.okWide_slice Tryd.underlying22 hv
  obtain ⟨fuel, hf⟩ := h
  have hmax : maxLen ≤ 9223372036854775807 := by decide
  rcases open_ints Tryd.underlying22 Tryd.underlying5 (by kernel_rfl) hf with ⟨hcs, _⟩ | ⟨a', len', cap', zs, hcs, _, hl, hm, hz, _, hcell, hwf⟩
  · injection hcs with hcs
    injection hcs with e1 e2 e3
    subst e1 e2 e3
    exact ⟨[], none, 0, rfl, by simp, by simp, fun j hj => absurd hj (Nat.not_lt_zero _)⟩
  · injection hcs with hcs
    injection hcs with e1 e2 e3
    subst e1 e2 e3
    have hzl : len ≤ zs.length := by rw [hz]; split <;> omega
    refine ⟨zs.take len, some a', cap, by rw [List.length_take, Nat.min_eq_left hzl], by rw [List.length_take]; omega, by rw [List.length_take]; omega, fun j hj => ?_⟩
    rw [List.length_take, Nat.min_eq_left hzl] at hj
    have h1 := hcell j (by omega)
    have h00 := hcell 0 (by omega)
    obtain ⟨b, off, spot⟩ := a'
    have hspot : spot = none := by
      have := World.cell?_spot h00
      simpa [Addr.add] using this
    subst hspot
    have e : (⟨b, off, none⟩ : Addr).add j = ⟨b, off + j, none⟩ := by unfold Addr.add; split <;> simp_all
    rw [e, List.getD_eq_getElem?_getD, List.getElem?_eq_getElem (by omega), Option.getD_some] at h1
    have hw := hwf zs[j] (List.getElem_mem _)
    have hw' : (decide ((0 : Int) ≤ zs[j]) && decide (zs[j] ≤ 255)) = true := hw
    simp only [Bool.and_eq_true, decide_eq_true_eq] at hw'
    exact ⟨b, off, rfl, by rw [h1, List.getElem_take], by rw [List.getElem_take]; exact hw'.1, by rw [List.getElem_take]; exact hw'.2⟩
section
variable {H : Type} {enc : TypeId × Value → H} {P : Program}
/-- the row's last step, where of the world behind the call 'Below' alone is known -/
theorem post_below {f : Func} {s : ChangeSpec} {apart fresh handsOn again : Bool} {W W' : World} {args : Array Value} {v : Value} {ds gs : List (DataW H)} {before pa pv : List MemPlace}
    (hW : DataW.Whole enc P f.params.toList s.vars apart W args.toList ds gs before)
    (hres : ∀ (b : Nat) (sp : Nat → Bool) (hd : Bool), DataW.TrodAll enc P W' b sp hd f.resultTypes.toList (v.resultList f.resultTypes.size) (s.fn H (ds ++ gs)).results [])
    (hargs : ∀ sp : Nat → Bool, (∀ p ∈ before, sp p.block = true) → DataW.TrodAll enc P W' 0 sp true f.params.toList args.toList (s.fn H (ds ++ gs)).args pa)
    (hvars : ∀ sp : Nat → Bool, (∀ p ∈ before, sp p.block = true) → DataW.TrodVars enc P W' sp s.vars (s.fn H (ds ++ gs)).vars pv)
    (hps : before = pa ++ pv) (hb : Below W.heap.size W W')
    (hok : ∀ (j : Nat) (t : TypeId) (r : Value), f.resultTypes[j]? = some t → (v.resultList f.resultTypes.size)[j]? = some r → Value.okWide P W' .any 0 t r) :
    s.post enc P f apart fresh handsOn again W args v W' := by
  have hlt : ∀ p ∈ before, p.block < W.heap.size := fun p hp => hW.lt p hp
  have hold : ∀ p ∈ before, (fun b => decide (b < W.heap.size)) p.block = true := fun p hp => by simpa using hlt p hp
  refine ⟨ds, gs, before, [], pa, pv, hW, hres _ _ _, hargs _ hold, hvars _ hold, World.keptBut_mono (fun p hp => ⟨hp, ?_⟩) (hb.frame (· ∈ before)), fun _ => ?_⟩
  · rw [hps, List.mem_append] at hp
    exact Or.inr hp
  · obtain ⟨_, _, _, _, _, hz, hn⟩ := hW
    refine ⟨hok, _, _, ([] ++ pa) ++ pv, ⟨[] ++ pa, pv, trodAll_append (hargs _ (fun _ _ => rfl)) (hres _ _ _), hvars _ (fun _ _ => rfl), rfl, ?_, ?_⟩, ?_⟩
    · intro b off hp
      have hin : MemPlace.cell b off ∈ before := by rw [hps]; simpa using hp
      rw [hb.frozen (hlt _ hin)]
      exact hz b off hin
    · intro ha
      have := hn ha
      rw [hps] at this
      simpa using this
    · intro p hp _
      rw [hps]
      simpa using hp
end
end Go.Proofs.YtjpgdfndlmipcaaDoor
