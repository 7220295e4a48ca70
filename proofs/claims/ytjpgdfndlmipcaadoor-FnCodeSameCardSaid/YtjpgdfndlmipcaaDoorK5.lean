/-
  Texts of this claim, merged: contracts of the functions that the law reaches. No condition.
-/
import Derived.Test.YtjpgdfndlmipcaaDoorK1
import Derived.Test.YtjpgdfndlmipcaaDoorK2
import Derived.Test.YtjpgdfndlmipcaaDoorK4
import Derived.Laws.IdiomStrings
import Derived.Test.YtjpgdfndlmipcaaDoorShelf
import Derived.Lib.ReplaceLaws

namespace Go.Proofs.YtjpgdfndlmipcaaDoor
open Go.RowKit
set_option linter.unusedSimpArgs false
set_option linter.unusedVariables false

/-- terms that have been read, and the place behind them -/
def ParsedL (w : World) (ts : List Tm) (j : Nat) (e : Ending) (w' : World) : Prop :=
  ∃ (m : Nat) (A : Option Addr) (c : Nat), m = j ∧ e = .returned (.tuple #[.slice A ts.length c, .int .i64 m]) ∧ Fresh w.heap.size w' A ts ∧ Below w.heap.size w w'
/-- the place behind the next text, and what stands there -/
theorem ser_step {c : UInt8} {xs : List (List UInt8)} {j : Nat} {x : List UInt8} (hj : j < xs.length) (hx : xs[j] = x) :
    ser c (xs.drop j) = x ++ (if j + 1 < xs.length then 44 else c) :: ser c (xs.drop (j + 1)) := by
  rw [List.drop_eq_getElem_cons hj, hx]
  by_cases h : j + 1 < xs.length
  · rw [if_pos h, List.drop_eq_getElem_cons h, ser_more]
  · rw [if_neg h, List.drop_eq_nil_of_le (by omega : xs.length ≤ j + 1), ser_one]
    simp [ser]
set_option maxHeartbeats 4000000 in
set_option maxRecDepth 100000 in
theorem series_any {d : Nat} (c : UInt8) (hcd : c.toNat < 48 ∨ 57 < c.toNat) (ts : List Tm) (xs : List (List UInt8)) (hl : xs.length = ts.length) (hl4 : ts.length ≤ 4)
    (ih : ∀ (j : Nat) (k n : Int) (ks : List Tm) (x : List UInt8), ts[j]? = some (.mk k n ks) → xs[j]? = some x → ParseOk k n ks x d)
    (s : ByteArray) (i : Nat) (I D : Int) (w : World) (hs : s.size ≤ 1000000) (hI : I = i) (hh : Has s i (ser c xs)) (hD : (d : Int) ≤ D) (hD2 : D ≤ 1000) :
    Calls Tryd.prog 80 #[.string s, .int .i64 I, .int .i64 D, .int .i64 ts.length, .int .u8 c.toNat] w (ParsedL w ts (i + (ser c xs).length)) := by
  subst hI
  have hl' := hide hl
  have hh' := hide hh
  have ih' := hide ih
  clear hl hh ih
  obtain ⟨cv, hcv⟩ : ∃ cv, c.toNat = cv := ⟨_, rfl⟩
  rw [hcv] at hcd ⊢
  have hcv' := hide hcv
  clear hcv
  go_enter Tryd.func80, Tryd.ntmps80
  go_wp2_with fail
  go_loopw [1, 12, 13] (fun a v jv wr => ∃ (j p : Nat), j ≤ ts.length ∧ jv = .int .i64 j ∧ a = .int .i64 p ∧ Part w.heap.size wr v (ts.take j) ∧ Has s p (ser c (xs.drop j)) ∧ p + (ser c (xs.drop j)).length = i + (ser c xs).length ∧ Below w.heap.size w wr) (fun _ _ jv _ => ts.length - (intOf jv).toNat)
  case atStart => exact ⟨0, i, Nat.zero_le _, rfl, rfl, Part.empty_ rfl (Nat.le_refl _), hh'.out, by simp, (Below.refl _ _).alloc (Nat.le_refl _) _⟩
  case round =>
    obtain ⟨j, p, hj, rfl, rfl, hp, hs1, hs2, hb⟩ := hrel
    have hs2' := hide hs2
    clear hs2
    by_cases hlt : j < ts.length
    · have hlx : j < xs.length := by have := hl'.out; omega
      obtain ⟨k1, n1, ks1, hk1⟩ : ∃ k n ks, ts[j] = .mk k n ks := by cases h : ts[j]; exact ⟨_, _, _, rfl⟩
      obtain ⟨x, hx⟩ : ∃ x, xs[j] = x := ⟨_, rfl⟩
      have hst := ser_step (c := c) hlx hx
      rw [hst] at hs1
      obtain ⟨hh1, hh2⟩ := hs1.app
      obtain ⟨⟨hi, hc⟩, hh3⟩ := hh2.cons
      have hnd : Nd s (p + x.length) := .of hh2 (by split; decide; rw [hcv'.out]; exact hcd)
      obtain ⟨j1, hj1⟩ : ∃ j1, j1 = p + x.length := ⟨_, rfl⟩
      have hi1 : j1 < s.size := by omega
      have he1 : (s[j1]'hi1).toNat = if j + 1 < ts.length then 44 else cv := by
        subst hj1
        rw [hc, ← hl'.out]
        split
        · rfl
        · exact hcv'.out
      have hpar := hide (fun w => show Calls Tryd.prog 48 #[.string s, .int .i64 p, .int .i64 D] w (ParsedT w k1 n1 ks1 j1) by rw [hj1]; exact ih'.out j k1 n1 ks1 x (by rw [List.getElem?_eq_getElem hlt, hk1]) (by rw [List.getElem?_eq_getElem hlx, hx]) s p p D w hs rfl hh1 hnd hD hD2)
      have hend : Hid (j1 + 1 + (ser c (xs.drop (j + 1))).length = i + (ser c xs).length) := by
        have := hs2'.out; rw [hst] at this; simp only [List.length_append, List.length_cons] at this; show _ = _; omega
      have hk1' := hide hk1
      have hh3' := hide (hj1 ▸ hh3)
      clear hh1 hh2 hh3 hst hs1 hnd hk1 hc hi hj1 hx hlx
      by_cases hmore : j + 1 < ts.length
      · rw [if_pos hmore] at he1
        have q1 : decide ((j : Int) + 1 < (ts.length : Int)) = true := decide_eq_true (by omega)
        have q2 : (((j : Int) + 1) == (ts.length : Int)) = false := beq_eq_false_iff_ne.2 (by omega)
        go_wp2_with (first
          | (at_builtin; refine wpList_append_built (B := w.heap.size) (m := j) (k := k1) (n := n1) (c := c1) hp (hb1.alloc hb1.size _) (by have := hb.size; omega) (hf1.alloc _) hl1 (by rw [List.length_take]; omega) (by omega) rfl _ _ rfl rfl (by show Value.slice (some ⟨w1.heap.size + 1, 0, none⟩) 1 1 = _; simp) ?_; intro A2 c2 w2 hp2 hb2 hg2)
          | (go_at_call 48; refine (hpar.out _).mono ?_; rintro e w1 ⟨m, A1, c1, hm, rfl, hl1, hf1, hb1⟩; subst hm))
        go_roundw
        case rel => exact ⟨j + 1, m + 1, by omega, by go_num, by go_num, by rw [List.take_succ_eq_append_getElem hlt, hk1'.out]; exact hp2, hh3'.out, hend.out, (hb.trans (hb1.mono hb.size)).trans (((Below.refl _ _).alloc (by have := hb.size; have := hb1.size; omega) _).trans hb2)⟩
        case measure => simp [intOf]; omega
      · rw [if_neg hmore] at he1
        have q1 : decide ((j : Int) + 1 < (ts.length : Int)) = false := decide_eq_false (by omega)
        have q2 : (((j : Int) + 1) == (ts.length : Int)) = true := by rw [show ((j : Int) + 1) = (ts.length : Int) by omega]; exact beq_self_eq_true _
        go_wp2_with (first
          | (at_builtin; refine wpList_append_built (B := w.heap.size) (m := j) (k := k1) (n := n1) (c := c1) hp (hb1.alloc hb1.size _) (by have := hb.size; omega) (hf1.alloc _) hl1 (by rw [List.length_take]; omega) (by omega) rfl _ _ rfl rfl (by show Value.slice (some ⟨w1.heap.size + 1, 0, none⟩) 1 1 = _; simp) ?_; intro A2 c2 w2 hp2 hb2 hg2)
          | (go_at_call 48; refine (hpar.out _).mono ?_; rintro e w1 ⟨m, A1, c1, hm, rfl, hl1, hf1, hb1⟩; subst hm))
        go_roundw
        case rel => exact ⟨j + 1, m + 1, by omega, by go_num, by go_num, by rw [List.take_succ_eq_append_getElem hlt, hk1'.out]; exact hp2, hh3'.out, hend.out, (hb.trans (hb1.mono hb.size)).trans (((Below.refl _ _).alloc (by have := hb.size; have := hb1.size; omega) _).trans hb2)⟩
        case measure => simp [intOf]; omega
    · have hjl : j = ts.length := by omega
      subst hjl
      rw [List.take_length] at hp
      obtain ⟨Ar, cr, rfl, hfr⟩ := hp.fresh
      have hx0 : ser c (xs.drop ts.length) = [] := by rw [← hl'.out, List.drop_length]; rfl
      have hfin := hide (show p = i + (ser c xs).length by have := hs2'.out; rw [hx0] at this; simpa using this)
      clear hs1 hx0
      go_wp2_with fail
      go_ret2
      exact ⟨p, Ar, cr, hfin.out, rfl, hfr, hb⟩
end Go.Proofs.YtjpgdfndlmipcaaDoor

namespace Go.Proofs.YtjpgdfndlmipcaaDoor
open Go.RowKit
set_option linter.unusedSimpArgs false
set_option linter.unusedVariables false

set_option maxHeartbeats 4000000 in
set_option maxRecDepth 100000 in
theorem block_any {d : Nat} {k : Int} {m : Nat} {o : List UInt8} {c : UInt8} (h : BlkK k m o c) (ts : List Tm) (xs : List (List UInt8)) (hm : ts.length = m) (hx : xs.length = m)
    (ih : ∀ (j : Nat) (k n : Int) (ks : List Tm) (x : List UInt8), ts[j]? = some (.mk k n ks) → xs[j]? = some x → ParseOk k n ks x d)
    (s : ByteArray) (i : Nat) (I D : Int) (w : World) (hs : s.size ≤ 1000000) (hI : I = i) (hh : Has s i (o ++ ser c xs)) (hD : (d : Int) + 1 ≤ D) (hD2 : D ≤ 1000) :
    Calls Tryd.prog 63 #[.string s, .int .i64 I, .int .i64 D] w (ParsedT w k 0 ts (i + (o ++ ser c xs).length)) := by
  subst hI
  obtain ⟨hh1, hh2⟩ := hh.app
  rw [List.length_append, ← Nat.add_assoc]
  have enter : ∀ (q j : Nat) (hi : i < s.size) (z : Nat), (s[i]'hi).toNat = z → (o.length = 2 → ∃ (hi2 : i + 1 < s.size), (s[i + 1]'hi2).toNat = 60) → q = i + o.length → o.head? = some (UInt8.ofNat z) →
      (∀ w (I : Int), I = q → Calls Tryd.prog 80 #[.string s, .int .i64 I, .int .i64 (D - 1), .int .i64 m, .int .u8 c.toNat] w (ParsedL w ts j)) → z < 256 → Calls Tryd.prog 63 #[.string s, .int .i64 i, .int .i64 D] w (ParsedT w k 0 ts j) := by
    clear hh hh1 hh2 ih hx
    intro q j hi z he h2 hq hz hp hz256
    have hts : (ts.length : Int) = m := by omega
    have htl : ts.length = m := hm
    have hp' := hide hp
    clear hp hm hts
    have hm' := hide htl
    clear htl
    rcases h with ⟨rfl, rfl, rfl, rfl⟩ | ⟨rfl, rfl, rfl, rfl⟩ | ⟨rfl, rfl, rfl, rfl⟩ | ⟨rfl, rfl, rfl, rfl⟩
    case inl =>
      have hz : z = 60 := by simp only [List.head?_cons, Option.some.injEq] at hz; have := congrArg UInt8.toNat hz; simp at this; omega
      subst hz
      have ha : arity 9 = 4 := by decide
      clear h2 hz256
      go_enter Tryd.func63, Tryd.ntmps63
      go_wp2_with (first
        | (go_at_call 80; refine (hp'.out _ _ (by rw [hq]; simp)).mono ?_; rintro e w1 ⟨m1, A1, c1, hm1, rfl, hf1, hb1⟩; have hm1' := hide hm1; clear hm1; have hZ := (Blk.new_ w 48 #[.int .i64 0, .int .i64 0, .slice none 0 0] rfl).keep hb1; have d0 := hZ.at_ (i := 0) rfl; have d1 := hZ.at_ (i := 1) rfl; have d2 := hZ.at_ (i := 2) rfl; have e0 := hZ.frozen 0; have e1 := hZ.frozen 1; have e2 := hZ.frozen 2; have g1 : Below w.heap.size w w1 := ((Below.refl _ _).alloc (Nat.le_refl _) _).trans (hb1.mono (by simp)))
        | (go_at_call 66; refine (l1Kids_any _ _).mono ?_; rintro e w9 ⟨rfl, rfl⟩))
      refine bodyPost_ret (v := .tuple #[.agg #[.int .i64 9, .int .i64 0, .slice A1 ts.length c1], .int .i64 m1]) (by simp [results, Tryd.results63, go_sem, d0, d1, d2]) rfl ⟨m1, A1, c1, hm1'.out, rfl, by have := hm'.out; omega, ?_, ((g1.setCell (by simp) _).setCell (by simp) _).setCell (by simp) _⟩
      exact (((hf1.setCell (by simp) _).setCell (by simp) _).setCell (by simp) _).mono (by simp)
    case inr.inl =>
      have hz : z = 123 := by simp only [List.head?_cons, Option.some.injEq] at hz; have := congrArg UInt8.toNat hz; simp at this; omega
      subst hz
      have ha : arity 10 = 3 := by decide
      clear h2 hz256
      go_enter Tryd.func63, Tryd.ntmps63
      go_wp2_with (first
        | (go_at_call 80; refine (hp'.out _ _ (by rw [hq]; simp)).mono ?_; rintro e w1 ⟨m1, A1, c1, hm1, rfl, hf1, hb1⟩; have hm1' := hide hm1; clear hm1; have hZ := (Blk.new_ w 48 #[.int .i64 0, .int .i64 0, .slice none 0 0] rfl).keep hb1; have d0 := hZ.at_ (i := 0) rfl; have d1 := hZ.at_ (i := 1) rfl; have d2 := hZ.at_ (i := 2) rfl; have e0 := hZ.frozen 0; have e1 := hZ.frozen 1; have e2 := hZ.frozen 2; have g1 : Below w.heap.size w w1 := ((Below.refl _ _).alloc (Nat.le_refl _) _).trans (hb1.mono (by simp)))
        | (go_at_call 66; refine (l1Kids_any _ _).mono ?_; rintro e w9 ⟨rfl, rfl⟩))
      refine bodyPost_ret (v := .tuple #[.agg #[.int .i64 10, .int .i64 0, .slice A1 ts.length c1], .int .i64 m1]) (by simp [results, Tryd.results63, go_sem, d0, d1, d2]) rfl ⟨m1, A1, c1, hm1'.out, rfl, by have := hm'.out; omega, ?_, ((g1.setCell (by simp) _).setCell (by simp) _).setCell (by simp) _⟩
      exact (((hf1.setCell (by simp) _).setCell (by simp) _).setCell (by simp) _).mono (by simp)
    case inr.inr.inl =>
      have hz : z = 124 := by simp only [List.head?_cons, Option.some.injEq] at hz; have := congrArg UInt8.toNat hz; simp at this; omega
      subst hz
      have ha : arity 14 = 3 := by decide
      clear h2 hz256
      go_enter Tryd.func63, Tryd.ntmps63
      go_wp2_with (first
        | (go_at_call 80; refine (hp'.out _ _ (by rw [hq]; simp)).mono ?_; rintro e w1 ⟨m1, A1, c1, hm1, rfl, hf1, hb1⟩; have hm1' := hide hm1; clear hm1; have hZ := (Blk.new_ w 48 #[.int .i64 0, .int .i64 0, .slice none 0 0] rfl).keep hb1; have d0 := hZ.at_ (i := 0) rfl; have d1 := hZ.at_ (i := 1) rfl; have d2 := hZ.at_ (i := 2) rfl; have e0 := hZ.frozen 0; have e1 := hZ.frozen 1; have e2 := hZ.frozen 2; have g1 : Below w.heap.size w w1 := ((Below.refl _ _).alloc (Nat.le_refl _) _).trans (hb1.mono (by simp)))
        | (go_at_call 66; refine (l1Kids_any _ _).mono ?_; rintro e w9 ⟨rfl, rfl⟩))
      refine bodyPost_ret (v := .tuple #[.agg #[.int .i64 14, .int .i64 0, .slice A1 ts.length c1], .int .i64 m1]) (by simp [results, Tryd.results63, go_sem, d0, d1, d2]) rfl ⟨m1, A1, c1, hm1'.out, rfl, by have := hm'.out; omega, ?_, ((g1.setCell (by simp) _).setCell (by simp) _).setCell (by simp) _⟩
      exact (((hf1.setCell (by simp) _).setCell (by simp) _).setCell (by simp) _).mono (by simp)
    case inr.inr.inr =>
      obtain ⟨hi2, he2⟩ := h2 rfl
      have hz : z = 64 := by simp only [List.head?_cons, Option.some.injEq] at hz; have := congrArg UInt8.toNat hz; simp at this; omega
      subst hz
      have ha : arity 12 = 3 := by decide
      clear h2 hz256
      go_enter Tryd.func63, Tryd.ntmps63
      go_wp2_with (first
        | (go_at_call 80; refine (hp'.out _ _ (by rw [hq]; simp)).mono ?_; rintro e w1 ⟨m1, A1, c1, hm1, rfl, hf1, hb1⟩; have hm1' := hide hm1; clear hm1; have hZ := (Blk.new_ w 48 #[.int .i64 0, .int .i64 0, .slice none 0 0] rfl).keep hb1; have d0 := hZ.at_ (i := 0) rfl; have d1 := hZ.at_ (i := 1) rfl; have d2 := hZ.at_ (i := 2) rfl; have e0 := hZ.frozen 0; have e1 := hZ.frozen 1; have e2 := hZ.frozen 2; have g1 : Below w.heap.size w w1 := ((Below.refl _ _).alloc (Nat.le_refl _) _).trans (hb1.mono (by simp)))
        | (go_at_call 66; refine (l1Kids_any _ _).mono ?_; rintro e w9 ⟨rfl, rfl⟩))
      refine bodyPost_ret (v := .tuple #[.agg #[.int .i64 12, .int .i64 0, .slice A1 ts.length c1], .int .i64 m1]) (by simp [results, Tryd.results63, go_sem, d0, d1, d2]) rfl ⟨m1, A1, c1, hm1'.out, rfl, by have := hm'.out; omega, ?_, ((g1.setCell (by simp) _).setCell (by simp) _).setCell (by simp) _⟩
      exact (((hf1.setCell (by simp) _).setCell (by simp) _).setCell (by simp) _).mono (by simp)
  have hcd : c.toNat < 48 ∨ 57 < c.toNat := by rcases h with ⟨_, _, _, rfl⟩ | ⟨_, _, _, rfl⟩ | ⟨_, _, _, rfl⟩ | ⟨_, _, _, rfl⟩ <;> decide
  have hm4 : ts.length ≤ 4 := by rcases h with ⟨_, rfl, _, _⟩ | ⟨_, rfl, _, _⟩ | ⟨_, rfl, _, _⟩ | ⟨_, rfl, _, _⟩ <;> omega
  obtain ⟨a, ao, hao⟩ : ∃ a ao, o = a :: ao := by rcases h with ⟨_, _, rfl, _⟩ | ⟨_, _, rfl, _⟩ | ⟨_, _, rfl, _⟩ | ⟨_, _, rfl, _⟩ <;> exact ⟨_, _, rfl⟩
  have hh1' := hh1
  rw [hao] at hh1'
  obtain ⟨⟨hi, hc⟩, hh3⟩ := hh1'.cons
  refine enter (i + o.length) _ hi _ rfl ?_ rfl ?_ ?_ (UInt8.toNat_lt _)
  · intro h2
    rcases h with ⟨_, _, rfl, _⟩ | ⟨_, _, rfl, _⟩ | ⟨_, _, rfl, _⟩ | ⟨_, _, rfl, _⟩ <;> simp at h2
    injection hao with h4 h5
    subst h5
    obtain ⟨⟨hi2, hc2⟩, _⟩ := hh3.cons
    exact ⟨hi2, by rw [hc2]; rfl⟩
  · rw [hc, hao]; simp
  · intro w I hI
    have := series_any c hcd ts xs (by omega) hm4 ih s (i + o.length) I (D - 1) w hs hI hh2 (by omega) (by omega)
    rwa [hm] at this
end Go.Proofs.YtjpgdfndlmipcaaDoor

namespace Go.Proofs.YtjpgdfndlmipcaaDoor
open Go.RowKit
set_option linter.unusedSimpArgs false
set_option linter.unusedVariables false

/-- a place in a string where a sign stands, as numbers -/
theorem at_byte {s : ByteArray} {i : Nat} {c : UInt8} {bs : List UInt8} (h : Has s i (c :: bs)) {z : Nat} (hz : c.toNat = z) : ∃ hi : i < s.size, (s[i]'hi).toNat = z := by
  obtain ⟨⟨hi, hc⟩, _⟩ := h.cons
  exact ⟨hi, by rw [hc, hz]⟩
theorem ParsedT.cast {w : World} {k n : Int} {ks : List Tm} {j j' : Nat} {e : Ending} {w' : World} (h : ParsedT w k n ks j e w') (hj : j = j') : ParsedT w k n ks j' e w' := hj ▸ h

section
variable (s : ByteArray) (i : Nat) (D : Int) (w : World)
set_option maxHeartbeats 4000000 in
set_option maxRecDepth 100000 in
theorem parse_var (n : Int) (c : UInt8) (h : 0 ≤ n ∧ n ≤ 9 ∧ (c.toNat : Int) = 48 + n) (hs : s.size ≤ 1000000) (hh : Has s i [35, c]) (hn : Nd s (i + 2)) (hD : 1 ≤ D) (hD2 : D ≤ 1000) :
    Calls Tryd.prog 48 #[.string s, .int .i64 i, .int .i64 D] w (ParsedT w 1 n [] (i + 2)) := by
  obtain ⟨hi, he⟩ := at_byte hh (z := 35) rfl
  obtain ⟨_, hh2⟩ := hh.cons
  obtain ⟨hi2, he2⟩ := at_byte hh2 (z := c.toNat) rfl
  have hnum := hide (fun w => l1Number_one s (i + 1) c.toNat 2 w (.inr rfl) hs hi2 he2 (by omega) (by omega) (fun _ => hn))
  have hcn : Hid ((c.toNat : Int) - 48 = n) := hide (by omega)
  clear hh hh2 he2 hn
  go_enter Tryd.func48, Tryd.ntmps48
  go_wp2_with (first
    | (go_at_call 43; refine (sLeaf_any _ _ _).mono ?_; rintro e w1 ⟨rfl, hb1⟩; have hZ := (Blk.new_ w 48 #[.int .i64 0, .int .i64 0, .slice none 0 0] rfl).keep hb1; have d0 := hZ.at_ (i := 0) rfl; have d1 := hZ.at_ (i := 1) rfl; have d2 := hZ.at_ (i := 2) rfl; have e0 := hZ.frozen 0; have e1 := hZ.frozen 1; have e2 := hZ.frozen 2; have g1 : Below w.heap.size w w1 := ((Below.refl _ _).alloc (Nat.le_refl _) _).trans (hb1.mono (by simp)))
    | (go_at_call 60; refine (hnum.out _).mono ?_; rintro e w9 ⟨rfl, rfl⟩; rw [hcn.out]))
  refine bodyPost_ret (v := .tuple #[.agg #[.int .i64 1, .int .i64 n, .slice none 0 0], .int .i64 ((i + 2 : Nat) : Int)]) (by simp [results, Tryd.results48, go_sem, d0, d1, d2]; omega) rfl ⟨i + 2, none, 0, rfl, rfl, by simp, Fresh.nil, ((g1.setCell (by simp) _).setCell (by simp) _).setCell (by simp) _⟩
set_option maxHeartbeats 4000000 in
set_option maxRecDepth 100000 in
theorem parse_sort (n : Int) (c : UInt8) (h : 0 ≤ n ∧ n ≤ 3 ∧ (c.toNat : Int) = 48 + n) (hs : s.size ≤ 1000000) (hh : Has s i [42, c]) (hn : Nd s (i + 2)) (hD : 1 ≤ D) (hD2 : D ≤ 1000) :
    Calls Tryd.prog 48 #[.string s, .int .i64 i, .int .i64 D] w (ParsedT w 2 n [] (i + 2)) := by
  obtain ⟨hi, he⟩ := at_byte hh (z := 42) rfl
  obtain ⟨_, hh2⟩ := hh.cons
  obtain ⟨hi2, he2⟩ := at_byte hh2 (z := c.toNat) rfl
  have hnum := hide (fun w => l1Number_one s (i + 1) c.toNat 1 w (.inl rfl) hs hi2 he2 (by omega) (by omega) (fun h => absurd h (by decide)))
  have hcn : Hid ((c.toNat : Int) - 48 = n) := hide (by omega)
  clear hh hh2 he2 hn
  go_enter Tryd.func48, Tryd.ntmps48
  go_wp2_with (first
    | (go_at_call 43; refine (sLeaf_any _ _ _).mono ?_; rintro e w1 ⟨rfl, hb1⟩; have hZ := (Blk.new_ w 48 #[.int .i64 0, .int .i64 0, .slice none 0 0] rfl).keep hb1; have d0 := hZ.at_ (i := 0) rfl; have d1 := hZ.at_ (i := 1) rfl; have d2 := hZ.at_ (i := 2) rfl; have e0 := hZ.frozen 0; have e1 := hZ.frozen 1; have e2 := hZ.frozen 2; have g1 : Below w.heap.size w w1 := ((Below.refl _ _).alloc (Nat.le_refl _) _).trans (hb1.mono (by simp)))
    | (go_at_call 60; refine (hnum.out _).mono ?_; rintro e w9 ⟨rfl, rfl⟩; rw [hcn.out]))
  refine bodyPost_ret (v := .tuple #[.agg #[.int .i64 2, .int .i64 n, .slice none 0 0], .int .i64 ((i + 2 : Nat) : Int)]) (by simp [results, Tryd.results48, go_sem, d0, d1, d2]; omega) rfl ⟨i + 2, none, 0, rfl, rfl, by simp, Fresh.nil, ((g1.setCell (by simp) _).setCell (by simp) _).setCell (by simp) _⟩
set_option maxHeartbeats 4000000 in
set_option maxRecDepth 100000 in
theorem parse_nat (hs : s.size ≤ 1000000) (hh : Has s i [78]) (hD : 1 ≤ D) (hD2 : D ≤ 1000) :
    Calls Tryd.prog 48 #[.string s, .int .i64 i, .int .i64 D] w (ParsedT w 6 0 [] (i + 1)) := by
  obtain ⟨hi, he⟩ := at_byte hh (z := 78) rfl
  clear hh
  go_enter Tryd.func48, Tryd.ntmps48
  go_wp2_with (go_at_call 43; refine (sLeaf_any _ _ _).mono ?_; rintro e w1 ⟨rfl, hb1⟩; have hZ := (Blk.new_ w 48 #[.int .i64 0, .int .i64 0, .slice none 0 0] rfl).keep hb1; have d0 := hZ.at_ (i := 0) rfl; have d1 := hZ.at_ (i := 1) rfl; have d2 := hZ.at_ (i := 2) rfl; have e0 := hZ.frozen 0; have e1 := hZ.frozen 1; have e2 := hZ.frozen 2; have g1 : Below w.heap.size w w1 := ((Below.refl _ _).alloc (Nat.le_refl _) _).trans (hb1.mono (by simp)))
  refine bodyPost_ret (v := .tuple #[.agg #[.int .i64 6, .int .i64 0, .slice none 0 0], .int .i64 ((i + 1 : Nat) : Int)]) (by simp [results, Tryd.results48, go_sem, d0, d1, d2]) rfl ⟨i + 1, none, 0, rfl, rfl, by simp, Fresh.nil, ((g1.setCell (by simp) _).setCell (by simp) _).setCell (by simp) _⟩
set_option maxHeartbeats 4000000 in
set_option maxRecDepth 100000 in
theorem parse_zero (hs : s.size ≤ 1000000) (hh : Has s i [48]) (hD : 1 ≤ D) (hD2 : D ≤ 1000) :
    Calls Tryd.prog 48 #[.string s, .int .i64 i, .int .i64 D] w (ParsedT w 7 0 [] (i + 1)) := by
  obtain ⟨hi, he⟩ := at_byte hh (z := 48) rfl
  clear hh
  go_enter Tryd.func48, Tryd.ntmps48
  go_wp2_with (go_at_call 43; refine (sLeaf_any _ _ _).mono ?_; rintro e w1 ⟨rfl, hb1⟩; have hZ := (Blk.new_ w 48 #[.int .i64 0, .int .i64 0, .slice none 0 0] rfl).keep hb1; have d0 := hZ.at_ (i := 0) rfl; have d1 := hZ.at_ (i := 1) rfl; have d2 := hZ.at_ (i := 2) rfl; have e0 := hZ.frozen 0; have e1 := hZ.frozen 1; have e2 := hZ.frozen 2; have g1 : Below w.heap.size w w1 := ((Below.refl _ _).alloc (Nat.le_refl _) _).trans (hb1.mono (by simp)))
  refine bodyPost_ret (v := .tuple #[.agg #[.int .i64 7, .int .i64 0, .slice none 0 0], .int .i64 ((i + 1 : Nat) : Int)]) (by simp [results, Tryd.results48, go_sem, d0, d1, d2]) rfl ⟨i + 1, none, 0, rfl, rfl, by simp, Fresh.nil, ((g1.setCell (by simp) _).setCell (by simp) _).setCell (by simp) _⟩
set_option maxHeartbeats 4000000 in
set_option maxRecDepth 100000 in
theorem parse_pre (z j : Nat) (k : Int) (ks : List Tm) (hz : z = 43 ∨ z = 33 ∨ z = 94 ∨ z = 95) (hs : s.size ≤ 1000000) (hi : i < s.size) (he : (s[i]'hi).toNat = z) (hD : 1 ≤ D) (hD2 : D ≤ 1000) (hl : ks.length ≤ 9223372036854775807)
    (hp : ∀ w (I D' : Int), I = (i : Int) → D' = D → Calls Tryd.prog 61 #[.string s, .int .i64 I, .int .i64 D'] w (ParsedT w k 0 ks j)) :
    Calls Tryd.prog 48 #[.string s, .int .i64 i, .int .i64 D] w (ParsedT w k 0 ks j) := by
  have hp' := hide hp
  clear hp
  rcases hz with rfl | rfl | rfl | rfl
  all_goals
    go_enter Tryd.func48, Tryd.ntmps48
    go_wp2_with (go_at_call 61; refine (hp'.out _ _ _ (by simp) rfl).mono ?_; rintro e w1 ⟨m1, A1, c1, hm1, rfl, hl1, hf1, hb1⟩; have hm1' := hide hm1; clear hm1; have hZ := (Blk.new_ w 48 #[.int .i64 0, .int .i64 0, .slice none 0 0] rfl).keep hb1; have d0 := hZ.at_ (i := 0) rfl; have d1 := hZ.at_ (i := 1) rfl; have d2 := hZ.at_ (i := 2) rfl; have e0 := hZ.frozen 0; have e1 := hZ.frozen 1; have e2 := hZ.frozen 2; have g1 : Below w.heap.size w w1 := ((Below.refl _ _).alloc (Nat.le_refl _) _).trans (hb1.mono (by simp)))
    refine bodyPost_ret (v := .tuple #[.agg #[.int .i64 k, .int .i64 0, .slice A1 ks.length c1], .int .i64 m1]) (by simp [results, Tryd.results48, go_sem, d0, d1, d2]) rfl ⟨m1, A1, c1, hm1'.out, rfl, hl1, ?_, ((g1.setCell (by simp) _).setCell (by simp) _).setCell (by simp) _⟩
    exact (((hf1.setCell (by simp) _).setCell (by simp) _).setCell (by simp) _).mono (by simp)
set_option maxHeartbeats 4000000 in
set_option maxRecDepth 100000 in
theorem parse_rnd (z j : Nat) (k : Int) (ks : List Tm) (hz : z = 40 ∨ z = 40) (hs : s.size ≤ 1000000) (hi : i < s.size) (he : (s[i]'hi).toNat = z) (hD : 1 ≤ D) (hD2 : D ≤ 1000) (hl : ks.length ≤ 9223372036854775807)
    (hp : ∀ w (I D' : Int), I = (i + 1 : Nat) → D' = D - 1 → Calls Tryd.prog 62 #[.string s, .int .i64 I, .int .i64 D'] w (ParsedT w k 0 ks j)) :
    Calls Tryd.prog 48 #[.string s, .int .i64 i, .int .i64 D] w (ParsedT w k 0 ks j) := by
  have hp' := hide hp
  clear hp
  rcases hz with rfl | rfl
  all_goals
    go_enter Tryd.func48, Tryd.ntmps48
    go_wp2_with (go_at_call 62; refine (hp'.out _ _ _ (by simp) rfl).mono ?_; rintro e w1 ⟨m1, A1, c1, hm1, rfl, hl1, hf1, hb1⟩; have hm1' := hide hm1; clear hm1; have hZ := (Blk.new_ w 48 #[.int .i64 0, .int .i64 0, .slice none 0 0] rfl).keep hb1; have d0 := hZ.at_ (i := 0) rfl; have d1 := hZ.at_ (i := 1) rfl; have d2 := hZ.at_ (i := 2) rfl; have e0 := hZ.frozen 0; have e1 := hZ.frozen 1; have e2 := hZ.frozen 2; have g1 : Below w.heap.size w w1 := ((Below.refl _ _).alloc (Nat.le_refl _) _).trans (hb1.mono (by simp)))
    refine bodyPost_ret (v := .tuple #[.agg #[.int .i64 k, .int .i64 0, .slice A1 ks.length c1], .int .i64 m1]) (by simp [results, Tryd.results48, go_sem, d0, d1, d2]) rfl ⟨m1, A1, c1, hm1'.out, rfl, hl1, ?_, ((g1.setCell (by simp) _).setCell (by simp) _).setCell (by simp) _⟩
    exact (((hf1.setCell (by simp) _).setCell (by simp) _).setCell (by simp) _).mono (by simp)
set_option maxHeartbeats 4000000 in
set_option maxRecDepth 100000 in
theorem parse_blk (z j : Nat) (k : Int) (ks : List Tm) (hz : z = 60 ∨ z = 123 ∨ z = 124 ∨ z = 64) (hs : s.size ≤ 1000000) (hi : i < s.size) (he : (s[i]'hi).toNat = z) (hD : 1 ≤ D) (hD2 : D ≤ 1000) (hl : ks.length ≤ 9223372036854775807)
    (hp : ∀ w (I D' : Int), I = (i : Int) → D' = D → Calls Tryd.prog 63 #[.string s, .int .i64 I, .int .i64 D'] w (ParsedT w k 0 ks j)) :
    Calls Tryd.prog 48 #[.string s, .int .i64 i, .int .i64 D] w (ParsedT w k 0 ks j) := by
  have hp' := hide hp
  clear hp
  rcases hz with rfl | rfl | rfl | rfl
  all_goals
    go_enter Tryd.func48, Tryd.ntmps48
    go_wp2_with (go_at_call 63; refine (hp'.out _ _ _ (by simp) rfl).mono ?_; rintro e w1 ⟨m1, A1, c1, hm1, rfl, hl1, hf1, hb1⟩; have hm1' := hide hm1; clear hm1; have hZ := (Blk.new_ w 48 #[.int .i64 0, .int .i64 0, .slice none 0 0] rfl).keep hb1; have d0 := hZ.at_ (i := 0) rfl; have d1 := hZ.at_ (i := 1) rfl; have d2 := hZ.at_ (i := 2) rfl; have e0 := hZ.frozen 0; have e1 := hZ.frozen 1; have e2 := hZ.frozen 2; have g1 : Below w.heap.size w w1 := ((Below.refl _ _).alloc (Nat.le_refl _) _).trans (hb1.mono (by simp)))
    refine bodyPost_ret (v := .tuple #[.agg #[.int .i64 k, .int .i64 0, .slice A1 ks.length c1], .int .i64 m1]) (by simp [results, Tryd.results48, go_sem, d0, d1, d2]) rfl ⟨m1, A1, c1, hm1'.out, rfl, hl1, ?_, ((g1.setCell (by simp) _).setCell (by simp) _).setCell (by simp) _⟩
    exact (((hf1.setCell (by simp) _).setCell (by simp) _).setCell (by simp) _).mono (by simp)
set_option maxHeartbeats 4000000 in
set_option maxRecDepth 100000 in
theorem parse_lam (j1 j2 : Nat) (k1 n1 : Int) (ks1 : List Tm) (k2 n2 : Int) (ks2 : List Tm) (hs : s.size ≤ 1000000) (hi : i < s.size) (he : (s[i]'hi).toNat = 91) (hi1 : j1 < s.size) (he1 : (s[j1]'hi1).toNat = 93) (hD : 1 ≤ D) (hD2 : D ≤ 1000)
    (hp1 : ∀ w (I D' : Int), I = (i + 1 : Nat) → D' = D - 1 → Calls Tryd.prog 48 #[.string s, .int .i64 I, .int .i64 D'] w (ParsedT w k1 n1 ks1 j1)) (hp2 : ∀ w (I D' : Int), I = (j1 + 1 : Nat) → D' = D - 1 → Calls Tryd.prog 48 #[.string s, .int .i64 I, .int .i64 D'] w (ParsedT w k2 n2 ks2 j2)) :
    Calls Tryd.prog 48 #[.string s, .int .i64 i, .int .i64 D] w (ParsedT w 4 0 [.mk k1 n1 ks1, .mk k2 n2 ks2] j2) := by
  have hpar1 := hide hp1
  have hpar2 := hide hp2
  clear hp1 hp2
  go_enter Tryd.func48, Tryd.ntmps48
  go_wp2_with (first
    | (go_at_call 44; refine (l1Node_any (B := w.heap.size + 1) (us := [.mk k1 n1 ks1, .mk k2 n2 ks2]) _ (by simp; omega) ((hO2.alloc _).alloc _) hnd hge (by simp) _ 2 (Blk.new_ _ 48 _ (by simp))).mono ?_; rintro e w4 ⟨A4, c4, rfl, hf4, hb4⟩; replace hZ := ((hZ.alloc _).alloc _).keep hb4; have d0 := hZ.at_ (i := 0) rfl; have d1 := hZ.at_ (i := 1) rfl; have d2 := hZ.at_ (i := 2) rfl; have e0 := hZ.frozen 0; have e1 := hZ.frozen 1; have e2 := hZ.frozen 2; have g4 : Below w.heap.size w w4 := ((g3.alloc (by omega) _).alloc (by simp; omega) _).trans (hb4.mono (by simp; omega)))
    | (go_at_call 48; have _t := tok; refine (hpar2.out _ _ _ (by simp) rfl).mono ?_; rintro e w3 ⟨m2, A2, c2, hm2, rfl, hl2, hf2, hb2⟩; subst hm2; clear tok; obtain ⟨fp, hO2, hnd, hge⟩ := (hf1.alloc _).node2 hb2 hf2 (by simp; omega) hl1 hl2 k1 n1 k2 n2 c1 c2; replace hZ := (hZ.alloc _).keep hb2; have hX1 := (Blk.new_ w1 48 #[.int .i64 k1, .int .i64 n1, .slice A1 ks1.length c1] rfl).keep hb2; have x0 := hX1.at_ (i := 0) rfl; have x1 := hX1.at_ (i := 1) rfl; have x2 := hX1.at_ (i := 2) rfl; have lx := hX1.lt; have lz := hZ.lt; have g3 : Below w.heap.size w w3 := (g1.alloc (by omega) _).trans (hb2.mono (by simp; omega)); have s3 := g3.size; have s13 : w1.heap.size + 1 ≤ w3.heap.size := (by have := hb2.size; simpa using this))
    | (go_at_call 48; refine (hpar1.out _ _ _ (by simp) rfl).mono ?_; rintro e w1 ⟨m, A1, c1, hm, rfl, hl1, hf1, hb1⟩; subst hm; have tok : True := trivial; replace hf1 := hf1.mono (B' := w.heap.size + 1) (by simp); have hZ := (Blk.new_ w 48 #[.int .i64 0, .int .i64 0, .slice none 0 0] rfl).keep hb1; have g1 : Below w.heap.size w w1 := ((Below.refl _ _).alloc (Nat.le_refl _) _).trans (hb1.mono (by simp)); have s1 := g1.size; have s1' := hZ.lt))
  refine bodyPost_ret (v := _) ?_ rfl ⟨m2, A4, c4, rfl, rfl, by simp, ?_, ((g4.setCell (by simp) _).setCell (by simp) _).setCell (by simp) _⟩
  · simp [results, Tryd.results48, go_sem, d0, d1, d2]
  · exact (((hf4.setCell (by simp) _).setCell (by simp) _).setCell (by simp) _).mono (by omega)
end
theorem parse_any {d : Nat} {t : Tm} {b : List UInt8} (h : Tx d t b) : ∀ (k n : Int) (ks : List Tm), t = .mk k n ks → ParseOk k n ks b d := by
  induction h with
  | var d n c h => rintro k' n' ks' ⟨⟩ s i I D w hs rfl hh hn hD hD2; exact parse_var s i D w n c h hs hh hn (by omega) hD2
  | sort d n c h => rintro k' n' ks' ⟨⟩ s i I D w hs rfl hh hn hD hD2; exact parse_sort s i D w n c h hs hh hn (by omega) hD2
  | nat d => rintro k' n' ks' ⟨⟩ s i I D w hs rfl hh hn hD hD2; exact parse_nat s i D w hs hh (by omega) hD2
  | zero d => rintro k' n' ks' ⟨⟩ s i I D w hs rfl hh hn hD hD2; exact parse_zero s i D w hs hh (by omega) hD2
  | pre d k c t b h ht ih =>
    rintro k' n' ks' ⟨⟩ s i I D w hs rfl hh hn hD hD2
    obtain ⟨k1, n1, ks1⟩ := t
    obtain ⟨hi, he⟩ := at_byte hh (z := c.toNat) rfl
    have hz : c.toNat = 43 ∨ c.toNat = 33 ∨ c.toNat = 94 ∨ c.toNat = 95 := by rcases h with ⟨_, rfl⟩ | ⟨_, rfl⟩ | ⟨_, rfl⟩ | ⟨_, rfl⟩ <;> decide
    rw [List.length_cons] at hn ⊢
    exact parse_pre s i D w _ _ k _ hz hs hi he (by omega) hD2 (by simp) fun w I D' hI hD' => by
      subst hD'
      have := prefix_any h (ih k1 n1 ks1 rfl) s i I D' w hs hI hh (by rw [show i + 1 + b.length = i + (b.length + 1) by omega]; exact hn) (by omega) hD2
      rwa [show i + 1 + b.length = i + (b.length + 1) by omega] at this
  | rnd d k c t u x y h ht hu i1 i2 =>
    rintro k' n' ks' ⟨⟩ s i I D w hs rfl hh hn hD hD2
    obtain ⟨k1, n1, ks1⟩ := t
    obtain ⟨k2, n2, ks2⟩ := u
    obtain ⟨hi, he⟩ := at_byte hh (z := 40) rfl
    obtain ⟨_, hh2⟩ := hh.cons
    exact parse_rnd s i D w _ _ k _ (.inl rfl) hs hi he (by omega) hD2 (by simp) fun w I D' hI hD' => by
      subst hD'
      have := round_any h (i1 k1 n1 ks1 rfl) (i2 k2 n2 ks2 rfl) s (i + 1) I (D - 1) w hs hI hh2 (by omega) (by omega)
      have e : i + 1 + x.length + 1 + y.length + 1 = i + (40 :: (x ++ c :: (y ++ [41]))).length := by simp; omega
      rwa [e] at this
  | lam d t u x y ht hu i1 i2 =>
    rintro k' n' ks' ⟨⟩ s i I D w hs rfl hh hn hD hD2
    obtain ⟨k1, n1, ks1⟩ := t
    obtain ⟨k2, n2, ks2⟩ := u
    obtain ⟨hi, he⟩ := at_byte hh (z := 91) rfl
    obtain ⟨_, hh2⟩ := hh.cons
    obtain ⟨hh3, hh4⟩ := hh2.app
    obtain ⟨hi1, he1⟩ := at_byte hh4 (z := 93) rfl
    obtain ⟨_, hh5⟩ := hh4.cons
    have e : i + (91 :: (x ++ 93 :: y)).length = i + 1 + x.length + 1 + y.length := by simp; omega
    rw [e] at hn ⊢
    exact parse_lam s i D w (i + 1 + x.length) _ k1 n1 ks1 k2 n2 ks2 hs hi he hi1 he1 (by omega) hD2
      (fun w I D' hI hD' => i1 k1 n1 ks1 rfl s (i + 1) I D' w hs hI hh3 (.of hh4 (by decide)) (by omega) (by omega))
      (fun w I D' hI hD' => i2 k2 n2 ks2 rfl s (i + 1 + x.length + 1) I D' w hs hI hh5 hn (by omega) (by omega))
  | blk d k m o c ts xs h hm hx ht ih =>
    rintro k' n' ks' ⟨⟩ s i I D w hs rfl hh hn hD hD2
    obtain ⟨a, ao, hao, hz⟩ : ∃ a ao, o = a :: ao ∧ (a.toNat = 60 ∨ a.toNat = 123 ∨ a.toNat = 124 ∨ a.toNat = 64) := by rcases h with ⟨_, _, rfl, _⟩ | ⟨_, _, rfl, _⟩ | ⟨_, _, rfl, _⟩ | ⟨_, _, rfl, _⟩ <;> exact ⟨_, _, rfl, by decide⟩
    have hh1 := hh
    rw [hao] at hh1
    obtain ⟨hi, he⟩ := at_byte hh1 (z := a.toNat) rfl
    have hm4 : ts.length ≤ 4 := by rcases h with ⟨_, rfl, _, _⟩ | ⟨_, rfl, _, _⟩ | ⟨_, rfl, _, _⟩ | ⟨_, rfl, _, _⟩ <;> omega
    exact parse_blk s i D w _ _ k _ hz hs hi he (by omega) hD2 (by omega) fun w I D' hI hD' => by
      subst hD'
      exact block_any h ts xs hm hx (fun j k n ks x h1 h2 => ih j (.mk k n ks) x h1 h2 k n ks rfl) s i I D' w hs hI hh (by omega) hD2
end Go.Proofs.YtjpgdfndlmipcaaDoor

namespace Go.Proofs.YtjpgdfndlmipcaaDoor
open Go.RowKit
set_option linter.unusedSimpArgs false
set_option linter.unusedVariables false

def byt (l : List UInt8) : ByteArray := ⟨l.toArray⟩
theorem ret_str {a b : ByteArray} (h : a.data.toList = b.data.toList) : Ending.returned (.string a) = .returned (.string b) := by
  rw [ByteArray.ext (Array.ext' h)]
theorem add_str (a b : List UInt8) (h : a.length + b.length ≤ 1000000) (w : World) : (Op.stringOp .add (byt a) (byt b)).run Tryd.prog w = .ok (.string (byt (a ++ b))) w := by
  rw [run_string_add_sum w _ _ (by simp [byt, ByteArray.size]; omega)]
  unfold byt
  rw [ByteArray.mk_append_mk]
set_option maxHeartbeats 2000000 in
set_option maxRecDepth 100000 in
theorem dec_any (n : Int) (c : UInt8) (h : 0 ≤ n ∧ n ≤ 9 ∧ (c.toNat : Int) = 48 + n) (w : World) : Calls Tryd.prog 34 #[.int .i64 n] w fun e w' => e = .returned (.string (byt [c])) ∧ Below w.heap.size w w' := by
  have hcv := hide (run_convert_bytes_back (P := Tryd.prog) (w.alloc (.cells #[.int .u8 (48 + n)] 5)) 22 9 5 ⟨w.heap.size, 0, none⟩ 1 [c] Tryd.underlying22 Tryd.underlying5 Tryd.underlying9 (fun j hj => by
    have : j = 0 := by simpa using hj
    subst this
    simp [Addr.add, h.2.2]))
  have hcv2 : (convert 22 9 (.slice (some ⟨w.heap.size, 0, none⟩) 1 1)).run Tryd.prog (w.alloc (.cells #[.int .u8 (48 + n)] 5)) = .ok (.string (byt [c])) (w.alloc (.cells #[.int .u8 (48 + n)] 5)) := hcv.out
  have hu8 : IntKind.u8.wrap (48 + n) = 48 + n := IntWalk.u8_in _ (by omega)
  have hd1 : decide (n < -9223372036854775807) = false := decide_eq_false (by omega)
  have hd2 : decide (n < 0) = false := decide_eq_false (by omega)
  have hd3 : decide (9 < n) = false := decide_eq_false (by omega)
  obtain ⟨h1, h2, h3⟩ := h
  have h3' := hide h3
  clear hcv h3
  go_enter Tryd.func34, Tryd.ntmps34
  go_wp2
  go_loop [0, 3] (fun a v => a = .int .i64 n ∧ v = .string (byt [])) (fun _ _ => 0)
  case atStart => exact ⟨rfl, rfl⟩
  case round =>
    obtain ⟨rfl, rfl⟩ := hrel
    have hadd := fun w => add_str [c] [] (by simp) w
    go_wp2
    go_ret
    exact ⟨rfl, (Below.refl _ _).alloc (Nat.le_refl _) _⟩

def TextOk (k n : Int) (ks : List Tm) (b : List UInt8) : Prop := ∀ (A : Option Addr) (c : Nat) (w : World), b.length ≤ 100000 → Rd w A 0 ks →
  Calls Tryd.prog 64 #[.agg #[.int .i64 k, .int .i64 n, .slice A ks.length c]] w fun e w' => e = .returned (.string (byt b)) ∧ Below w.heap.size w w'
set_option maxHeartbeats 4000000 in
set_option maxRecDepth 100000 in
theorem text_var (n : Int) (c : UInt8) (h : 0 ≤ n ∧ n ≤ 9 ∧ (c.toNat : Int) = 48 + n) : TextOk 1 n [] [35, c] := by
  intro A cc w _ _
  have hsz : (byt [c]).size ≤ 1000 := by simp [byt, ByteArray.size]
  have h9 : 0 ≤ n ∧ n ≤ 9 ∧ (c.toNat : Int) = 48 + n := ⟨h.1, by omega, h.2.2⟩
  clear h
  go_enter Tryd.func64, Tryd.ntmps64
  go_wp2_with (go_at_call 34; refine (dec_any n c h9 _).mono ?_; rintro e w1 ⟨rfl, hb1⟩)
  go_ret
  exact ⟨ret_str (by simp [byt]), ((Below.refl _ _).alloc (Nat.le_refl _) _).trans (hb1.mono (by simp))⟩
set_option maxHeartbeats 4000000 in
set_option maxRecDepth 100000 in
theorem text_sort (n : Int) (c : UInt8) (h : 0 ≤ n ∧ n ≤ 3 ∧ (c.toNat : Int) = 48 + n) : TextOk 2 n [] [42, c] := by
  intro A cc w _ _
  have hsz : (byt [c]).size ≤ 1000 := by simp [byt, ByteArray.size]
  have h9 : 0 ≤ n ∧ n ≤ 9 ∧ (c.toNat : Int) = 48 + n := ⟨h.1, by omega, h.2.2⟩
  clear h
  go_enter Tryd.func64, Tryd.ntmps64
  go_wp2_with (go_at_call 34; refine (dec_any n c h9 _).mono ?_; rintro e w1 ⟨rfl, hb1⟩)
  go_ret
  exact ⟨ret_str (by simp [byt]), ((Below.refl _ _).alloc (Nat.le_refl _) _).trans (hb1.mono (by simp))⟩
set_option maxHeartbeats 4000000 in
set_option maxRecDepth 100000 in
theorem text_nat : TextOk 6 0 [] [78] := by
  intro A cc w _ _
  go_enter Tryd.func64, Tryd.ntmps64
  go_wp2
  go_ret
  exact ⟨ret_str (by simp [byt]), (Below.refl _ _).alloc (Nat.le_refl _) _⟩
set_option maxHeartbeats 4000000 in
set_option maxRecDepth 100000 in
theorem text_zero : TextOk 7 0 [] [48] := by
  intro A cc w _ _
  go_enter Tryd.func64, Tryd.ntmps64
  go_wp2
  go_ret
  exact ⟨ret_str (by simp [byt]), (Below.refl _ _).alloc (Nat.le_refl _) _⟩
set_option maxHeartbeats 4000000 in
set_option maxRecDepth 100000 in
theorem text_pre {k : Int} {c : UInt8} {k1 n1 : Int} {ks1 : List Tm} {b : List UInt8} (h : PreK k c) (ih : TextOk k1 n1 ks1 b) : TextOk k 0 [.mk k1 n1 ks1] (c :: b) := by
  intro A cc w hl hr
  obtain ⟨bb, off, k', n', ks', A', c', rfl, hk, hc1, hc2, hc3, hl', hr'⟩ := hr.at_ (j := 0) (by simp)
  injection hk with h1 h2 h3
  subst h1 h2 h3
  simp only [Nat.zero_mul, Nat.add_zero] at hc1 hc2 hc3
  have hb : b.length ≤ 100000 := by simp at hl; omega
  have hsz : (byt b).size ≤ 100000 := by simpa [byt, ByteArray.size] using hb
  have ih' := hide ih
  have bl : bb < w.heap.size := World.block_lt_of_cell? w _ hc1
  clear ih hr
  rcases h with ⟨rfl, rfl⟩ | ⟨rfl, rfl⟩ | ⟨rfl, rfl⟩ | ⟨rfl, rfl⟩
  all_goals
    go_enter Tryd.func64, Tryd.ntmps64
    go_wp2_with (go_at_call 64; refine (ih'.out A' c' _ hb (hr'.alloc _)).mono ?_; rintro e w1 ⟨rfl, hb1⟩)
    go_ret
    exact ⟨ret_str (by simp [byt]), ((Below.refl _ _).alloc (Nat.le_refl _) _).trans (hb1.mono (by simp))⟩
end Go.Proofs.YtjpgdfndlmipcaaDoor

namespace Go.Proofs.YtjpgdfndlmipcaaDoor
open Go.RowKit
set_option linter.unusedSimpArgs false
set_option linter.unusedVariables false

theorem add_strE {a b r : List UInt8} (hr : r = a ++ b) (h : a.length + b.length ≤ 1000000) (w : World) : (Op.stringOp .add (byt a) (byt b)).run Tryd.prog w = .ok (.string (byt r)) w := by subst hr; exact add_str a b h w
set_option maxHeartbeats 4000000 in
set_option maxRecDepth 100000 in
theorem text_rnd {k : Int} {c : UInt8} {k1 n1 : Int} {ks1 : List Tm} {x : List UInt8} {k2 n2 : Int} {ks2 : List Tm} {y : List UInt8} (h : RndK k c) (ih1 : TextOk k1 n1 ks1 x) (ih2 : TextOk k2 n2 ks2 y) : TextOk k 0 [.mk k1 n1 ks1, .mk k2 n2 ks2] (40 :: (x ++ c :: (y ++ [41]))) := by
  intro A cc w hl hr
  obtain ⟨bb, off, k', n', ks', A', c', rfl, hk, hc1, hc2, hc3, hl', hr'⟩ := hr.at_ (j := 0) (by simp)
  obtain ⟨b2, o2, k3, n3, ks3, A2, c2, hA, hk2, hd1, hd2, hd3, hl2, hr2⟩ := hr.at_ (j := 1) (by simp)
  injection hA with hA
  injection hA with h8 h9
  subst h8 h9
  injection hk with h1 h2 h3
  subst h1 h2 h3
  injection hk2 with h1 h2 h3
  subst h1 h2 h3
  simp only [Nat.zero_mul, Nat.add_zero, Nat.one_mul] at hc1 hc2 hc3 hd1 hd2 hd3
  have hbx1 : x.length ≤ 100000 := by simp at hl; omega
  have hby1 : y.length ≤ 100000 := by simp at hl; omega
  have ih1' := hide ih1
  have ih2' := hide ih2
  have bl : bb < w.heap.size := World.block_lt_of_cell? w _ hc1
  clear ih1 ih2 hr
  rcases h with ⟨rfl, rfl⟩ | ⟨rfl, rfl⟩ | ⟨rfl, rfl⟩
  · have a1 : ∀ w, (Op.stringOp .add ⟨#[40]⟩ (byt x)).run Tryd.prog w = .ok (.string (byt (40 :: x))) w := fun w => add_strE (a := [40]) rfl (by simp; omega) w
    have a2 : ∀ w, (Op.stringOp .add (byt (40 :: x)) ⟨#[62]⟩).run Tryd.prog w = .ok (.string (byt (40 :: (x ++ [62])))) w := fun w => add_strE (a := 40 :: x) (b := [62]) rfl (by simp; omega) w
    have a3 : ∀ w, (Op.stringOp .add (byt (40 :: (x ++ [62]))) (byt y)).run Tryd.prog w = .ok (.string (byt (40 :: (x ++ 62 :: y)))) w := fun w => add_strE (a := 40 :: (x ++ [62])) (b := y) (by simp) (by simp; omega) w
    have a4 : ∀ w, (Op.stringOp .add (byt (40 :: (x ++ 62 :: y))) ⟨#[41]⟩).run Tryd.prog w = .ok (.string (byt (40 :: (x ++ 62 :: (y ++ [41]))))) w := fun w => add_strE (a := 40 :: (x ++ 62 :: y)) (b := [41]) (by simp) (by simp; omega) w
    go_enter Tryd.func64, Tryd.ntmps64
    go_wp2_with fail
    refine name_world ?_
    intro wx hwx
    have hbx : Below w.heap.size w wx := by rw [hwx]; exact (Below.refl _ _).alloc (Nat.le_refl _) _
    have hX : Blk wx w.heap.size #[.int .i64 3, .int .i64 0, .slice (some ⟨bb, off, none⟩) 2 cc] := by rw [hwx]; exact Blk.new_ _ _ _ rfl
    have y0 := rule_of ((Keeps.of_below hbx) _ _ hc1)
    have y1 := rule_of ((Keeps.of_below hbx) _ _ hc2)
    have y2 := rule_of ((Keeps.of_below hbx) _ _ hc3)
    have z0 := rule_of ((Keeps.of_below hbx) _ _ hd1)
    have z1 := rule_of ((Keeps.of_below hbx) _ _ hd2)
    have z2 := rule_of ((Keeps.of_below hbx) _ _ hd3)
    have x2 := hX.rule (i := 2) rfl
    have sm1 := fun (w' : World) (hw' : Below wx.heap.size wx w') => ih1'.out A' c' w' hbx1 ((hr'.below hbx).below hw')
    have sm2 := fun (w' : World) (hw' : Below wx.heap.size wx w') => ih2'.out A2 c2 w' hby1 ((hr2.below hbx).below hw')
    clear hwx
    refine wp_region_class (fun w' => Below (wx).heap.size wx w') (by kernel_rfl) (by kernel_rfl) (Below.refl _ _).drew ?_
    repeat (first | ((refine quiet_skip (a' := ?_) ?_ ?_ ?_); (rotate_left); (· (simp [Region.wanted, yielded]; done)); (· (simp only [List.getElem_toArray, List.getElem_cons_zero, List.getElem_cons_succ, Act.put, List.setIfInBounds_toArray, List.set_cons_zero, List.set_cons_succ]; exact rfl))) | ((refine quiet_one (v := ?_) (a' := ?_) ?_ ?_ ?_ ?_); (rotate_left 2); (· (simp [Region.wanted, yielded]; done)); (· (intro w' hS'; go_simp; try (with_reducible rfl))); (· (simp only [List.getElem_toArray, List.getElem_cons_zero, List.getElem_cons_succ, Act.put, List.setIfInBounds_toArray, List.set_cons_zero, List.set_cons_succ]; exact rfl))) | ((refine quiet_below (v := ?_) (a' := ?_) 64 ?_ ?_ ?_ ?_ ?_ ?_); (rotate_left 3); (· (simp [Region.wanted, yielded]; done)); (· (intro w' hS'; go_simp; try (with_reducible rfl))); (· (intro w' hS'; with_reducible exact sm1 w' hS')); (· (simp only [List.getElem_toArray, List.getElem_cons_zero, List.getElem_cons_succ, Act.put, List.setIfInBounds_toArray, List.set_cons_zero, List.set_cons_succ]; exact rfl))) | ((refine quiet_below (v := ?_) (a' := ?_) 64 ?_ ?_ ?_ ?_ ?_ ?_); (rotate_left 3); (· (simp [Region.wanted, yielded]; done)); (· (intro w' hS'; go_simp; try (with_reducible rfl))); (· (intro w' hS'; with_reducible exact sm2 w' hS')); (· (simp only [List.getElem_toArray, List.getElem_cons_zero, List.getElem_cons_succ, Act.put, List.setIfInBounds_toArray, List.set_cons_zero, List.set_cons_succ]; exact rfl))))
    refine quiet_nil ?_
    intro wa hx1
    clear sm1 sm2 y0 y1 y2 z0 z1 z2 x2
    go_wp2_with fail
    go_ret
    exact ⟨ret_str (by simp [byt]), hbx.trans (hx1.mono hbx.size)⟩
  · have a1 : ∀ w, (Op.stringOp .add ⟨#[40]⟩ (byt x)).run Tryd.prog w = .ok (.string (byt (40 :: x))) w := fun w => add_strE (a := [40]) rfl (by simp; omega) w
    have a2 : ∀ w, (Op.stringOp .add (byt (40 :: x)) ⟨#[42]⟩).run Tryd.prog w = .ok (.string (byt (40 :: (x ++ [42])))) w := fun w => add_strE (a := 40 :: x) (b := [42]) rfl (by simp; omega) w
    have a3 : ∀ w, (Op.stringOp .add (byt (40 :: (x ++ [42]))) (byt y)).run Tryd.prog w = .ok (.string (byt (40 :: (x ++ 42 :: y)))) w := fun w => add_strE (a := 40 :: (x ++ [42])) (b := y) (by simp) (by simp; omega) w
    have a4 : ∀ w, (Op.stringOp .add (byt (40 :: (x ++ 42 :: y))) ⟨#[41]⟩).run Tryd.prog w = .ok (.string (byt (40 :: (x ++ 42 :: (y ++ [41]))))) w := fun w => add_strE (a := 40 :: (x ++ 42 :: y)) (b := [41]) (by simp) (by simp; omega) w
    go_enter Tryd.func64, Tryd.ntmps64
    go_wp2_with fail
    refine name_world ?_
    intro wx hwx
    have hbx : Below w.heap.size w wx := by rw [hwx]; exact (Below.refl _ _).alloc (Nat.le_refl _) _
    have hX : Blk wx w.heap.size #[.int .i64 13, .int .i64 0, .slice (some ⟨bb, off, none⟩) 2 cc] := by rw [hwx]; exact Blk.new_ _ _ _ rfl
    have y0 := rule_of ((Keeps.of_below hbx) _ _ hc1)
    have y1 := rule_of ((Keeps.of_below hbx) _ _ hc2)
    have y2 := rule_of ((Keeps.of_below hbx) _ _ hc3)
    have z0 := rule_of ((Keeps.of_below hbx) _ _ hd1)
    have z1 := rule_of ((Keeps.of_below hbx) _ _ hd2)
    have z2 := rule_of ((Keeps.of_below hbx) _ _ hd3)
    have x2 := hX.rule (i := 2) rfl
    have sm1 := fun (w' : World) (hw' : Below wx.heap.size wx w') => ih1'.out A' c' w' hbx1 ((hr'.below hbx).below hw')
    have sm2 := fun (w' : World) (hw' : Below wx.heap.size wx w') => ih2'.out A2 c2 w' hby1 ((hr2.below hbx).below hw')
    clear hwx
    refine wp_region_class (fun w' => Below (wx).heap.size wx w') (by kernel_rfl) (by kernel_rfl) (Below.refl _ _).drew ?_
    repeat (first | ((refine quiet_skip (a' := ?_) ?_ ?_ ?_); (rotate_left); (· (simp [Region.wanted, yielded]; done)); (· (simp only [List.getElem_toArray, List.getElem_cons_zero, List.getElem_cons_succ, Act.put, List.setIfInBounds_toArray, List.set_cons_zero, List.set_cons_succ]; exact rfl))) | ((refine quiet_one (v := ?_) (a' := ?_) ?_ ?_ ?_ ?_); (rotate_left 2); (· (simp [Region.wanted, yielded]; done)); (· (intro w' hS'; go_simp; try (with_reducible rfl))); (· (simp only [List.getElem_toArray, List.getElem_cons_zero, List.getElem_cons_succ, Act.put, List.setIfInBounds_toArray, List.set_cons_zero, List.set_cons_succ]; exact rfl))) | ((refine quiet_below (v := ?_) (a' := ?_) 64 ?_ ?_ ?_ ?_ ?_ ?_); (rotate_left 3); (· (simp [Region.wanted, yielded]; done)); (· (intro w' hS'; go_simp; try (with_reducible rfl))); (· (intro w' hS'; with_reducible exact sm1 w' hS')); (· (simp only [List.getElem_toArray, List.getElem_cons_zero, List.getElem_cons_succ, Act.put, List.setIfInBounds_toArray, List.set_cons_zero, List.set_cons_succ]; exact rfl))) | ((refine quiet_below (v := ?_) (a' := ?_) 64 ?_ ?_ ?_ ?_ ?_ ?_); (rotate_left 3); (· (simp [Region.wanted, yielded]; done)); (· (intro w' hS'; go_simp; try (with_reducible rfl))); (· (intro w' hS'; with_reducible exact sm2 w' hS')); (· (simp only [List.getElem_toArray, List.getElem_cons_zero, List.getElem_cons_succ, Act.put, List.setIfInBounds_toArray, List.set_cons_zero, List.set_cons_succ]; exact rfl))))
    refine quiet_nil ?_
    intro wa hx1
    clear sm1 sm2 y0 y1 y2 z0 z1 z2 x2
    go_wp2_with fail
    go_ret
    exact ⟨ret_str (by simp [byt]), hbx.trans (hx1.mono hbx.size)⟩
  · have a1 : ∀ w, (Op.stringOp .add ⟨#[40]⟩ (byt x)).run Tryd.prog w = .ok (.string (byt (40 :: x))) w := fun w => add_strE (a := [40]) rfl (by simp; omega) w
    have a2 : ∀ w, (Op.stringOp .add (byt (40 :: x)) ⟨#[32]⟩).run Tryd.prog w = .ok (.string (byt (40 :: (x ++ [32])))) w := fun w => add_strE (a := 40 :: x) (b := [32]) rfl (by simp; omega) w
    have a3 : ∀ w, (Op.stringOp .add (byt (40 :: (x ++ [32]))) (byt y)).run Tryd.prog w = .ok (.string (byt (40 :: (x ++ 32 :: y)))) w := fun w => add_strE (a := 40 :: (x ++ [32])) (b := y) (by simp) (by simp; omega) w
    have a4 : ∀ w, (Op.stringOp .add (byt (40 :: (x ++ 32 :: y))) ⟨#[41]⟩).run Tryd.prog w = .ok (.string (byt (40 :: (x ++ 32 :: (y ++ [41]))))) w := fun w => add_strE (a := 40 :: (x ++ 32 :: y)) (b := [41]) (by simp) (by simp; omega) w
    go_enter Tryd.func64, Tryd.ntmps64
    go_wp2_with fail
    refine name_world ?_
    intro wx hwx
    have hbx : Below w.heap.size w wx := by rw [hwx]; exact (Below.refl _ _).alloc (Nat.le_refl _) _
    have hX : Blk wx w.heap.size #[.int .i64 5, .int .i64 0, .slice (some ⟨bb, off, none⟩) 2 cc] := by rw [hwx]; exact Blk.new_ _ _ _ rfl
    have y0 := rule_of ((Keeps.of_below hbx) _ _ hc1)
    have y1 := rule_of ((Keeps.of_below hbx) _ _ hc2)
    have y2 := rule_of ((Keeps.of_below hbx) _ _ hc3)
    have z0 := rule_of ((Keeps.of_below hbx) _ _ hd1)
    have z1 := rule_of ((Keeps.of_below hbx) _ _ hd2)
    have z2 := rule_of ((Keeps.of_below hbx) _ _ hd3)
    have x2 := hX.rule (i := 2) rfl
    have sm1 := fun (w' : World) (hw' : Below wx.heap.size wx w') => ih1'.out A' c' w' hbx1 ((hr'.below hbx).below hw')
    have sm2 := fun (w' : World) (hw' : Below wx.heap.size wx w') => ih2'.out A2 c2 w' hby1 ((hr2.below hbx).below hw')
    clear hwx
    refine wp_region_class (fun w' => Below (wx).heap.size wx w') (by kernel_rfl) (by kernel_rfl) (Below.refl _ _).drew ?_
    repeat (first | ((refine quiet_skip (a' := ?_) ?_ ?_ ?_); (rotate_left); (· (simp [Region.wanted, yielded]; done)); (· (simp only [List.getElem_toArray, List.getElem_cons_zero, List.getElem_cons_succ, Act.put, List.setIfInBounds_toArray, List.set_cons_zero, List.set_cons_succ]; exact rfl))) | ((refine quiet_one (v := ?_) (a' := ?_) ?_ ?_ ?_ ?_); (rotate_left 2); (· (simp [Region.wanted, yielded]; done)); (· (intro w' hS'; go_simp; try (with_reducible rfl))); (· (simp only [List.getElem_toArray, List.getElem_cons_zero, List.getElem_cons_succ, Act.put, List.setIfInBounds_toArray, List.set_cons_zero, List.set_cons_succ]; exact rfl))) | ((refine quiet_below (v := ?_) (a' := ?_) 64 ?_ ?_ ?_ ?_ ?_ ?_); (rotate_left 3); (· (simp [Region.wanted, yielded]; done)); (· (intro w' hS'; go_simp; try (with_reducible rfl))); (· (intro w' hS'; with_reducible exact sm1 w' hS')); (· (simp only [List.getElem_toArray, List.getElem_cons_zero, List.getElem_cons_succ, Act.put, List.setIfInBounds_toArray, List.set_cons_zero, List.set_cons_succ]; exact rfl))) | ((refine quiet_below (v := ?_) (a' := ?_) 64 ?_ ?_ ?_ ?_ ?_ ?_); (rotate_left 3); (· (simp [Region.wanted, yielded]; done)); (· (intro w' hS'; go_simp; try (with_reducible rfl))); (· (intro w' hS'; with_reducible exact sm2 w' hS')); (· (simp only [List.getElem_toArray, List.getElem_cons_zero, List.getElem_cons_succ, Act.put, List.setIfInBounds_toArray, List.set_cons_zero, List.set_cons_succ]; exact rfl))))
    refine quiet_nil ?_
    intro wa hx1
    clear sm1 sm2 y0 y1 y2 z0 z1 z2 x2
    go_wp2_with fail
    go_ret
    exact ⟨ret_str (by simp [byt]), hbx.trans (hx1.mono hbx.size)⟩
set_option maxHeartbeats 4000000 in
set_option maxRecDepth 100000 in
theorem text_lam {k1 n1 : Int} {ks1 : List Tm} {x : List UInt8} {k2 n2 : Int} {ks2 : List Tm} {y : List UInt8} (ih1 : TextOk k1 n1 ks1 x) (ih2 : TextOk k2 n2 ks2 y) : TextOk 4 0 [.mk k1 n1 ks1, .mk k2 n2 ks2] (91 :: (x ++ 93 :: y)) := by
  intro A cc w hl hr
  obtain ⟨bb, off, k', n', ks', A', c', rfl, hk, hc1, hc2, hc3, hl', hr'⟩ := hr.at_ (j := 0) (by simp)
  obtain ⟨b2, o2, k3, n3, ks3, A2, c2, hA, hk2, hd1, hd2, hd3, hl2, hr2⟩ := hr.at_ (j := 1) (by simp)
  injection hA with hA
  injection hA with h8 h9
  subst h8 h9
  injection hk with h1 h2 h3
  subst h1 h2 h3
  injection hk2 with h1 h2 h3
  subst h1 h2 h3
  simp only [Nat.zero_mul, Nat.add_zero, Nat.one_mul] at hc1 hc2 hc3 hd1 hd2 hd3
  have hbx1 : x.length ≤ 100000 := by simp at hl; omega
  have hby1 : y.length ≤ 100000 := by simp at hl; omega
  have ih1' := hide ih1
  have ih2' := hide ih2
  have bl : bb < w.heap.size := World.block_lt_of_cell? w _ hc1
  clear ih1 ih2 hr
  have a1 : ∀ w, (Op.stringOp .add ⟨#[91]⟩ (byt x)).run Tryd.prog w = .ok (.string (byt (91 :: x))) w := fun w => add_strE (a := [91]) rfl (by simp; omega) w
  have a2 : ∀ w, (Op.stringOp .add (byt (91 :: x)) ⟨#[93]⟩).run Tryd.prog w = .ok (.string (byt (91 :: (x ++ [93])))) w := fun w => add_strE (a := 91 :: x) (b := [93]) rfl (by simp; omega) w
  have a3 : ∀ w, (Op.stringOp .add (byt (91 :: (x ++ [93]))) (byt y)).run Tryd.prog w = .ok (.string (byt (91 :: (x ++ 93 :: y)))) w := fun w => add_strE (a := 91 :: (x ++ [93])) (b := y) (by simp) (by simp; omega) w
  go_enter Tryd.func64, Tryd.ntmps64
  go_wp2_with fail
  refine name_world ?_
  intro wx hwx
  have hbx : Below w.heap.size w wx := by rw [hwx]; exact (Below.refl _ _).alloc (Nat.le_refl _) _
  have hX : Blk wx w.heap.size #[.int .i64 4, .int .i64 0, .slice (some ⟨bb, off, none⟩) 2 cc] := by rw [hwx]; exact Blk.new_ _ _ _ rfl
  have y0 := rule_of ((Keeps.of_below hbx) _ _ hc1)
  have y1 := rule_of ((Keeps.of_below hbx) _ _ hc2)
  have y2 := rule_of ((Keeps.of_below hbx) _ _ hc3)
  have z0 := rule_of ((Keeps.of_below hbx) _ _ hd1)
  have z1 := rule_of ((Keeps.of_below hbx) _ _ hd2)
  have z2 := rule_of ((Keeps.of_below hbx) _ _ hd3)
  have x2 := hX.rule (i := 2) rfl
  have sm1 := fun (w' : World) (hw' : Below wx.heap.size wx w') => ih1'.out A' c' w' hbx1 ((hr'.below hbx).below hw')
  have sm2 := fun (w' : World) (hw' : Below wx.heap.size wx w') => ih2'.out A2 c2 w' hby1 ((hr2.below hbx).below hw')
  clear hwx
  refine wp_region_class (fun w' => Below (wx).heap.size wx w') (by kernel_rfl) (by kernel_rfl) (Below.refl _ _).drew ?_
  repeat (first | ((refine quiet_skip (a' := ?_) ?_ ?_ ?_); (rotate_left); (· (simp [Region.wanted, yielded]; done)); (· (simp only [List.getElem_toArray, List.getElem_cons_zero, List.getElem_cons_succ, Act.put, List.setIfInBounds_toArray, List.set_cons_zero, List.set_cons_succ]; exact rfl))) | ((refine quiet_one (v := ?_) (a' := ?_) ?_ ?_ ?_ ?_); (rotate_left 2); (· (simp [Region.wanted, yielded]; done)); (· (intro w' hS'; go_simp; try (with_reducible rfl))); (· (simp only [List.getElem_toArray, List.getElem_cons_zero, List.getElem_cons_succ, Act.put, List.setIfInBounds_toArray, List.set_cons_zero, List.set_cons_succ]; exact rfl))) | ((refine quiet_below (v := ?_) (a' := ?_) 64 ?_ ?_ ?_ ?_ ?_ ?_); (rotate_left 3); (· (simp [Region.wanted, yielded]; done)); (· (intro w' hS'; go_simp; try (with_reducible rfl))); (· (intro w' hS'; with_reducible exact sm1 w' hS')); (· (simp only [List.getElem_toArray, List.getElem_cons_zero, List.getElem_cons_succ, Act.put, List.setIfInBounds_toArray, List.set_cons_zero, List.set_cons_succ]; exact rfl))) | ((refine quiet_below (v := ?_) (a' := ?_) 64 ?_ ?_ ?_ ?_ ?_ ?_); (rotate_left 3); (· (simp [Region.wanted, yielded]; done)); (· (intro w' hS'; go_simp; try (with_reducible rfl))); (· (intro w' hS'; with_reducible exact sm2 w' hS')); (· (simp only [List.getElem_toArray, List.getElem_cons_zero, List.getElem_cons_succ, Act.put, List.setIfInBounds_toArray, List.set_cons_zero, List.set_cons_succ]; exact rfl))))
  refine quiet_nil ?_
  intro wa hx1
  clear sm1 sm2 y0 y1 y2 z0 z1 z2 x2
  go_wp2_with fail
  go_ret
  exact ⟨ret_str (by simp [byt]), hbx.trans (hx1.mono hbx.size)⟩
end Go.Proofs.YtjpgdfndlmipcaaDoor

namespace Go.Proofs.YtjpgdfndlmipcaaDoor
open Go.RowKit
/-- the cell of the library's that is read holds a number -/
def GM (w : World) : Prop := ∃ m, w.cell? ⟨1, 0, none⟩ = some (.int .i64 m)
theorem GM.below {w w' : World} {B : Nat} (h : GM w) (hb : Below B w w') (hB : 1 < B) : GM w' := by obtain ⟨m, hm⟩ := h; exact ⟨m, (hb.cell (p := ⟨1, 0, none⟩) hB).trans hm⟩
theorem GM.pos {w : World} (h : GM w) : 1 < w.heap.size := by obtain ⟨m, hm⟩ := h; exact World.block_lt_of_cell? w _ hm
theorem GM.keep {w w' : World} (h : GM w) (hb : Below w.heap.size w w') : GM w' := h.below hb h.pos
theorem GM.alloc {w : World} (h : GM w) (o : Obj) : GM (w.alloc o) := h.keep ((Below.refl _ _).alloc (Nat.le_refl _) o)
theorem GM.drew {w : World} (h : GM w) : GM w.drew := h
namespace Cd
open Go.RowKit
set_option linter.unusedSimpArgs false
set_option linter.unusedVariables false

theorem byt_list (l : List UInt8) : (byt l).data.toList = l := by simp [byt]
theorem byt_data (s : ByteArray) : byt s.data.toList = s := by simp [byt]
/-- texts as a row of cells -/
def strs (l : List (List UInt8)) : Array Value := (l.map fun x => Value.string (byt x)).toArray
theorem strs_cell {w : World} {g : Nat} {ps : List (List UInt8)} (hB : Blk w g (strs ps)) {j : Nat} {p : List UInt8} (hp : ps[j]? = some p) : w.cell? ⟨g, j, none⟩ = some (.string (byt p)) := by
  obtain ⟨hj, rfl⟩ := List.getElem?_eq_some_iff.1 hp
  refine hB.at_ ?_
  simp [strs, List.getElem?_map, List.getElem?_eq_getElem hj]
/-- a comma is written as a semicolon -/
def sc (p : List UInt8) : List UInt8 := if p = [44] then [59] else p
theorem sc_get {ps : List (List UInt8)} {j : Nat} {p : List UInt8} (h : ps[j]? = some p) : (ps.map sc)[j]? = some (sc p) := by rw [List.getElem?_map, h]; rfl
theorem itoa_any {n : Nat} (h : n ≤ 20) (w : World) : Calls Tryd.prog 31 #[.int .i64 n] w fun e w' => e = .returned (.string (byt (Lib.decDigits n))) ∧ w = w' := by
  refine (Tryd.strconv_Itoa_small n (by omega) w).mono ?_
  rintro e w' ⟨rfl, rfl⟩
  exact ⟨rfl, rfl⟩
theorem rep_any {k j : Nat} {p : List UInt8} (hk : 2 ≤ k ∧ k ≤ 10) (hp : (prt k)[j]? = some p) (w : World) (hm : GM w) : Calls Tryd.prog 33 #[.string (byt (sc p)), .string ⟨#[59]⟩, .string ⟨#[44]⟩] w fun e w' => e = .returned (.string (byt p)) ∧ Below w.heap.size w w' := by
  obtain ⟨m, hm⟩ := hm
  have hp' : p = [] ∨ p = [32] ∨ p = [40] ∨ p = [41] ∨ p = [43] ∨ p = [44] ∨ p = [46] ∨ p = [48] ∨ p = [60] ∨ p = [62] ∨ p = [63] ∨ p = [94] ∨ p = [95] ∨ p = [124] := by
    have : p ∈ prt k := List.mem_of_getElem? hp
    rcases kinds hk with rfl | rfl | rfl | rfl | rfl | rfl | rfl | rfl | rfl <;> simp [prt] at this <;> (repeat' (rcases this with rfl | this)) <;> (try subst this) <;> simp
  clear hp
  have key : ∀ x : List UInt8, Lib.replaceAll (byt x).data.toList [59] [44] = p → (byt x).size < 1000 → Lib.countB (byt x) ⟨#[59]⟩ ≤ 1000 → Calls Tryd.prog 33 #[.string (byt x), .string ⟨#[59]⟩, .string ⟨#[44]⟩] w fun e w' => e = .returned (.string (byt p)) ∧ Below w.heap.size w w' := by
    intro x h1 h2 h3
    refine (Tryd.strings_ReplaceAll (byt x) ⟨#[59]⟩ ⟨#[44]⟩ m w (by omega) hm (by decide) (by have : (⟨#[44]⟩ : ByteArray).size = 1 := rfl; rw [this]; omega)).mono ?_
    rintro e w' ⟨rfl, hb⟩
    refine ⟨?_, hb⟩
    rw [show (⟨#[59]⟩ : ByteArray).data.toList = [59] from rfl, show (⟨#[44]⟩ : ByteArray).data.toList = [44] from rfl, h1]
    rfl
  rcases hp' with rfl | rfl | rfl | rfl | rfl | rfl | rfl | rfl | rfl | rfl | rfl | rfl | rfl | rfl <;> exact key _ (by decide +kernel) (by decide +kernel) (by decide +kernel)
theorem split_of {l : List UInt8} {rs : List (List UInt8)} {n : Nat} (h1 : Lib.splitK [44] 0 (Lib.count l [44]) l = rs) (h2 : Lib.count l [44] = n) (hl : l.length ≤ 1000) (w : World) (hm : GM w) (g : Nat) (hg : g = w.heap.size) : Calls Tryd.prog 32 #[.string ⟨l.toArray⟩, .string ⟨#[44]⟩] w fun e w' =>
    e = .returned (.slice (some ⟨g, 0, none⟩) (n + 1) (n + 1)) ∧ Blk w' g (strs rs) ∧ Below w.heap.size w w' := by
  subst hg
  obtain ⟨m, hm⟩ := hm
  have e1 : Lib.countB (byt l) ⟨#[44]⟩ = n := by rw [← h2]; show Lib.count _ _ = _; rw [byt_list]
  have e2 := Lib.splitB_data ⟨#[44]⟩ 0 (Lib.countB (byt l) ⟨#[44]⟩) (byt l)
  rw [byt_list, show (⟨#[44]⟩ : ByteArray).data.toList = [44] from rfl, e1, ← h2, h1, h2] at e2
  refine (Tryd.strings_Split (byt l) ⟨#[44]⟩ m w (by simp only [byt, ByteArray.size, List.size_toArray]; omega) hm (by decide)).mono ?_
  rintro e w' ⟨rfl, rfl⟩
  rw [e1]
  refine ⟨rfl, ?_, (Below.refl _ _).alloc (Nat.le_refl _) _⟩
  have e3 : ((Lib.splitB ⟨#[44]⟩ 0 n (byt l)).map Value.string).toArray = strs rs := by
    unfold strs
    rw [← e2, List.map_map]
    refine congrArg _ (List.map_congr_left fun x _ => ?_)
    simp only [Function.comp, byt_data]
  rw [e3]
  exact Blk.new _ _ _

def ITextOk (t : Tm) (b : List UInt8) : Prop := ∀ (k n : Int) (ks : List Tm), t = .mk k n ks → ∀ (A : Option Addr) (c : Nat) (w : World), b.length ≤ 5000 → GM w → Rd w A 0 ks →
  Calls Tryd.prog 19 #[.agg #[.int .i64 k, .int .i64 n, .slice A ks.length c]] w fun e w' => e = .returned (.string (byt b)) ∧ Below w.heap.size w w'

set_option maxHeartbeats 4000000 in
set_option maxRecDepth 100000 in
theorem itext_num (n : Nat) (h : n ≤ 20) : ITextOk (.mk 1 n []) (35 :: Lib.decDigits n) := by
  intro k' n' ks' ht A cc w hl hm hr
  injection ht with h1 h2 h3
  subst h1 h2 h3
  have hd := digits_le h
  have ha : ∀ w, (Op.stringOp .add ⟨#[35]⟩ (byt (Lib.decDigits n))).run Tryd.prog w = .ok (.string (byt (35 :: Lib.decDigits n))) w := fun w => add_strE (a := [35]) rfl (by simp; omega) w
  have hc := hide (fun w => itoa_any h w)
  generalize Lib.decDigits n = D at *
  go_enter Tryd.func19, Tryd.ntmps19
  go_wp2_with (go_at_call 31; refine (hc.out _).mono ?_; rintro e w8 ⟨rfl, rfl⟩)
  go_ret
  exact ⟨rfl, (Below.refl _ _).alloc (Nat.le_refl _) _⟩
set_option maxHeartbeats 8000000 in
set_option maxRecDepth 100000 in
theorem itext_2 (ts : List Tm) (xs : List (List UInt8)) (hl : ts.length = 1) (hx : xs.length = 1)
    (ih : ∀ (j : Nat) (t : Tm) (x : List UInt8), ts[j]? = some t → xs[j]? = some x → ITextOk t x) : ITextOk (.mk 2 0 ts) (inter (prt 2) xs) := by
  intro k' n' ks' ht A cc w hlen hm hr
  injection ht with h1 h2 h3
  subst h1 h2 h3
  obtain ⟨ps, hps0⟩ : ∃ ps, ps = ([[]] : List (List UInt8)) := ⟨_, rfl⟩
  have e2 : prt 2 = [46] :: ps := by rw [hps0]; rfl
  obtain ⟨F, hF⟩ : ∃ F, inter (prt 2) xs = F := ⟨_, rfl⟩
  rw [hF] at hlen ⊢
  rw [e2, inter] at hF
  have hsplit := hide (fun (w : World) (g : Nat) (hm : GM w) (hg : g = w.heap.size) => split_of (l := [46, 44]) (rs := (prt 2).map sc) (n := 1) (by decide +kernel) (by decide +kernel) (by decide) w hm g hg)
  have hps : ps.length = 1 := by rw [hps0]; rfl
  have hm' := hide hm
  have hL := hide hl
  have hX := hide (And.intro hps (And.intro hx (And.intro hF (And.intro ih e2))))
  have htl : ts.length ≤ 3 := by omega
  obtain ⟨M, hM⟩ : ∃ M, M = ts.length := ⟨_, rfl⟩
  have hM' := hide (hM.trans hl)
  clear hl hx ih e2 hF hps hm hps0
  go_enter Tryd.func19, Tryd.ntmps19
  go_wp2_with (go_at_call 32; refine (hsplit.out _ (w.heap.size + 1 + 1) ((hm'.out.alloc _).alloc _) (by simp)).mono ?_; rintro e w8 ⟨rfl, hP, hb9⟩; replace hB := ((Blk.new_ w 25 #[.int .i64 2, .int .i64 0, .slice A ts.length cc] rfl).alloc _).keep hb9; have x2 := hB.at_ (i := 2) rfl; have hpc := strs_cell hP (j := 0) (p := [46]) (by rfl); have g8 : Below w.heap.size w w8 := (((Below.refl _ _).alloc (Nat.le_refl _) _).alloc (by simp) _).trans (hb9.mono (by simp; omega)); have lB := hB.lt)
  clear hpc
  go_loopw [4, 27] (fun o i wr => ∃ (j : Nat) (O : List UInt8), j ≤ ts.length ∧ Hid (O ++ rem (xs.drop j) (ps.drop j) = F) ∧ o = .string (byt O) ∧ i = .int .i64 j ∧ Blk wr (w.heap.size + 1 + 1) (strs ((prt 2).map sc)) ∧ Blk wr w.heap.size #[.int .i64 2, .int .i64 0, .slice A ts.length cc] ∧ Below w.heap.size w wr) (fun _ i _ => ts.length - (intOf i).toNat)
  case atStart => exact ⟨0, [46], Nat.zero_le _, hide hX.out.2.2.1, rfl, rfl, hP, hB, g8⟩
  case round =>
    obtain ⟨j, O, hj, hO, rfl, rfl, hPr, hBr, hb⟩ := hrel
    by_cases hlt : j < ts.length
    · obtain ⟨b, off, k1, n1, ks1, A1, c1, rfl, hkj, hc1, hc2, hc3, hl1, hr1⟩ := (hr.below hb).at_ hlt
      have hL' := hL.out
      have hlx : j < xs.length := by have := hX.out.2.1; omega
      have hlp : j < ps.length := by have := hX.out.1; omega
      obtain ⟨x, hxj⟩ : ∃ x, xs[j]? = some x := ⟨_, List.getElem?_eq_getElem hlx⟩
      obtain ⟨p, hpj⟩ : ∃ p, ps[j]? = some p := ⟨_, List.getElem?_eq_getElem hlp⟩
      have hO2 : (O ++ (x ++ p)) ++ rem (xs.drop (j + 1)) (ps.drop (j + 1)) = F := by rw [← hO.out, rem_drop hxj hpj]; simp
      have hOl : O.length + (x.length + p.length) ≤ 5000 := by rw [← hO2] at hlen; simp at hlen; omega
      have hprt : (prt 2)[j + 1]? = some p := by rw [hX.out.2.2.2.2]; simpa using hpj
      have hrep := hide (fun w hm => rep_any (k := 2) (by decide) hprt w hm)
      have hcell := hide (sc_get hprt)
      have hO2' := hide hO2
      have hkid := hide (hX.out.2.2.2.1 j (.mk k1 n1 ks1) x (by rw [List.getElem?_eq_getElem hlt, hkj]) hxj k1 n1 ks1 rfl)
      have ha1 : ∀ w, (Op.stringOp .add (byt x) (byt p)).run Tryd.prog w = .ok (.string (byt (x ++ p))) w := fun w => add_strE rfl (by omega) w
      have ha2 : ∀ w, (Op.stringOp .add (byt O) (byt (x ++ p))).run Tryd.prog w = .ok (.string (byt (O ++ (x ++ p)))) w := fun w => add_strE rfl (by simp; omega) w
      have hxl : x.length ≤ 5000 := by omega
      have hbl := World.block_lt_of_cell? _ _ hc1
      have lr := hb.size
      have lp := hPr.lt
      have lb := hBr.lt
      have hw : IntKind.i64.wrap ((j : Int) + 1) = (j : Int) + 1 := IntWalk.i64_in _ ⟨by omega, by omega⟩
      have hw2 : (0 : Int) ≤ (j : Int) + 1 ∧ (j : Int) + 1 < 2 := by omega
      clear hkj hxj hpj hO2 hprt hO hOl hlx hlp hL'
      go_wp2_with fail
      refine name_world ?_
      intro wy hwy
      have hyb : Below wr.heap.size wr wy := by rw [hwy]; exact (Below.refl _ _).alloc (Nat.le_refl _) _
      have hY : Blk wy wr.heap.size #[.int .i64 k1, .int .i64 n1, .slice A1 ks1.length c1] := by rw [hwy]; exact Blk.new_ _ _ _ rfl
      have hPy := hPr.keep hyb
      obtain ⟨z0, z1, z2⟩ := hY.three
      have r0 := rule_of z0
      have r1 := rule_of z1
      have r2 := rule_of z2
      have r3 := rule_of (strs_cell hPy hcell.out)
      clear hwy z0 z1 z2
      have gy := hm'.out.keep (hb.trans (hyb.mono hb.size))
      have sm := fun (w' : World) (hw' : Below wy.heap.size wy w') => hkid.out A1 c1 w' hxl (gy.keep hw') ((hr1.below hyb).below hw')
      have sr := fun (w' : World) (hw' : Below wy.heap.size wy w') => hrep.out w' (gy.keep hw')
      refine wp_region_class (fun w' => Below wy.heap.size wy w') (by kernel_rfl) (by kernel_rfl) (Below.refl _ _).drew ?_
      repeat (first | ((refine quiet_skip (a' := ?_) ?_ ?_ ?_); (rotate_left); (· (simp [Region.wanted, yielded, Go.undef]; done)); (· (simp only [Act.put, List.setIfInBounds_toArray, List.set_cons_zero, List.set_cons_succ]; exact rfl))) | ((refine quiet_one (v := ?_) (a' := ?_) ?_ ?_ ?_ ?_); (rotate_left 2); (· (simp [Region.wanted, yielded, Go.undef]; done)); (· (intro w' hS'; go_simp; try (with_reducible rfl))); (· (simp only [Act.put, List.setIfInBounds_toArray, List.set_cons_zero, List.set_cons_succ]; exact rfl))) | ((refine quiet_below (v := ?_) (a' := ?_) 19 ?_ ?_ ?_ ?_ ?_ ?_); (rotate_left 3); (· (simp [Region.wanted, yielded, Go.undef]; done)); (· (intro w' hS'; go_simp; try (with_reducible rfl))); (· (intro w' hS'; exact sm w' hS')); (· (simp only [Act.put, List.setIfInBounds_toArray, List.set_cons_zero, List.set_cons_succ]; exact rfl))) | ((refine quiet_below (v := ?_) (a' := ?_) 33 ?_ ?_ ?_ ?_ ?_ ?_); (rotate_left 3); (· (simp [Region.wanted, yielded, Go.undef]; done)); (· (intro w' hS'; go_simp; try (with_reducible rfl))); (· (intro w' hS'; exact sr w' hS')); (· (simp only [Act.put, List.setIfInBounds_toArray, List.set_cons_zero, List.set_cons_succ]; exact rfl))))
      refine quiet_nil ?_
      intro w9 hx2
      clear r0 r1 r2 r3 sm sr gy
      go_wp2_with fail
      have hx3 : Below wr.heap.size wr w9 := hyb.trans (hx2.mono hyb.size)
      go_roundw
      case rel => exact ⟨j + 1, _, by omega, hO2', rfl, by go_num, hPr.keep hx3, hBr.keep hx3, hb.trans (hx3.mono hb.size)⟩
      case measure => simp [intOf]; omega
    · go_wp2_with fail
      go_ret
      obtain rfl : j = ts.length := by omega
      have h5 := hO.out
      rw [show xs.drop ts.length = [] from List.drop_eq_nil_of_le (by have := hX.out.2.1; have := hL.out; omega), rem_nil, List.append_nil] at h5
      exact ⟨by rw [h5]; rfl, hb⟩
set_option maxHeartbeats 8000000 in
set_option maxRecDepth 100000 in
theorem itext_3 (ts : List Tm) (xs : List (List UInt8)) (hl : ts.length = 2) (hx : xs.length = 2)
    (ih : ∀ (j : Nat) (t : Tm) (x : List UInt8), ts[j]? = some t → xs[j]? = some x → ITextOk t x) : ITextOk (.mk 3 0 ts) (inter (prt 3) xs) := by
  intro k' n' ks' ht A cc w hlen hm hr
  injection ht with h1 h2 h3
  subst h1 h2 h3
  obtain ⟨ps, hps0⟩ : ∃ ps, ps = ([[32], [41]] : List (List UInt8)) := ⟨_, rfl⟩
  have e2 : prt 3 = [40] :: ps := by rw [hps0]; rfl
  obtain ⟨F, hF⟩ : ∃ F, inter (prt 3) xs = F := ⟨_, rfl⟩
  rw [hF] at hlen ⊢
  rw [e2, inter] at hF
  have hsplit := hide (fun (w : World) (g : Nat) (hm : GM w) (hg : g = w.heap.size) => split_of (l := [40, 44, 32, 44, 41]) (rs := (prt 3).map sc) (n := 2) (by decide +kernel) (by decide +kernel) (by decide) w hm g hg)
  have hps : ps.length = 2 := by rw [hps0]; rfl
  have hm' := hide hm
  have hL := hide hl
  have hX := hide (And.intro hps (And.intro hx (And.intro hF (And.intro ih e2))))
  have htl : ts.length ≤ 3 := by omega
  obtain ⟨M, hM⟩ : ∃ M, M = ts.length := ⟨_, rfl⟩
  have hM' := hide (hM.trans hl)
  clear hl hx ih e2 hF hps hm hps0
  go_enter Tryd.func19, Tryd.ntmps19
  go_wp2_with (go_at_call 32; refine (hsplit.out _ (w.heap.size + 1 + 1) ((hm'.out.alloc _).alloc _) (by simp)).mono ?_; rintro e w8 ⟨rfl, hP, hb9⟩; replace hB := ((Blk.new_ w 25 #[.int .i64 3, .int .i64 0, .slice A ts.length cc] rfl).alloc _).keep hb9; have x2 := hB.at_ (i := 2) rfl; have hpc := strs_cell hP (j := 0) (p := [40]) (by rfl); have g8 : Below w.heap.size w w8 := (((Below.refl _ _).alloc (Nat.le_refl _) _).alloc (by simp) _).trans (hb9.mono (by simp; omega)); have lB := hB.lt)
  clear hpc
  go_loopw [4, 27] (fun o i wr => ∃ (j : Nat) (O : List UInt8), j ≤ ts.length ∧ Hid (O ++ rem (xs.drop j) (ps.drop j) = F) ∧ o = .string (byt O) ∧ i = .int .i64 j ∧ Blk wr (w.heap.size + 1 + 1) (strs ((prt 3).map sc)) ∧ Blk wr w.heap.size #[.int .i64 3, .int .i64 0, .slice A ts.length cc] ∧ Below w.heap.size w wr) (fun _ i _ => ts.length - (intOf i).toNat)
  case atStart => exact ⟨0, [40], Nat.zero_le _, hide hX.out.2.2.1, rfl, rfl, hP, hB, g8⟩
  case round =>
    obtain ⟨j, O, hj, hO, rfl, rfl, hPr, hBr, hb⟩ := hrel
    by_cases hlt : j < ts.length
    · obtain ⟨b, off, k1, n1, ks1, A1, c1, rfl, hkj, hc1, hc2, hc3, hl1, hr1⟩ := (hr.below hb).at_ hlt
      have hL' := hL.out
      have hlx : j < xs.length := by have := hX.out.2.1; omega
      have hlp : j < ps.length := by have := hX.out.1; omega
      obtain ⟨x, hxj⟩ : ∃ x, xs[j]? = some x := ⟨_, List.getElem?_eq_getElem hlx⟩
      obtain ⟨p, hpj⟩ : ∃ p, ps[j]? = some p := ⟨_, List.getElem?_eq_getElem hlp⟩
      have hO2 : (O ++ (x ++ p)) ++ rem (xs.drop (j + 1)) (ps.drop (j + 1)) = F := by rw [← hO.out, rem_drop hxj hpj]; simp
      have hOl : O.length + (x.length + p.length) ≤ 5000 := by rw [← hO2] at hlen; simp at hlen; omega
      have hprt : (prt 3)[j + 1]? = some p := by rw [hX.out.2.2.2.2]; simpa using hpj
      have hrep := hide (fun w hm => rep_any (k := 3) (by decide) hprt w hm)
      have hcell := hide (sc_get hprt)
      have hO2' := hide hO2
      have hkid := hide (hX.out.2.2.2.1 j (.mk k1 n1 ks1) x (by rw [List.getElem?_eq_getElem hlt, hkj]) hxj k1 n1 ks1 rfl)
      have ha1 : ∀ w, (Op.stringOp .add (byt x) (byt p)).run Tryd.prog w = .ok (.string (byt (x ++ p))) w := fun w => add_strE rfl (by omega) w
      have ha2 : ∀ w, (Op.stringOp .add (byt O) (byt (x ++ p))).run Tryd.prog w = .ok (.string (byt (O ++ (x ++ p)))) w := fun w => add_strE rfl (by simp; omega) w
      have hxl : x.length ≤ 5000 := by omega
      have hbl := World.block_lt_of_cell? _ _ hc1
      have lr := hb.size
      have lp := hPr.lt
      have lb := hBr.lt
      have hw : IntKind.i64.wrap ((j : Int) + 1) = (j : Int) + 1 := IntWalk.i64_in _ ⟨by omega, by omega⟩
      have hw2 : (0 : Int) ≤ (j : Int) + 1 ∧ (j : Int) + 1 < 3 := by omega
      clear hkj hxj hpj hO2 hprt hO hOl hlx hlp hL'
      go_wp2_with fail
      refine name_world ?_
      intro wy hwy
      have hyb : Below wr.heap.size wr wy := by rw [hwy]; exact (Below.refl _ _).alloc (Nat.le_refl _) _
      have hY : Blk wy wr.heap.size #[.int .i64 k1, .int .i64 n1, .slice A1 ks1.length c1] := by rw [hwy]; exact Blk.new_ _ _ _ rfl
      have hPy := hPr.keep hyb
      obtain ⟨z0, z1, z2⟩ := hY.three
      have r0 := rule_of z0
      have r1 := rule_of z1
      have r2 := rule_of z2
      have r3 := rule_of (strs_cell hPy hcell.out)
      clear hwy z0 z1 z2
      have gy := hm'.out.keep (hb.trans (hyb.mono hb.size))
      have sm := fun (w' : World) (hw' : Below wy.heap.size wy w') => hkid.out A1 c1 w' hxl (gy.keep hw') ((hr1.below hyb).below hw')
      have sr := fun (w' : World) (hw' : Below wy.heap.size wy w') => hrep.out w' (gy.keep hw')
      refine wp_region_class (fun w' => Below wy.heap.size wy w') (by kernel_rfl) (by kernel_rfl) (Below.refl _ _).drew ?_
      repeat (first | ((refine quiet_skip (a' := ?_) ?_ ?_ ?_); (rotate_left); (· (simp [Region.wanted, yielded, Go.undef]; done)); (· (simp only [Act.put, List.setIfInBounds_toArray, List.set_cons_zero, List.set_cons_succ]; exact rfl))) | ((refine quiet_one (v := ?_) (a' := ?_) ?_ ?_ ?_ ?_); (rotate_left 2); (· (simp [Region.wanted, yielded, Go.undef]; done)); (· (intro w' hS'; go_simp; try (with_reducible rfl))); (· (simp only [Act.put, List.setIfInBounds_toArray, List.set_cons_zero, List.set_cons_succ]; exact rfl))) | ((refine quiet_below (v := ?_) (a' := ?_) 19 ?_ ?_ ?_ ?_ ?_ ?_); (rotate_left 3); (· (simp [Region.wanted, yielded, Go.undef]; done)); (· (intro w' hS'; go_simp; try (with_reducible rfl))); (· (intro w' hS'; exact sm w' hS')); (· (simp only [Act.put, List.setIfInBounds_toArray, List.set_cons_zero, List.set_cons_succ]; exact rfl))) | ((refine quiet_below (v := ?_) (a' := ?_) 33 ?_ ?_ ?_ ?_ ?_ ?_); (rotate_left 3); (· (simp [Region.wanted, yielded, Go.undef]; done)); (· (intro w' hS'; go_simp; try (with_reducible rfl))); (· (intro w' hS'; exact sr w' hS')); (· (simp only [Act.put, List.setIfInBounds_toArray, List.set_cons_zero, List.set_cons_succ]; exact rfl))))
      refine quiet_nil ?_
      intro w9 hx2
      clear r0 r1 r2 r3 sm sr gy
      go_wp2_with fail
      have hx3 : Below wr.heap.size wr w9 := hyb.trans (hx2.mono hyb.size)
      go_roundw
      case rel => exact ⟨j + 1, _, by omega, hO2', rfl, by go_num, hPr.keep hx3, hBr.keep hx3, hb.trans (hx3.mono hb.size)⟩
      case measure => simp [intOf]; omega
    · go_wp2_with fail
      go_ret
      obtain rfl : j = ts.length := by omega
      have h5 := hO.out
      rw [show xs.drop ts.length = [] from List.drop_eq_nil_of_le (by have := hX.out.2.1; have := hL.out; omega), rem_nil, List.append_nil] at h5
      exact ⟨by rw [h5]; rfl, hb⟩
set_option maxHeartbeats 8000000 in
set_option maxRecDepth 100000 in
theorem itext_4 (ts : List Tm) (xs : List (List UInt8)) (hl : ts.length = 0) (hx : xs.length = 0)
    (ih : ∀ (j : Nat) (t : Tm) (x : List UInt8), ts[j]? = some t → xs[j]? = some x → ITextOk t x) : ITextOk (.mk 4 0 ts) (inter (prt 4) xs) := by
  intro k' n' ks' ht A cc w hlen hm hr
  injection ht with h1 h2 h3
  subst h1 h2 h3
  obtain ⟨ps, hps0⟩ : ∃ ps, ps = ([] : List (List UInt8)) := ⟨_, rfl⟩
  have e2 : prt 4 = [48] :: ps := by rw [hps0]; rfl
  obtain ⟨F, hF⟩ : ∃ F, inter (prt 4) xs = F := ⟨_, rfl⟩
  rw [hF] at hlen ⊢
  rw [e2, inter] at hF
  have hsplit := hide (fun (w : World) (g : Nat) (hm : GM w) (hg : g = w.heap.size) => split_of (l := [48]) (rs := (prt 4).map sc) (n := 0) (by decide +kernel) (by decide +kernel) (by decide) w hm g hg)
  have hps : ps.length = 0 := by rw [hps0]; rfl
  have hm' := hide hm
  have hL := hide hl
  have hX := hide (And.intro hps (And.intro hx (And.intro hF (And.intro ih e2))))
  have htl : ts.length ≤ 3 := by omega
  obtain ⟨M, hM⟩ : ∃ M, M = ts.length := ⟨_, rfl⟩
  have hM' := hide (hM.trans hl)
  clear hl hx ih e2 hF hps hm hps0
  go_enter Tryd.func19, Tryd.ntmps19
  go_wp2_with (go_at_call 32; refine (hsplit.out _ (w.heap.size + 1 + 1) ((hm'.out.alloc _).alloc _) (by simp)).mono ?_; rintro e w8 ⟨rfl, hP, hb9⟩; replace hB := ((Blk.new_ w 25 #[.int .i64 4, .int .i64 0, .slice A ts.length cc] rfl).alloc _).keep hb9; have x2 := hB.at_ (i := 2) rfl; have hpc := strs_cell hP (j := 0) (p := [48]) (by rfl); have g8 : Below w.heap.size w w8 := (((Below.refl _ _).alloc (Nat.le_refl _) _).alloc (by simp) _).trans (hb9.mono (by simp; omega)); have lB := hB.lt)
  clear hpc
  go_loopw [4, 27] (fun o i wr => ∃ (j : Nat) (O : List UInt8), j ≤ ts.length ∧ Hid (O ++ rem (xs.drop j) (ps.drop j) = F) ∧ o = .string (byt O) ∧ i = .int .i64 j ∧ Blk wr (w.heap.size + 1 + 1) (strs ((prt 4).map sc)) ∧ Blk wr w.heap.size #[.int .i64 4, .int .i64 0, .slice A ts.length cc] ∧ Below w.heap.size w wr) (fun _ i _ => ts.length - (intOf i).toNat)
  case atStart => exact ⟨0, [48], Nat.zero_le _, hide hX.out.2.2.1, rfl, rfl, hP, hB, g8⟩
  case round =>
    obtain ⟨j, O, hj, hO, rfl, rfl, hPr, hBr, hb⟩ := hrel
    by_cases hlt : j < ts.length
    · exact absurd hL.out (by omega)
    · go_wp2_with fail
      go_ret
      obtain rfl : j = ts.length := by omega
      have h5 := hO.out
      rw [show xs.drop ts.length = [] from List.drop_eq_nil_of_le (by have := hX.out.2.1; have := hL.out; omega), rem_nil, List.append_nil] at h5
      exact ⟨by rw [h5]; rfl, hb⟩
set_option maxHeartbeats 8000000 in
set_option maxRecDepth 100000 in
theorem itext_5 (ts : List Tm) (xs : List (List UInt8)) (hl : ts.length = 1) (hx : xs.length = 1)
    (ih : ∀ (j : Nat) (t : Tm) (x : List UInt8), ts[j]? = some t → xs[j]? = some x → ITextOk t x) : ITextOk (.mk 5 0 ts) (inter (prt 5) xs) := by
  intro k' n' ks' ht A cc w hlen hm hr
  injection ht with h1 h2 h3
  subst h1 h2 h3
  obtain ⟨ps, hps0⟩ : ∃ ps, ps = ([[]] : List (List UInt8)) := ⟨_, rfl⟩
  have e2 : prt 5 = [43] :: ps := by rw [hps0]; rfl
  obtain ⟨F, hF⟩ : ∃ F, inter (prt 5) xs = F := ⟨_, rfl⟩
  rw [hF] at hlen ⊢
  rw [e2, inter] at hF
  have hsplit := hide (fun (w : World) (g : Nat) (hm : GM w) (hg : g = w.heap.size) => split_of (l := [43, 44]) (rs := (prt 5).map sc) (n := 1) (by decide +kernel) (by decide +kernel) (by decide) w hm g hg)
  have hps : ps.length = 1 := by rw [hps0]; rfl
  have hm' := hide hm
  have hL := hide hl
  have hX := hide (And.intro hps (And.intro hx (And.intro hF (And.intro ih e2))))
  have htl : ts.length ≤ 3 := by omega
  obtain ⟨M, hM⟩ : ∃ M, M = ts.length := ⟨_, rfl⟩
  have hM' := hide (hM.trans hl)
  clear hl hx ih e2 hF hps hm hps0
  go_enter Tryd.func19, Tryd.ntmps19
  go_wp2_with (go_at_call 32; refine (hsplit.out _ (w.heap.size + 1 + 1) ((hm'.out.alloc _).alloc _) (by simp)).mono ?_; rintro e w8 ⟨rfl, hP, hb9⟩; replace hB := ((Blk.new_ w 25 #[.int .i64 5, .int .i64 0, .slice A ts.length cc] rfl).alloc _).keep hb9; have x2 := hB.at_ (i := 2) rfl; have hpc := strs_cell hP (j := 0) (p := [43]) (by rfl); have g8 : Below w.heap.size w w8 := (((Below.refl _ _).alloc (Nat.le_refl _) _).alloc (by simp) _).trans (hb9.mono (by simp; omega)); have lB := hB.lt)
  clear hpc
  go_loopw [4, 27] (fun o i wr => ∃ (j : Nat) (O : List UInt8), j ≤ ts.length ∧ Hid (O ++ rem (xs.drop j) (ps.drop j) = F) ∧ o = .string (byt O) ∧ i = .int .i64 j ∧ Blk wr (w.heap.size + 1 + 1) (strs ((prt 5).map sc)) ∧ Blk wr w.heap.size #[.int .i64 5, .int .i64 0, .slice A ts.length cc] ∧ Below w.heap.size w wr) (fun _ i _ => ts.length - (intOf i).toNat)
  case atStart => exact ⟨0, [43], Nat.zero_le _, hide hX.out.2.2.1, rfl, rfl, hP, hB, g8⟩
  case round =>
    obtain ⟨j, O, hj, hO, rfl, rfl, hPr, hBr, hb⟩ := hrel
    by_cases hlt : j < ts.length
    · obtain ⟨b, off, k1, n1, ks1, A1, c1, rfl, hkj, hc1, hc2, hc3, hl1, hr1⟩ := (hr.below hb).at_ hlt
      have hL' := hL.out
      have hlx : j < xs.length := by have := hX.out.2.1; omega
      have hlp : j < ps.length := by have := hX.out.1; omega
      obtain ⟨x, hxj⟩ : ∃ x, xs[j]? = some x := ⟨_, List.getElem?_eq_getElem hlx⟩
      obtain ⟨p, hpj⟩ : ∃ p, ps[j]? = some p := ⟨_, List.getElem?_eq_getElem hlp⟩
      have hO2 : (O ++ (x ++ p)) ++ rem (xs.drop (j + 1)) (ps.drop (j + 1)) = F := by rw [← hO.out, rem_drop hxj hpj]; simp
      have hOl : O.length + (x.length + p.length) ≤ 5000 := by rw [← hO2] at hlen; simp at hlen; omega
      have hprt : (prt 5)[j + 1]? = some p := by rw [hX.out.2.2.2.2]; simpa using hpj
      have hrep := hide (fun w hm => rep_any (k := 5) (by decide) hprt w hm)
      have hcell := hide (sc_get hprt)
      have hO2' := hide hO2
      have hkid := hide (hX.out.2.2.2.1 j (.mk k1 n1 ks1) x (by rw [List.getElem?_eq_getElem hlt, hkj]) hxj k1 n1 ks1 rfl)
      have ha1 : ∀ w, (Op.stringOp .add (byt x) (byt p)).run Tryd.prog w = .ok (.string (byt (x ++ p))) w := fun w => add_strE rfl (by omega) w
      have ha2 : ∀ w, (Op.stringOp .add (byt O) (byt (x ++ p))).run Tryd.prog w = .ok (.string (byt (O ++ (x ++ p)))) w := fun w => add_strE rfl (by simp; omega) w
      have hxl : x.length ≤ 5000 := by omega
      have hbl := World.block_lt_of_cell? _ _ hc1
      have lr := hb.size
      have lp := hPr.lt
      have lb := hBr.lt
      have hw : IntKind.i64.wrap ((j : Int) + 1) = (j : Int) + 1 := IntWalk.i64_in _ ⟨by omega, by omega⟩
      have hw2 : (0 : Int) ≤ (j : Int) + 1 ∧ (j : Int) + 1 < 2 := by omega
      clear hkj hxj hpj hO2 hprt hO hOl hlx hlp hL'
      go_wp2_with fail
      refine name_world ?_
      intro wy hwy
      have hyb : Below wr.heap.size wr wy := by rw [hwy]; exact (Below.refl _ _).alloc (Nat.le_refl _) _
      have hY : Blk wy wr.heap.size #[.int .i64 k1, .int .i64 n1, .slice A1 ks1.length c1] := by rw [hwy]; exact Blk.new_ _ _ _ rfl
      have hPy := hPr.keep hyb
      obtain ⟨z0, z1, z2⟩ := hY.three
      have r0 := rule_of z0
      have r1 := rule_of z1
      have r2 := rule_of z2
      have r3 := rule_of (strs_cell hPy hcell.out)
      clear hwy z0 z1 z2
      have gy := hm'.out.keep (hb.trans (hyb.mono hb.size))
      have sm := fun (w' : World) (hw' : Below wy.heap.size wy w') => hkid.out A1 c1 w' hxl (gy.keep hw') ((hr1.below hyb).below hw')
      have sr := fun (w' : World) (hw' : Below wy.heap.size wy w') => hrep.out w' (gy.keep hw')
      refine wp_region_class (fun w' => Below wy.heap.size wy w') (by kernel_rfl) (by kernel_rfl) (Below.refl _ _).drew ?_
      repeat (first | ((refine quiet_skip (a' := ?_) ?_ ?_ ?_); (rotate_left); (· (simp [Region.wanted, yielded, Go.undef]; done)); (· (simp only [Act.put, List.setIfInBounds_toArray, List.set_cons_zero, List.set_cons_succ]; exact rfl))) | ((refine quiet_one (v := ?_) (a' := ?_) ?_ ?_ ?_ ?_); (rotate_left 2); (· (simp [Region.wanted, yielded, Go.undef]; done)); (· (intro w' hS'; go_simp; try (with_reducible rfl))); (· (simp only [Act.put, List.setIfInBounds_toArray, List.set_cons_zero, List.set_cons_succ]; exact rfl))) | ((refine quiet_below (v := ?_) (a' := ?_) 19 ?_ ?_ ?_ ?_ ?_ ?_); (rotate_left 3); (· (simp [Region.wanted, yielded, Go.undef]; done)); (· (intro w' hS'; go_simp; try (with_reducible rfl))); (· (intro w' hS'; exact sm w' hS')); (· (simp only [Act.put, List.setIfInBounds_toArray, List.set_cons_zero, List.set_cons_succ]; exact rfl))) | ((refine quiet_below (v := ?_) (a' := ?_) 33 ?_ ?_ ?_ ?_ ?_ ?_); (rotate_left 3); (· (simp [Region.wanted, yielded, Go.undef]; done)); (· (intro w' hS'; go_simp; try (with_reducible rfl))); (· (intro w' hS'; exact sr w' hS')); (· (simp only [Act.put, List.setIfInBounds_toArray, List.set_cons_zero, List.set_cons_succ]; exact rfl))))
      refine quiet_nil ?_
      intro w9 hx2
      clear r0 r1 r2 r3 sm sr gy
      go_wp2_with fail
      have hx3 : Below wr.heap.size wr w9 := hyb.trans (hx2.mono hyb.size)
      go_roundw
      case rel => exact ⟨j + 1, _, by omega, hO2', rfl, by go_num, hPr.keep hx3, hBr.keep hx3, hb.trans (hx3.mono hb.size)⟩
      case measure => simp [intOf]; omega
    · go_wp2_with fail
      go_ret
      obtain rfl : j = ts.length := by omega
      have h5 := hO.out
      rw [show xs.drop ts.length = [] from List.drop_eq_nil_of_le (by have := hX.out.2.1; have := hL.out; omega), rem_nil, List.append_nil] at h5
      exact ⟨by rw [h5]; rfl, hb⟩
set_option maxHeartbeats 8000000 in
set_option maxRecDepth 100000 in
theorem itext_6 (ts : List Tm) (xs : List (List UInt8)) (hl : ts.length = 3) (hx : xs.length = 3)
    (ih : ∀ (j : Nat) (t : Tm) (x : List UInt8), ts[j]? = some t → xs[j]? = some x → ITextOk t x) : ITextOk (.mk 6 0 ts) (inter (prt 6) xs) := by
  intro k' n' ks' ht A cc w hlen hm hr
  injection ht with h1 h2 h3
  subst h1 h2 h3
  obtain ⟨ps, hps0⟩ : ∃ ps, ps = ([[44], [44], [62]] : List (List UInt8)) := ⟨_, rfl⟩
  have e2 : prt 6 = [60] :: ps := by rw [hps0]; rfl
  obtain ⟨F, hF⟩ : ∃ F, inter (prt 6) xs = F := ⟨_, rfl⟩
  rw [hF] at hlen ⊢
  rw [e2, inter] at hF
  have hsplit := hide (fun (w : World) (g : Nat) (hm : GM w) (hg : g = w.heap.size) => split_of (l := [60, 44, 59, 44, 59, 44, 62]) (rs := (prt 6).map sc) (n := 3) (by decide +kernel) (by decide +kernel) (by decide) w hm g hg)
  have hps : ps.length = 3 := by rw [hps0]; rfl
  have hm' := hide hm
  have hL := hide hl
  have hX := hide (And.intro hps (And.intro hx (And.intro hF (And.intro ih e2))))
  have htl : ts.length ≤ 3 := by omega
  obtain ⟨M, hM⟩ : ∃ M, M = ts.length := ⟨_, rfl⟩
  have hM' := hide (hM.trans hl)
  clear hl hx ih e2 hF hps hm hps0
  go_enter Tryd.func19, Tryd.ntmps19
  go_wp2_with (go_at_call 32; refine (hsplit.out _ (w.heap.size + 1 + 1) ((hm'.out.alloc _).alloc _) (by simp)).mono ?_; rintro e w8 ⟨rfl, hP, hb9⟩; replace hB := ((Blk.new_ w 25 #[.int .i64 6, .int .i64 0, .slice A ts.length cc] rfl).alloc _).keep hb9; have x2 := hB.at_ (i := 2) rfl; have hpc := strs_cell hP (j := 0) (p := [60]) (by rfl); have g8 : Below w.heap.size w w8 := (((Below.refl _ _).alloc (Nat.le_refl _) _).alloc (by simp) _).trans (hb9.mono (by simp; omega)); have lB := hB.lt)
  clear hpc
  go_loopw [4, 27] (fun o i wr => ∃ (j : Nat) (O : List UInt8), j ≤ ts.length ∧ Hid (O ++ rem (xs.drop j) (ps.drop j) = F) ∧ o = .string (byt O) ∧ i = .int .i64 j ∧ Blk wr (w.heap.size + 1 + 1) (strs ((prt 6).map sc)) ∧ Blk wr w.heap.size #[.int .i64 6, .int .i64 0, .slice A ts.length cc] ∧ Below w.heap.size w wr) (fun _ i _ => ts.length - (intOf i).toNat)
  case atStart => exact ⟨0, [60], Nat.zero_le _, hide hX.out.2.2.1, rfl, rfl, hP, hB, g8⟩
  case round =>
    obtain ⟨j, O, hj, hO, rfl, rfl, hPr, hBr, hb⟩ := hrel
    by_cases hlt : j < ts.length
    · obtain ⟨b, off, k1, n1, ks1, A1, c1, rfl, hkj, hc1, hc2, hc3, hl1, hr1⟩ := (hr.below hb).at_ hlt
      have hL' := hL.out
      have hlx : j < xs.length := by have := hX.out.2.1; omega
      have hlp : j < ps.length := by have := hX.out.1; omega
      obtain ⟨x, hxj⟩ : ∃ x, xs[j]? = some x := ⟨_, List.getElem?_eq_getElem hlx⟩
      obtain ⟨p, hpj⟩ : ∃ p, ps[j]? = some p := ⟨_, List.getElem?_eq_getElem hlp⟩
      have hO2 : (O ++ (x ++ p)) ++ rem (xs.drop (j + 1)) (ps.drop (j + 1)) = F := by rw [← hO.out, rem_drop hxj hpj]; simp
      have hOl : O.length + (x.length + p.length) ≤ 5000 := by rw [← hO2] at hlen; simp at hlen; omega
      have hprt : (prt 6)[j + 1]? = some p := by rw [hX.out.2.2.2.2]; simpa using hpj
      have hrep := hide (fun w hm => rep_any (k := 6) (by decide) hprt w hm)
      have hcell := hide (sc_get hprt)
      have hO2' := hide hO2
      have hkid := hide (hX.out.2.2.2.1 j (.mk k1 n1 ks1) x (by rw [List.getElem?_eq_getElem hlt, hkj]) hxj k1 n1 ks1 rfl)
      have ha1 : ∀ w, (Op.stringOp .add (byt x) (byt p)).run Tryd.prog w = .ok (.string (byt (x ++ p))) w := fun w => add_strE rfl (by omega) w
      have ha2 : ∀ w, (Op.stringOp .add (byt O) (byt (x ++ p))).run Tryd.prog w = .ok (.string (byt (O ++ (x ++ p)))) w := fun w => add_strE rfl (by simp; omega) w
      have hxl : x.length ≤ 5000 := by omega
      have hbl := World.block_lt_of_cell? _ _ hc1
      have lr := hb.size
      have lp := hPr.lt
      have lb := hBr.lt
      have hw : IntKind.i64.wrap ((j : Int) + 1) = (j : Int) + 1 := IntWalk.i64_in _ ⟨by omega, by omega⟩
      have hw2 : (0 : Int) ≤ (j : Int) + 1 ∧ (j : Int) + 1 < 4 := by omega
      clear hkj hxj hpj hO2 hprt hO hOl hlx hlp hL'
      go_wp2_with fail
      refine name_world ?_
      intro wy hwy
      have hyb : Below wr.heap.size wr wy := by rw [hwy]; exact (Below.refl _ _).alloc (Nat.le_refl _) _
      have hY : Blk wy wr.heap.size #[.int .i64 k1, .int .i64 n1, .slice A1 ks1.length c1] := by rw [hwy]; exact Blk.new_ _ _ _ rfl
      have hPy := hPr.keep hyb
      obtain ⟨z0, z1, z2⟩ := hY.three
      have r0 := rule_of z0
      have r1 := rule_of z1
      have r2 := rule_of z2
      have r3 := rule_of (strs_cell hPy hcell.out)
      clear hwy z0 z1 z2
      have gy := hm'.out.keep (hb.trans (hyb.mono hb.size))
      have sm := fun (w' : World) (hw' : Below wy.heap.size wy w') => hkid.out A1 c1 w' hxl (gy.keep hw') ((hr1.below hyb).below hw')
      have sr := fun (w' : World) (hw' : Below wy.heap.size wy w') => hrep.out w' (gy.keep hw')
      refine wp_region_class (fun w' => Below wy.heap.size wy w') (by kernel_rfl) (by kernel_rfl) (Below.refl _ _).drew ?_
      repeat (first | ((refine quiet_skip (a' := ?_) ?_ ?_ ?_); (rotate_left); (· (simp [Region.wanted, yielded, Go.undef]; done)); (· (simp only [Act.put, List.setIfInBounds_toArray, List.set_cons_zero, List.set_cons_succ]; exact rfl))) | ((refine quiet_one (v := ?_) (a' := ?_) ?_ ?_ ?_ ?_); (rotate_left 2); (· (simp [Region.wanted, yielded, Go.undef]; done)); (· (intro w' hS'; go_simp; try (with_reducible rfl))); (· (simp only [Act.put, List.setIfInBounds_toArray, List.set_cons_zero, List.set_cons_succ]; exact rfl))) | ((refine quiet_below (v := ?_) (a' := ?_) 19 ?_ ?_ ?_ ?_ ?_ ?_); (rotate_left 3); (· (simp [Region.wanted, yielded, Go.undef]; done)); (· (intro w' hS'; go_simp; try (with_reducible rfl))); (· (intro w' hS'; exact sm w' hS')); (· (simp only [Act.put, List.setIfInBounds_toArray, List.set_cons_zero, List.set_cons_succ]; exact rfl))) | ((refine quiet_below (v := ?_) (a' := ?_) 33 ?_ ?_ ?_ ?_ ?_ ?_); (rotate_left 3); (· (simp [Region.wanted, yielded, Go.undef]; done)); (· (intro w' hS'; go_simp; try (with_reducible rfl))); (· (intro w' hS'; exact sr w' hS')); (· (simp only [Act.put, List.setIfInBounds_toArray, List.set_cons_zero, List.set_cons_succ]; exact rfl))))
      refine quiet_nil ?_
      intro w9 hx2
      clear r0 r1 r2 r3 sm sr gy
      go_wp2_with fail
      have hx3 : Below wr.heap.size wr w9 := hyb.trans (hx2.mono hyb.size)
      go_roundw
      case rel => exact ⟨j + 1, _, by omega, hO2', rfl, by go_num, hPr.keep hx3, hBr.keep hx3, hb.trans (hx3.mono hb.size)⟩
      case measure => simp [intOf]; omega
    · go_wp2_with fail
      go_ret
      obtain rfl : j = ts.length := by omega
      have h5 := hO.out
      rw [show xs.drop ts.length = [] from List.drop_eq_nil_of_le (by have := hX.out.2.1; have := hL.out; omega), rem_nil, List.append_nil] at h5
      exact ⟨by rw [h5]; rfl, hb⟩
set_option maxHeartbeats 8000000 in
set_option maxRecDepth 100000 in
theorem itext_7 (ts : List Tm) (xs : List (List UInt8)) (hl : ts.length = 2) (hx : xs.length = 2)
    (ih : ∀ (j : Nat) (t : Tm) (x : List UInt8), ts[j]? = some t → xs[j]? = some x → ITextOk t x) : ITextOk (.mk 7 0 ts) (inter (prt 7) xs) := by
  intro k' n' ks' ht A cc w hlen hm hr
  injection ht with h1 h2 h3
  subst h1 h2 h3
  obtain ⟨ps, hps0⟩ : ∃ ps, ps = ([[44], [124]] : List (List UInt8)) := ⟨_, rfl⟩
  have e2 : prt 7 = [124] :: ps := by rw [hps0]; rfl
  obtain ⟨F, hF⟩ : ∃ F, inter (prt 7) xs = F := ⟨_, rfl⟩
  rw [hF] at hlen ⊢
  rw [e2, inter] at hF
  have hsplit := hide (fun (w : World) (g : Nat) (hm : GM w) (hg : g = w.heap.size) => split_of (l := [124, 44, 59, 44, 124]) (rs := (prt 7).map sc) (n := 2) (by decide +kernel) (by decide +kernel) (by decide) w hm g hg)
  have hps : ps.length = 2 := by rw [hps0]; rfl
  have hm' := hide hm
  have hL := hide hl
  have hX := hide (And.intro hps (And.intro hx (And.intro hF (And.intro ih e2))))
  have htl : ts.length ≤ 3 := by omega
  obtain ⟨M, hM⟩ : ∃ M, M = ts.length := ⟨_, rfl⟩
  have hM' := hide (hM.trans hl)
  clear hl hx ih e2 hF hps hm hps0
  go_enter Tryd.func19, Tryd.ntmps19
  go_wp2_with (go_at_call 32; refine (hsplit.out _ (w.heap.size + 1 + 1) ((hm'.out.alloc _).alloc _) (by simp)).mono ?_; rintro e w8 ⟨rfl, hP, hb9⟩; replace hB := ((Blk.new_ w 25 #[.int .i64 7, .int .i64 0, .slice A ts.length cc] rfl).alloc _).keep hb9; have x2 := hB.at_ (i := 2) rfl; have hpc := strs_cell hP (j := 0) (p := [124]) (by rfl); have g8 : Below w.heap.size w w8 := (((Below.refl _ _).alloc (Nat.le_refl _) _).alloc (by simp) _).trans (hb9.mono (by simp; omega)); have lB := hB.lt)
  clear hpc
  go_loopw [4, 27] (fun o i wr => ∃ (j : Nat) (O : List UInt8), j ≤ ts.length ∧ Hid (O ++ rem (xs.drop j) (ps.drop j) = F) ∧ o = .string (byt O) ∧ i = .int .i64 j ∧ Blk wr (w.heap.size + 1 + 1) (strs ((prt 7).map sc)) ∧ Blk wr w.heap.size #[.int .i64 7, .int .i64 0, .slice A ts.length cc] ∧ Below w.heap.size w wr) (fun _ i _ => ts.length - (intOf i).toNat)
  case atStart => exact ⟨0, [124], Nat.zero_le _, hide hX.out.2.2.1, rfl, rfl, hP, hB, g8⟩
  case round =>
    obtain ⟨j, O, hj, hO, rfl, rfl, hPr, hBr, hb⟩ := hrel
    by_cases hlt : j < ts.length
    · obtain ⟨b, off, k1, n1, ks1, A1, c1, rfl, hkj, hc1, hc2, hc3, hl1, hr1⟩ := (hr.below hb).at_ hlt
      have hL' := hL.out
      have hlx : j < xs.length := by have := hX.out.2.1; omega
      have hlp : j < ps.length := by have := hX.out.1; omega
      obtain ⟨x, hxj⟩ : ∃ x, xs[j]? = some x := ⟨_, List.getElem?_eq_getElem hlx⟩
      obtain ⟨p, hpj⟩ : ∃ p, ps[j]? = some p := ⟨_, List.getElem?_eq_getElem hlp⟩
      have hO2 : (O ++ (x ++ p)) ++ rem (xs.drop (j + 1)) (ps.drop (j + 1)) = F := by rw [← hO.out, rem_drop hxj hpj]; simp
      have hOl : O.length + (x.length + p.length) ≤ 5000 := by rw [← hO2] at hlen; simp at hlen; omega
      have hprt : (prt 7)[j + 1]? = some p := by rw [hX.out.2.2.2.2]; simpa using hpj
      have hrep := hide (fun w hm => rep_any (k := 7) (by decide) hprt w hm)
      have hcell := hide (sc_get hprt)
      have hO2' := hide hO2
      have hkid := hide (hX.out.2.2.2.1 j (.mk k1 n1 ks1) x (by rw [List.getElem?_eq_getElem hlt, hkj]) hxj k1 n1 ks1 rfl)
      have ha1 : ∀ w, (Op.stringOp .add (byt x) (byt p)).run Tryd.prog w = .ok (.string (byt (x ++ p))) w := fun w => add_strE rfl (by omega) w
      have ha2 : ∀ w, (Op.stringOp .add (byt O) (byt (x ++ p))).run Tryd.prog w = .ok (.string (byt (O ++ (x ++ p)))) w := fun w => add_strE rfl (by simp; omega) w
      have hxl : x.length ≤ 5000 := by omega
      have hbl := World.block_lt_of_cell? _ _ hc1
      have lr := hb.size
      have lp := hPr.lt
      have lb := hBr.lt
      have hw : IntKind.i64.wrap ((j : Int) + 1) = (j : Int) + 1 := IntWalk.i64_in _ ⟨by omega, by omega⟩
      have hw2 : (0 : Int) ≤ (j : Int) + 1 ∧ (j : Int) + 1 < 3 := by omega
      clear hkj hxj hpj hO2 hprt hO hOl hlx hlp hL'
      go_wp2_with fail
      refine name_world ?_
      intro wy hwy
      have hyb : Below wr.heap.size wr wy := by rw [hwy]; exact (Below.refl _ _).alloc (Nat.le_refl _) _
      have hY : Blk wy wr.heap.size #[.int .i64 k1, .int .i64 n1, .slice A1 ks1.length c1] := by rw [hwy]; exact Blk.new_ _ _ _ rfl
      have hPy := hPr.keep hyb
      obtain ⟨z0, z1, z2⟩ := hY.three
      have r0 := rule_of z0
      have r1 := rule_of z1
      have r2 := rule_of z2
      have r3 := rule_of (strs_cell hPy hcell.out)
      clear hwy z0 z1 z2
      have gy := hm'.out.keep (hb.trans (hyb.mono hb.size))
      have sm := fun (w' : World) (hw' : Below wy.heap.size wy w') => hkid.out A1 c1 w' hxl (gy.keep hw') ((hr1.below hyb).below hw')
      have sr := fun (w' : World) (hw' : Below wy.heap.size wy w') => hrep.out w' (gy.keep hw')
      refine wp_region_class (fun w' => Below wy.heap.size wy w') (by kernel_rfl) (by kernel_rfl) (Below.refl _ _).drew ?_
      repeat (first | ((refine quiet_skip (a' := ?_) ?_ ?_ ?_); (rotate_left); (· (simp [Region.wanted, yielded, Go.undef]; done)); (· (simp only [Act.put, List.setIfInBounds_toArray, List.set_cons_zero, List.set_cons_succ]; exact rfl))) | ((refine quiet_one (v := ?_) (a' := ?_) ?_ ?_ ?_ ?_); (rotate_left 2); (· (simp [Region.wanted, yielded, Go.undef]; done)); (· (intro w' hS'; go_simp; try (with_reducible rfl))); (· (simp only [Act.put, List.setIfInBounds_toArray, List.set_cons_zero, List.set_cons_succ]; exact rfl))) | ((refine quiet_below (v := ?_) (a' := ?_) 19 ?_ ?_ ?_ ?_ ?_ ?_); (rotate_left 3); (· (simp [Region.wanted, yielded, Go.undef]; done)); (· (intro w' hS'; go_simp; try (with_reducible rfl))); (· (intro w' hS'; exact sm w' hS')); (· (simp only [Act.put, List.setIfInBounds_toArray, List.set_cons_zero, List.set_cons_succ]; exact rfl))) | ((refine quiet_below (v := ?_) (a' := ?_) 33 ?_ ?_ ?_ ?_ ?_ ?_); (rotate_left 3); (· (simp [Region.wanted, yielded, Go.undef]; done)); (· (intro w' hS'; go_simp; try (with_reducible rfl))); (· (intro w' hS'; exact sr w' hS')); (· (simp only [Act.put, List.setIfInBounds_toArray, List.set_cons_zero, List.set_cons_succ]; exact rfl))))
      refine quiet_nil ?_
      intro w9 hx2
      clear r0 r1 r2 r3 sm sr gy
      go_wp2_with fail
      have hx3 : Below wr.heap.size wr w9 := hyb.trans (hx2.mono hyb.size)
      go_roundw
      case rel => exact ⟨j + 1, _, by omega, hO2', rfl, by go_num, hPr.keep hx3, hBr.keep hx3, hb.trans (hx3.mono hb.size)⟩
      case measure => simp [intOf]; omega
    · go_wp2_with fail
      go_ret
      obtain rfl : j = ts.length := by omega
      have h5 := hO.out
      rw [show xs.drop ts.length = [] from List.drop_eq_nil_of_le (by have := hX.out.2.1; have := hL.out; omega), rem_nil, List.append_nil] at h5
      exact ⟨by rw [h5]; rfl, hb⟩
set_option maxHeartbeats 8000000 in
set_option maxRecDepth 100000 in
theorem itext_8 (ts : List Tm) (xs : List (List UInt8)) (hl : ts.length = 1) (hx : xs.length = 1)
    (ih : ∀ (j : Nat) (t : Tm) (x : List UInt8), ts[j]? = some t → xs[j]? = some x → ITextOk t x) : ITextOk (.mk 8 0 ts) (inter (prt 8) xs) := by
  intro k' n' ks' ht A cc w hlen hm hr
  injection ht with h1 h2 h3
  subst h1 h2 h3
  obtain ⟨ps, hps0⟩ : ∃ ps, ps = ([[]] : List (List UInt8)) := ⟨_, rfl⟩
  have e2 : prt 8 = [94] :: ps := by rw [hps0]; rfl
  obtain ⟨F, hF⟩ : ∃ F, inter (prt 8) xs = F := ⟨_, rfl⟩
  rw [hF] at hlen ⊢
  rw [e2, inter] at hF
  have hsplit := hide (fun (w : World) (g : Nat) (hm : GM w) (hg : g = w.heap.size) => split_of (l := [94, 44]) (rs := (prt 8).map sc) (n := 1) (by decide +kernel) (by decide +kernel) (by decide) w hm g hg)
  have hps : ps.length = 1 := by rw [hps0]; rfl
  have hm' := hide hm
  have hL := hide hl
  have hX := hide (And.intro hps (And.intro hx (And.intro hF (And.intro ih e2))))
  have htl : ts.length ≤ 3 := by omega
  obtain ⟨M, hM⟩ : ∃ M, M = ts.length := ⟨_, rfl⟩
  have hM' := hide (hM.trans hl)
  clear hl hx ih e2 hF hps hm hps0
  go_enter Tryd.func19, Tryd.ntmps19
  go_wp2_with (go_at_call 32; refine (hsplit.out _ (w.heap.size + 1 + 1) ((hm'.out.alloc _).alloc _) (by simp)).mono ?_; rintro e w8 ⟨rfl, hP, hb9⟩; replace hB := ((Blk.new_ w 25 #[.int .i64 8, .int .i64 0, .slice A ts.length cc] rfl).alloc _).keep hb9; have x2 := hB.at_ (i := 2) rfl; have hpc := strs_cell hP (j := 0) (p := [94]) (by rfl); have g8 : Below w.heap.size w w8 := (((Below.refl _ _).alloc (Nat.le_refl _) _).alloc (by simp) _).trans (hb9.mono (by simp; omega)); have lB := hB.lt)
  clear hpc
  go_loopw [4, 27] (fun o i wr => ∃ (j : Nat) (O : List UInt8), j ≤ ts.length ∧ Hid (O ++ rem (xs.drop j) (ps.drop j) = F) ∧ o = .string (byt O) ∧ i = .int .i64 j ∧ Blk wr (w.heap.size + 1 + 1) (strs ((prt 8).map sc)) ∧ Blk wr w.heap.size #[.int .i64 8, .int .i64 0, .slice A ts.length cc] ∧ Below w.heap.size w wr) (fun _ i _ => ts.length - (intOf i).toNat)
  case atStart => exact ⟨0, [94], Nat.zero_le _, hide hX.out.2.2.1, rfl, rfl, hP, hB, g8⟩
  case round =>
    obtain ⟨j, O, hj, hO, rfl, rfl, hPr, hBr, hb⟩ := hrel
    by_cases hlt : j < ts.length
    · obtain ⟨b, off, k1, n1, ks1, A1, c1, rfl, hkj, hc1, hc2, hc3, hl1, hr1⟩ := (hr.below hb).at_ hlt
      have hL' := hL.out
      have hlx : j < xs.length := by have := hX.out.2.1; omega
      have hlp : j < ps.length := by have := hX.out.1; omega
      obtain ⟨x, hxj⟩ : ∃ x, xs[j]? = some x := ⟨_, List.getElem?_eq_getElem hlx⟩
      obtain ⟨p, hpj⟩ : ∃ p, ps[j]? = some p := ⟨_, List.getElem?_eq_getElem hlp⟩
      have hO2 : (O ++ (x ++ p)) ++ rem (xs.drop (j + 1)) (ps.drop (j + 1)) = F := by rw [← hO.out, rem_drop hxj hpj]; simp
      have hOl : O.length + (x.length + p.length) ≤ 5000 := by rw [← hO2] at hlen; simp at hlen; omega
      have hprt : (prt 8)[j + 1]? = some p := by rw [hX.out.2.2.2.2]; simpa using hpj
      have hrep := hide (fun w hm => rep_any (k := 8) (by decide) hprt w hm)
      have hcell := hide (sc_get hprt)
      have hO2' := hide hO2
      have hkid := hide (hX.out.2.2.2.1 j (.mk k1 n1 ks1) x (by rw [List.getElem?_eq_getElem hlt, hkj]) hxj k1 n1 ks1 rfl)
      have ha1 : ∀ w, (Op.stringOp .add (byt x) (byt p)).run Tryd.prog w = .ok (.string (byt (x ++ p))) w := fun w => add_strE rfl (by omega) w
      have ha2 : ∀ w, (Op.stringOp .add (byt O) (byt (x ++ p))).run Tryd.prog w = .ok (.string (byt (O ++ (x ++ p)))) w := fun w => add_strE rfl (by simp; omega) w
      have hxl : x.length ≤ 5000 := by omega
      have hbl := World.block_lt_of_cell? _ _ hc1
      have lr := hb.size
      have lp := hPr.lt
      have lb := hBr.lt
      have hw : IntKind.i64.wrap ((j : Int) + 1) = (j : Int) + 1 := IntWalk.i64_in _ ⟨by omega, by omega⟩
      have hw2 : (0 : Int) ≤ (j : Int) + 1 ∧ (j : Int) + 1 < 2 := by omega
      clear hkj hxj hpj hO2 hprt hO hOl hlx hlp hL'
      go_wp2_with fail
      refine name_world ?_
      intro wy hwy
      have hyb : Below wr.heap.size wr wy := by rw [hwy]; exact (Below.refl _ _).alloc (Nat.le_refl _) _
      have hY : Blk wy wr.heap.size #[.int .i64 k1, .int .i64 n1, .slice A1 ks1.length c1] := by rw [hwy]; exact Blk.new_ _ _ _ rfl
      have hPy := hPr.keep hyb
      obtain ⟨z0, z1, z2⟩ := hY.three
      have r0 := rule_of z0
      have r1 := rule_of z1
      have r2 := rule_of z2
      have r3 := rule_of (strs_cell hPy hcell.out)
      clear hwy z0 z1 z2
      have gy := hm'.out.keep (hb.trans (hyb.mono hb.size))
      have sm := fun (w' : World) (hw' : Below wy.heap.size wy w') => hkid.out A1 c1 w' hxl (gy.keep hw') ((hr1.below hyb).below hw')
      have sr := fun (w' : World) (hw' : Below wy.heap.size wy w') => hrep.out w' (gy.keep hw')
      refine wp_region_class (fun w' => Below wy.heap.size wy w') (by kernel_rfl) (by kernel_rfl) (Below.refl _ _).drew ?_
      repeat (first | ((refine quiet_skip (a' := ?_) ?_ ?_ ?_); (rotate_left); (· (simp [Region.wanted, yielded, Go.undef]; done)); (· (simp only [Act.put, List.setIfInBounds_toArray, List.set_cons_zero, List.set_cons_succ]; exact rfl))) | ((refine quiet_one (v := ?_) (a' := ?_) ?_ ?_ ?_ ?_); (rotate_left 2); (· (simp [Region.wanted, yielded, Go.undef]; done)); (· (intro w' hS'; go_simp; try (with_reducible rfl))); (· (simp only [Act.put, List.setIfInBounds_toArray, List.set_cons_zero, List.set_cons_succ]; exact rfl))) | ((refine quiet_below (v := ?_) (a' := ?_) 19 ?_ ?_ ?_ ?_ ?_ ?_); (rotate_left 3); (· (simp [Region.wanted, yielded, Go.undef]; done)); (· (intro w' hS'; go_simp; try (with_reducible rfl))); (· (intro w' hS'; exact sm w' hS')); (· (simp only [Act.put, List.setIfInBounds_toArray, List.set_cons_zero, List.set_cons_succ]; exact rfl))) | ((refine quiet_below (v := ?_) (a' := ?_) 33 ?_ ?_ ?_ ?_ ?_ ?_); (rotate_left 3); (· (simp [Region.wanted, yielded, Go.undef]; done)); (· (intro w' hS'; go_simp; try (with_reducible rfl))); (· (intro w' hS'; exact sr w' hS')); (· (simp only [Act.put, List.setIfInBounds_toArray, List.set_cons_zero, List.set_cons_succ]; exact rfl))))
      refine quiet_nil ?_
      intro w9 hx2
      clear r0 r1 r2 r3 sm sr gy
      go_wp2_with fail
      have hx3 : Below wr.heap.size wr w9 := hyb.trans (hx2.mono hyb.size)
      go_roundw
      case rel => exact ⟨j + 1, _, by omega, hO2', rfl, by go_num, hPr.keep hx3, hBr.keep hx3, hb.trans (hx3.mono hb.size)⟩
      case measure => simp [intOf]; omega
    · go_wp2_with fail
      go_ret
      obtain rfl : j = ts.length := by omega
      have h5 := hO.out
      rw [show xs.drop ts.length = [] from List.drop_eq_nil_of_le (by have := hX.out.2.1; have := hL.out; omega), rem_nil, List.append_nil] at h5
      exact ⟨by rw [h5]; rfl, hb⟩
set_option maxHeartbeats 8000000 in
set_option maxRecDepth 100000 in
theorem itext_9 (ts : List Tm) (xs : List (List UInt8)) (hl : ts.length = 1) (hx : xs.length = 1)
    (ih : ∀ (j : Nat) (t : Tm) (x : List UInt8), ts[j]? = some t → xs[j]? = some x → ITextOk t x) : ITextOk (.mk 9 0 ts) (inter (prt 9) xs) := by
  intro k' n' ks' ht A cc w hlen hm hr
  injection ht with h1 h2 h3
  subst h1 h2 h3
  obtain ⟨ps, hps0⟩ : ∃ ps, ps = ([[]] : List (List UInt8)) := ⟨_, rfl⟩
  have e2 : prt 9 = [95] :: ps := by rw [hps0]; rfl
  obtain ⟨F, hF⟩ : ∃ F, inter (prt 9) xs = F := ⟨_, rfl⟩
  rw [hF] at hlen ⊢
  rw [e2, inter] at hF
  have hsplit := hide (fun (w : World) (g : Nat) (hm : GM w) (hg : g = w.heap.size) => split_of (l := [95, 44]) (rs := (prt 9).map sc) (n := 1) (by decide +kernel) (by decide +kernel) (by decide) w hm g hg)
  have hps : ps.length = 1 := by rw [hps0]; rfl
  have hm' := hide hm
  have hL := hide hl
  have hX := hide (And.intro hps (And.intro hx (And.intro hF (And.intro ih e2))))
  have htl : ts.length ≤ 3 := by omega
  obtain ⟨M, hM⟩ : ∃ M, M = ts.length := ⟨_, rfl⟩
  have hM' := hide (hM.trans hl)
  clear hl hx ih e2 hF hps hm hps0
  go_enter Tryd.func19, Tryd.ntmps19
  go_wp2_with (go_at_call 32; refine (hsplit.out _ (w.heap.size + 1 + 1) ((hm'.out.alloc _).alloc _) (by simp)).mono ?_; rintro e w8 ⟨rfl, hP, hb9⟩; replace hB := ((Blk.new_ w 25 #[.int .i64 9, .int .i64 0, .slice A ts.length cc] rfl).alloc _).keep hb9; have x2 := hB.at_ (i := 2) rfl; have hpc := strs_cell hP (j := 0) (p := [95]) (by rfl); have g8 : Below w.heap.size w w8 := (((Below.refl _ _).alloc (Nat.le_refl _) _).alloc (by simp) _).trans (hb9.mono (by simp; omega)); have lB := hB.lt)
  clear hpc
  go_loopw [4, 27] (fun o i wr => ∃ (j : Nat) (O : List UInt8), j ≤ ts.length ∧ Hid (O ++ rem (xs.drop j) (ps.drop j) = F) ∧ o = .string (byt O) ∧ i = .int .i64 j ∧ Blk wr (w.heap.size + 1 + 1) (strs ((prt 9).map sc)) ∧ Blk wr w.heap.size #[.int .i64 9, .int .i64 0, .slice A ts.length cc] ∧ Below w.heap.size w wr) (fun _ i _ => ts.length - (intOf i).toNat)
  case atStart => exact ⟨0, [95], Nat.zero_le _, hide hX.out.2.2.1, rfl, rfl, hP, hB, g8⟩
  case round =>
    obtain ⟨j, O, hj, hO, rfl, rfl, hPr, hBr, hb⟩ := hrel
    by_cases hlt : j < ts.length
    · obtain ⟨b, off, k1, n1, ks1, A1, c1, rfl, hkj, hc1, hc2, hc3, hl1, hr1⟩ := (hr.below hb).at_ hlt
      have hL' := hL.out
      have hlx : j < xs.length := by have := hX.out.2.1; omega
      have hlp : j < ps.length := by have := hX.out.1; omega
      obtain ⟨x, hxj⟩ : ∃ x, xs[j]? = some x := ⟨_, List.getElem?_eq_getElem hlx⟩
      obtain ⟨p, hpj⟩ : ∃ p, ps[j]? = some p := ⟨_, List.getElem?_eq_getElem hlp⟩
      have hO2 : (O ++ (x ++ p)) ++ rem (xs.drop (j + 1)) (ps.drop (j + 1)) = F := by rw [← hO.out, rem_drop hxj hpj]; simp
      have hOl : O.length + (x.length + p.length) ≤ 5000 := by rw [← hO2] at hlen; simp at hlen; omega
      have hprt : (prt 9)[j + 1]? = some p := by rw [hX.out.2.2.2.2]; simpa using hpj
      have hrep := hide (fun w hm => rep_any (k := 9) (by decide) hprt w hm)
      have hcell := hide (sc_get hprt)
      have hO2' := hide hO2
      have hkid := hide (hX.out.2.2.2.1 j (.mk k1 n1 ks1) x (by rw [List.getElem?_eq_getElem hlt, hkj]) hxj k1 n1 ks1 rfl)
      have ha1 : ∀ w, (Op.stringOp .add (byt x) (byt p)).run Tryd.prog w = .ok (.string (byt (x ++ p))) w := fun w => add_strE rfl (by omega) w
      have ha2 : ∀ w, (Op.stringOp .add (byt O) (byt (x ++ p))).run Tryd.prog w = .ok (.string (byt (O ++ (x ++ p)))) w := fun w => add_strE rfl (by simp; omega) w
      have hxl : x.length ≤ 5000 := by omega
      have hbl := World.block_lt_of_cell? _ _ hc1
      have lr := hb.size
      have lp := hPr.lt
      have lb := hBr.lt
      have hw : IntKind.i64.wrap ((j : Int) + 1) = (j : Int) + 1 := IntWalk.i64_in _ ⟨by omega, by omega⟩
      have hw2 : (0 : Int) ≤ (j : Int) + 1 ∧ (j : Int) + 1 < 2 := by omega
      clear hkj hxj hpj hO2 hprt hO hOl hlx hlp hL'
      go_wp2_with fail
      refine name_world ?_
      intro wy hwy
      have hyb : Below wr.heap.size wr wy := by rw [hwy]; exact (Below.refl _ _).alloc (Nat.le_refl _) _
      have hY : Blk wy wr.heap.size #[.int .i64 k1, .int .i64 n1, .slice A1 ks1.length c1] := by rw [hwy]; exact Blk.new_ _ _ _ rfl
      have hPy := hPr.keep hyb
      obtain ⟨z0, z1, z2⟩ := hY.three
      have r0 := rule_of z0
      have r1 := rule_of z1
      have r2 := rule_of z2
      have r3 := rule_of (strs_cell hPy hcell.out)
      clear hwy z0 z1 z2
      have gy := hm'.out.keep (hb.trans (hyb.mono hb.size))
      have sm := fun (w' : World) (hw' : Below wy.heap.size wy w') => hkid.out A1 c1 w' hxl (gy.keep hw') ((hr1.below hyb).below hw')
      have sr := fun (w' : World) (hw' : Below wy.heap.size wy w') => hrep.out w' (gy.keep hw')
      refine wp_region_class (fun w' => Below wy.heap.size wy w') (by kernel_rfl) (by kernel_rfl) (Below.refl _ _).drew ?_
      repeat (first | ((refine quiet_skip (a' := ?_) ?_ ?_ ?_); (rotate_left); (· (simp [Region.wanted, yielded, Go.undef]; done)); (· (simp only [Act.put, List.setIfInBounds_toArray, List.set_cons_zero, List.set_cons_succ]; exact rfl))) | ((refine quiet_one (v := ?_) (a' := ?_) ?_ ?_ ?_ ?_); (rotate_left 2); (· (simp [Region.wanted, yielded, Go.undef]; done)); (· (intro w' hS'; go_simp; try (with_reducible rfl))); (· (simp only [Act.put, List.setIfInBounds_toArray, List.set_cons_zero, List.set_cons_succ]; exact rfl))) | ((refine quiet_below (v := ?_) (a' := ?_) 19 ?_ ?_ ?_ ?_ ?_ ?_); (rotate_left 3); (· (simp [Region.wanted, yielded, Go.undef]; done)); (· (intro w' hS'; go_simp; try (with_reducible rfl))); (· (intro w' hS'; exact sm w' hS')); (· (simp only [Act.put, List.setIfInBounds_toArray, List.set_cons_zero, List.set_cons_succ]; exact rfl))) | ((refine quiet_below (v := ?_) (a' := ?_) 33 ?_ ?_ ?_ ?_ ?_ ?_); (rotate_left 3); (· (simp [Region.wanted, yielded, Go.undef]; done)); (· (intro w' hS'; go_simp; try (with_reducible rfl))); (· (intro w' hS'; exact sr w' hS')); (· (simp only [Act.put, List.setIfInBounds_toArray, List.set_cons_zero, List.set_cons_succ]; exact rfl))))
      refine quiet_nil ?_
      intro w9 hx2
      clear r0 r1 r2 r3 sm sr gy
      go_wp2_with fail
      have hx3 : Below wr.heap.size wr w9 := hyb.trans (hx2.mono hyb.size)
      go_roundw
      case rel => exact ⟨j + 1, _, by omega, hO2', rfl, by go_num, hPr.keep hx3, hBr.keep hx3, hb.trans (hx3.mono hb.size)⟩
      case measure => simp [intOf]; omega
    · go_wp2_with fail
      go_ret
      obtain rfl : j = ts.length := by omega
      have h5 := hO.out
      rw [show xs.drop ts.length = [] from List.drop_eq_nil_of_le (by have := hX.out.2.1; have := hL.out; omega), rem_nil, List.append_nil] at h5
      exact ⟨by rw [h5]; rfl, hb⟩
set_option maxHeartbeats 8000000 in
set_option maxRecDepth 100000 in
theorem itext_10 (ts : List Tm) (xs : List (List UInt8)) (hl : ts.length = 0) (hx : xs.length = 0)
    (ih : ∀ (j : Nat) (t : Tm) (x : List UInt8), ts[j]? = some t → xs[j]? = some x → ITextOk t x) : ITextOk (.mk 10 0 ts) (inter (prt 10) xs) := by
  intro k' n' ks' ht A cc w hlen hm hr
  injection ht with h1 h2 h3
  subst h1 h2 h3
  obtain ⟨ps, hps0⟩ : ∃ ps, ps = ([] : List (List UInt8)) := ⟨_, rfl⟩
  have e2 : prt 10 = [63] :: ps := by rw [hps0]; rfl
  obtain ⟨F, hF⟩ : ∃ F, inter (prt 10) xs = F := ⟨_, rfl⟩
  rw [hF] at hlen ⊢
  rw [e2, inter] at hF
  have hsplit := hide (fun (w : World) (g : Nat) (hm : GM w) (hg : g = w.heap.size) => split_of (l := [63]) (rs := (prt 10).map sc) (n := 0) (by decide +kernel) (by decide +kernel) (by decide) w hm g hg)
  have hps : ps.length = 0 := by rw [hps0]; rfl
  have hm' := hide hm
  have hL := hide hl
  have hX := hide (And.intro hps (And.intro hx (And.intro hF (And.intro ih e2))))
  have htl : ts.length ≤ 3 := by omega
  obtain ⟨M, hM⟩ : ∃ M, M = ts.length := ⟨_, rfl⟩
  have hM' := hide (hM.trans hl)
  clear hl hx ih e2 hF hps hm hps0
  go_enter Tryd.func19, Tryd.ntmps19
  go_wp2_with (go_at_call 32; refine (hsplit.out _ (w.heap.size + 1 + 1) ((hm'.out.alloc _).alloc _) (by simp)).mono ?_; rintro e w8 ⟨rfl, hP, hb9⟩; replace hB := ((Blk.new_ w 25 #[.int .i64 10, .int .i64 0, .slice A ts.length cc] rfl).alloc _).keep hb9; have x2 := hB.at_ (i := 2) rfl; have hpc := strs_cell hP (j := 0) (p := [63]) (by rfl); have g8 : Below w.heap.size w w8 := (((Below.refl _ _).alloc (Nat.le_refl _) _).alloc (by simp) _).trans (hb9.mono (by simp; omega)); have lB := hB.lt)
  clear hpc
  go_loopw [4, 27] (fun o i wr => ∃ (j : Nat) (O : List UInt8), j ≤ ts.length ∧ Hid (O ++ rem (xs.drop j) (ps.drop j) = F) ∧ o = .string (byt O) ∧ i = .int .i64 j ∧ Blk wr (w.heap.size + 1 + 1) (strs ((prt 10).map sc)) ∧ Blk wr w.heap.size #[.int .i64 10, .int .i64 0, .slice A ts.length cc] ∧ Below w.heap.size w wr) (fun _ i _ => ts.length - (intOf i).toNat)
  case atStart => exact ⟨0, [63], Nat.zero_le _, hide hX.out.2.2.1, rfl, rfl, hP, hB, g8⟩
  case round =>
    obtain ⟨j, O, hj, hO, rfl, rfl, hPr, hBr, hb⟩ := hrel
    by_cases hlt : j < ts.length
    · exact absurd hL.out (by omega)
    · go_wp2_with fail
      go_ret
      obtain rfl : j = ts.length := by omega
      have h5 := hO.out
      rw [show xs.drop ts.length = [] from List.drop_eq_nil_of_le (by have := hX.out.2.1; have := hL.out; omega), rem_nil, List.append_nil] at h5
      exact ⟨by rw [h5]; rfl, hb⟩
/-- the program's text of a code -/
theorem codeText_any {d : Nat} {t : Tm} {b : List UInt8} (h : Tc d t b) : ITextOk t b := by
  induction h with
  | num d n h => exact itext_num n h
  | node d k ts xs hk hl hx ht ih =>
    rcases kinds hk with rfl | rfl | rfl | rfl | rfl | rfl | rfl | rfl | rfl
    · exact itext_2 ts xs (by rw [show (prt 2).length = 2 from rfl] at hl; omega) (by rw [show (prt 2).length = 2 from rfl] at hl; omega) ih
    · exact itext_3 ts xs (by rw [show (prt 3).length = 3 from rfl] at hl; omega) (by rw [show (prt 3).length = 3 from rfl] at hl; omega) ih
    · exact itext_4 ts xs (by rw [show (prt 4).length = 1 from rfl] at hl; omega) (by rw [show (prt 4).length = 1 from rfl] at hl; omega) ih
    · exact itext_5 ts xs (by rw [show (prt 5).length = 2 from rfl] at hl; omega) (by rw [show (prt 5).length = 2 from rfl] at hl; omega) ih
    · exact itext_6 ts xs (by rw [show (prt 6).length = 4 from rfl] at hl; omega) (by rw [show (prt 6).length = 4 from rfl] at hl; omega) ih
    · exact itext_7 ts xs (by rw [show (prt 7).length = 3 from rfl] at hl; omega) (by rw [show (prt 7).length = 3 from rfl] at hl; omega) ih
    · exact itext_8 ts xs (by rw [show (prt 8).length = 2 from rfl] at hl; omega) (by rw [show (prt 8).length = 2 from rfl] at hl; omega) ih
    · exact itext_9 ts xs (by rw [show (prt 9).length = 2 from rfl] at hl; omega) (by rw [show (prt 9).length = 2 from rfl] at hl; omega) ih
    · exact itext_10 ts xs (by rw [show (prt 10).length = 1 from rfl] at hl; omega) (by rw [show (prt 10).length = 1 from rfl] at hl; omega) ih
end Go.Proofs.YtjpgdfndlmipcaaDoor.Cd

namespace Go.Proofs.YtjpgdfndlmipcaaDoor.Cd
open Go.RowKit
set_option linter.unusedSimpArgs false
set_option linter.unusedVariables false

theorem conv_one {w : World} {v : Int} {c : UInt8} (hv : (c.toNat : Int) = v) : (convert 22 9 (.slice (some ⟨w.heap.size, 0, none⟩) 1 1)).run Tryd.prog (w.alloc (.cells #[.int .u8 v] 5)) = .ok (.string (byt [c])) (w.alloc (.cells #[.int .u8 v] 5)) :=
  run_convert_bytes_back (P := Tryd.prog) (w.alloc (.cells #[.int .u8 v] 5)) 22 9 5 ⟨w.heap.size, 0, none⟩ 1 [c] Tryd.underlying22 Tryd.underlying5 Tryd.underlying9 (fun j hj => by
    have : j = 0 := by simpa using hj
    subst this
    simp [Addr.add, hv])
set_option maxHeartbeats 4000000 in
set_option maxRecDepth 100000 in
theorem dec_two (n q r : Int) (cq cr : UInt8) (h1 : 10 ≤ n) (h2 : n ≤ 20) (hq : Int.tdiv n 10 = q) (hr : Int.tmod n 10 = r) (hq0 : 0 ≤ q ∧ q ≤ 9) (hr0 : 0 ≤ r ∧ r ≤ 9) (hcq : (cq.toNat : Int) = 48 + q) (hcr : (cr.toNat : Int) = 48 + r) (w : World) :
    Calls Tryd.prog 34 #[.int .i64 n] w fun e w' => e = .returned (.string (byt [cq, cr])) ∧ Below w.heap.size w w' := by
  have hcvq := hide (fun w : World => conv_one (w := w) hcq)
  have hcvr := hide (fun w : World => conv_one (w := w) hcr)
  have hu1 : IntKind.u8.wrap (48 + q) = 48 + q := IntWalk.u8_in _ (by omega)
  have hu2 : IntKind.u8.wrap (48 + r) = 48 + r := IntWalk.u8_in _ (by omega)
  have hi1 : IntKind.i64.wrap (48 + q) = 48 + q := IntWalk.i64_in _ ⟨by omega, by omega⟩
  have hi2 : IntKind.i64.wrap (48 + r) = 48 + r := IntWalk.i64_in _ ⟨by omega, by omega⟩
  have hd1 : decide (n < -9223372036854775807) = false := decide_eq_false (by omega)
  have hd2 : decide (n < 0) = false := decide_eq_false (by omega)
  have hd3 : decide (9 < n) = true := decide_eq_true (by omega)
  have hd4 : decide (9 < q) = false := decide_eq_false (by omega)
  clear hcq hcr
  go_enter Tryd.func34, Tryd.ntmps34
  go_wp2
  go_loopw [0, 3] (fun a v wr => (a = .int .i64 n ∧ v = .string (byt []) ∨ a = .int .i64 q ∧ v = .string (byt [cr])) ∧ Below w.heap.size w wr) (fun a _ _ => (intOf a).toNat)
  case atStart => exact ⟨.inl ⟨rfl, rfl⟩, Below.refl _ _⟩
  case round =>
    obtain ⟨⟨rfl, rfl⟩ | ⟨rfl, rfl⟩, hb⟩ := hrel
    · have hadd : ∀ w, (Op.stringOp .add (byt [cr]) (byt [])).run Tryd.prog w = .ok (.string (byt [cr])) w := fun w => add_strE rfl (by simp) w
      have hcv := hcvr.out
      go_wp2
      go_roundw
      case rel => exact ⟨.inr ⟨rfl, rfl⟩, hb.alloc hb.size _⟩
      case measure => simp [intOf]; omega
    · have hadd : ∀ w, (Op.stringOp .add (byt [cq]) (byt [cr])).run Tryd.prog w = .ok (.string (byt [cq, cr])) w := fun w => add_strE rfl (by simp) w
      have hcv := hcvq.out
      go_wp2
      go_ret
      exact ⟨rfl, hb.alloc hb.size _⟩
theorem dec2_any {n : Nat} (h : n ≤ 20) (w : World) : Calls Tryd.prog 34 #[.int .i64 n] w fun e w' => e = .returned (.string (byt (Lib.decDigits n))) ∧ Below w.heap.size w w' := by
  by_cases h1 : n < 10
  · rw [Lib.decDigits_one h1]
    exact dec_any n _ ⟨by omega, by omega, by rw [dig_nat h1]; omega⟩ w
  · rw [Lib.decDigits_two h1 (by omega)]
    refine dec_two n (n / 10 : Nat) (n % 10 : Nat) _ _ (by omega) (by omega) ?_ ?_ (by omega) (by omega) (by rw [dig_nat (by omega)]; omega) (by rw [dig_nat (by omega)]; omega) w
    · rfl
    · rfl
end Go.Proofs.YtjpgdfndlmipcaaDoor.Cd
