/-
 Contracts of the functions that the law reaches, and plain lemmas. No condition.
-/
import Derived.Test.YtddkehjdjfmhmaaK2
import Derived.Test.YtddkehjdjfmhmaaK5
import Derived.Test.YtddkehjdjfmhmaaK12
import Derived.Laws.IdiomStrings
namespace Go.Proofs.Ytddkehjdjfmhmaa
set_option linter.unusedSimpArgs false
set_option linter.unusedVariables false
open Go.RowKit
set_option maxHeartbeats 4000000 in
set_option maxRecDepth 100000 in
theorem block_any {d : Nat} {k : Int} {m : Nat} {o : List UInt8} {c : UInt8} (h : BlkK k m o c) (ts : List Tm) (xs : List (List UInt8)) (hm : ts.length = m) (hx : xs.length = m)
  (ih : ∀ (j : Nat) (k n : Int) (ks : List Tm) (x : List UInt8), ts[j]? = some (.mk k n ks) → xs[j]? = some x → ParseOk k n ks x d)
  (s : ByteArray) (i : Nat) (I D : Int) (w : World) (hs : s.size ≤ 1000000) (hI : I = i) (hh : Has s i (o ++ ser c xs)) (hD : (d : Int) + 1 ≤ D) (hD2 : D ≤ 1000) :
  Calls Try.prog 68 #[.string s, .int .i64 I, .int .i64 D] w (ParsedT w k 0 ts (i + (o ++ ser c xs).length)) := by
 subst hI
 obtain ⟨hh1, hh2⟩ := hh.app
 rw [List.length_append, ← Nat.add_assoc]
 have enter : ∀ (q j : Nat) (hi : i < s.size) (z : Nat), (s[i]'hi).toNat = z → (o.length = 2 → ∃ (hi2 : i + 1 < s.size), (s[i + 1]'hi2).toNat = 60) → q = i + o.length → o.head? = some (UInt8.ofNat z) →
   (∀ w (I : Int), I = q → Calls Try.prog 80 #[.string s, .int .i64 I, .int .i64 (D - 1), .int .i64 m, .int .u8 c.toNat] w (ParsedL w ts j)) → z < 256 → Calls Try.prog 68 #[.string s, .int .i64 i, .int .i64 D] w (ParsedT w k 0 ts j) := by
  clear hh hh1 hh2 ih hx
  intro q j hi z he h2 hq hz hp hz256
  have hts : (ts.length : Int) = m := by omega
  have htl : ts.length = m := hm
  have hp' := hide hp
  clear hp hm hts
  have hm' := hide htl
  clear htl
  rcases h with ⟨rfl, rfl, rfl, rfl⟩ | ⟨rfl, rfl, rfl, rfl⟩ | ⟨rfl, rfl, rfl, rfl⟩ | ⟨rfl, rfl, rfl, rfl⟩
  case inl =>
   have hz : z = 60 := by simp only [List.head?_cons, Option.some.injEq] at hz; have := congrArg UInt8.toNat hz; simp at this; omega
   subst hz
   have ha : arity 9 = 4 := by decide
   clear h2 hz256
   go_enter Try.func68, Try.ntmps68
   go_wp2_with (first
    | (go_at_call 80; refine (hp'.out _ _ (by rw [hq]; simp)).mono ?_; rintro e w1 ⟨m1, A1, c1, hm1, rfl, hf1, hb1⟩; have hm1' := hide hm1; clear hm1; have hZ := (Blk.new_ w 25 #[.int .i64 0, .int .i64 0, .slice none 0 0] rfl).keep hb1; have d0 := hZ.at_ (i := 0) rfl; have d1 := hZ.at_ (i := 1) rfl; have d2 := hZ.at_ (i := 2) rfl; have e0 := hZ.frozen 0; have e1 := hZ.frozen 1; have e2 := hZ.frozen 2; have g1 : Below w.heap.size w w1 := ((Below.refl _ _).alloc (Nat.le_refl _) _).trans (hb1.mono (by simp)))
    | (go_at_call 58; refine (l1Kids_any _ _).mono ?_; rintro e w9 ⟨rfl, rfl⟩))
   refine bodyPost_ret (v := .tuple #[.agg #[.int .i64 9, .int .i64 0, .slice A1 ts.length c1], .int .i64 m1]) (by simp [results, Try.results68, go_sem, d0, d1, d2]) rfl ⟨m1, A1, c1, hm1'.out, rfl, by have := hm'.out; omega, ?_, ((g1.setCell (by simp) _).setCell (by simp) _).setCell (by simp) _⟩
   exact (((hf1.setCell (by simp) _).setCell (by simp) _).setCell (by simp) _).mono (by simp)
  case inr.inl =>
   have hz : z = 123 := by simp only [List.head?_cons, Option.some.injEq] at hz; have := congrArg UInt8.toNat hz; simp at this; omega
   subst hz
   have ha : arity 10 = 3 := by decide
   clear h2 hz256
   go_enter Try.func68, Try.ntmps68
   go_wp2_with (first
    | (go_at_call 80; refine (hp'.out _ _ (by rw [hq]; simp)).mono ?_; rintro e w1 ⟨m1, A1, c1, hm1, rfl, hf1, hb1⟩; have hm1' := hide hm1; clear hm1; have hZ := (Blk.new_ w 25 #[.int .i64 0, .int .i64 0, .slice none 0 0] rfl).keep hb1; have d0 := hZ.at_ (i := 0) rfl; have d1 := hZ.at_ (i := 1) rfl; have d2 := hZ.at_ (i := 2) rfl; have e0 := hZ.frozen 0; have e1 := hZ.frozen 1; have e2 := hZ.frozen 2; have g1 : Below w.heap.size w w1 := ((Below.refl _ _).alloc (Nat.le_refl _) _).trans (hb1.mono (by simp)))
    | (go_at_call 58; refine (l1Kids_any _ _).mono ?_; rintro e w9 ⟨rfl, rfl⟩))
   refine bodyPost_ret (v := .tuple #[.agg #[.int .i64 10, .int .i64 0, .slice A1 ts.length c1], .int .i64 m1]) (by simp [results, Try.results68, go_sem, d0, d1, d2]) rfl ⟨m1, A1, c1, hm1'.out, rfl, by have := hm'.out; omega, ?_, ((g1.setCell (by simp) _).setCell (by simp) _).setCell (by simp) _⟩
   exact (((hf1.setCell (by simp) _).setCell (by simp) _).setCell (by simp) _).mono (by simp)
  case inr.inr.inl =>
   have hz : z = 124 := by simp only [List.head?_cons, Option.some.injEq] at hz; have := congrArg UInt8.toNat hz; simp at this; omega
   subst hz
   have ha : arity 14 = 3 := by decide
   clear h2 hz256
   go_enter Try.func68, Try.ntmps68
   go_wp2_with (first
    | (go_at_call 80; refine (hp'.out _ _ (by rw [hq]; simp)).mono ?_; rintro e w1 ⟨m1, A1, c1, hm1, rfl, hf1, hb1⟩; have hm1' := hide hm1; clear hm1; have hZ := (Blk.new_ w 25 #[.int .i64 0, .int .i64 0, .slice none 0 0] rfl).keep hb1; have d0 := hZ.at_ (i := 0) rfl; have d1 := hZ.at_ (i := 1) rfl; have d2 := hZ.at_ (i := 2) rfl; have e0 := hZ.frozen 0; have e1 := hZ.frozen 1; have e2 := hZ.frozen 2; have g1 : Below w.heap.size w w1 := ((Below.refl _ _).alloc (Nat.le_refl _) _).trans (hb1.mono (by simp)))
    | (go_at_call 58; refine (l1Kids_any _ _).mono ?_; rintro e w9 ⟨rfl, rfl⟩))
   refine bodyPost_ret (v := .tuple #[.agg #[.int .i64 14, .int .i64 0, .slice A1 ts.length c1], .int .i64 m1]) (by simp [results, Try.results68, go_sem, d0, d1, d2]) rfl ⟨m1, A1, c1, hm1'.out, rfl, by have := hm'.out; omega, ?_, ((g1.setCell (by simp) _).setCell (by simp) _).setCell (by simp) _⟩
   exact (((hf1.setCell (by simp) _).setCell (by simp) _).setCell (by simp) _).mono (by simp)
  case inr.inr.inr =>
   obtain ⟨hi2, he2⟩ := h2 rfl
   have hz : z = 64 := by simp only [List.head?_cons, Option.some.injEq] at hz; have := congrArg UInt8.toNat hz; simp at this; omega
   subst hz
   have ha : arity 12 = 3 := by decide
   clear h2 hz256
   go_enter Try.func68, Try.ntmps68
   go_wp2_with (first
    | (go_at_call 80; refine (hp'.out _ _ (by rw [hq]; simp)).mono ?_; rintro e w1 ⟨m1, A1, c1, hm1, rfl, hf1, hb1⟩; have hm1' := hide hm1; clear hm1; have hZ := (Blk.new_ w 25 #[.int .i64 0, .int .i64 0, .slice none 0 0] rfl).keep hb1; have d0 := hZ.at_ (i := 0) rfl; have d1 := hZ.at_ (i := 1) rfl; have d2 := hZ.at_ (i := 2) rfl; have e0 := hZ.frozen 0; have e1 := hZ.frozen 1; have e2 := hZ.frozen 2; have g1 : Below w.heap.size w w1 := ((Below.refl _ _).alloc (Nat.le_refl _) _).trans (hb1.mono (by simp)))
    | (go_at_call 58; refine (l1Kids_any _ _).mono ?_; rintro e w9 ⟨rfl, rfl⟩))
   refine bodyPost_ret (v := .tuple #[.agg #[.int .i64 12, .int .i64 0, .slice A1 ts.length c1], .int .i64 m1]) (by simp [results, Try.results68, go_sem, d0, d1, d2]) rfl ⟨m1, A1, c1, hm1'.out, rfl, by have := hm'.out; omega, ?_, ((g1.setCell (by simp) _).setCell (by simp) _).setCell (by simp) _⟩
   exact (((hf1.setCell (by simp) _).setCell (by simp) _).setCell (by simp) _).mono (by simp)
 have hcd : c.toNat < 48 ∨ 57 < c.toNat := by rcases h with ⟨_, _, _, rfl⟩ | ⟨_, _, _, rfl⟩ | ⟨_, _, _, rfl⟩ | ⟨_, _, _, rfl⟩ <;> decide
 have hm4 : ts.length ≤ 4 := by rcases h with ⟨_, rfl, _, _⟩ | ⟨_, rfl, _, _⟩ | ⟨_, rfl, _, _⟩ | ⟨_, rfl, _, _⟩ <;> omega
 obtain ⟨a, ao, hao⟩ : ∃ a ao, o = a :: ao := by rcases h with ⟨_, _, rfl, _⟩ | ⟨_, _, rfl, _⟩ | ⟨_, _, rfl, _⟩ | ⟨_, _, rfl, _⟩ <;> exact ⟨_, _, rfl⟩
 have hh1' := hh1
 rw [hao] at hh1'
 obtain ⟨⟨hi, hc⟩, hh3⟩ := hh1'.cons
 refine enter (i + o.length) _ hi _ rfl ?_ rfl ?_ ?_ (UInt8.toNat_lt _)
 ·intro h2
  rcases h with ⟨_, _, rfl, _⟩ | ⟨_, _, rfl, _⟩ | ⟨_, _, rfl, _⟩ | ⟨_, _, rfl, _⟩ <;> simp at h2
  injection hao with h4 h5
  subst h5
  obtain ⟨⟨hi2, hc2⟩, _⟩ := hh3.cons
  exact ⟨hi2, by rw [hc2]; rfl⟩
 ·rw [hc, hao]; simp
 ·intro w I hI
  have := series_any c hcd ts xs (by omega) hm4 ih s (i + o.length) I (D - 1) w hs hI hh2 (by omega) (by omega)
  rwa [hm] at this
open Go.RowKit
theorem at_byte {s : ByteArray} {i : Nat} {c : UInt8} {bs : List UInt8} (h : Has s i (c :: bs)) {z : Nat} (hz : c.toNat = z) : ∃ hi : i < s.size, (s[i]'hi).toNat = z := by
 obtain ⟨⟨hi, hc⟩, _⟩ := h.cons
 exact ⟨hi, by rw [hc, hz]⟩
theorem ParsedT.cast {w : World} {k n : Int} {ks : List Tm} {j j' : Nat} {e : Ending} {w' : World} (h : ParsedT w k n ks j e w') (hj : j = j') : ParsedT w k n ks j' e w' := hj ▸ h
section
variable (s : ByteArray) (i : Nat) (D : Int) (w : World)
set_option maxHeartbeats 4000000 in
set_option maxRecDepth 100000 in
theorem parse_var (n : Int) (c : UInt8) (h : 0 ≤ n ∧ n ≤ 9 ∧ (c.toNat : Int) = 48 + n) (hs : s.size ≤ 1000000) (hh : Has s i [35, c]) (hn : Nd s (i + 2)) (hD : 1 ≤ D) (hD2 : D ≤ 1000) :
  Calls Try.prog 60 #[.string s, .int .i64 i, .int .i64 D] w (ParsedT w 1 n [] (i + 2)) := by
 obtain ⟨hi, he⟩ := at_byte hh (z := 35) rfl
 obtain ⟨_, hh2⟩ := hh.cons
 obtain ⟨hi2, he2⟩ := at_byte hh2 (z := c.toNat) rfl
 have hnum := hide (fun w => l1Number_one s (i + 1) c.toNat 2 w (.inr rfl) hs hi2 he2 (by omega) (by omega) (fun _ => hn))
 have hcn : Hid ((c.toNat : Int) - 48 = n) := hide (by omega)
 clear hh hh2 he2 hn
 go_enter Try.func60, Try.ntmps60
 go_wp2_with (first
  | (go_at_call 28; refine (sLeaf_any _ _ _).mono ?_; rintro e w1 ⟨rfl, hb1⟩; have hZ := (Blk.new_ w 25 #[.int .i64 0, .int .i64 0, .slice none 0 0] rfl).keep hb1; have d0 := hZ.at_ (i := 0) rfl; have d1 := hZ.at_ (i := 1) rfl; have d2 := hZ.at_ (i := 2) rfl; have e0 := hZ.frozen 0; have e1 := hZ.frozen 1; have e2 := hZ.frozen 2; have g1 : Below w.heap.size w w1 := ((Below.refl _ _).alloc (Nat.le_refl _) _).trans (hb1.mono (by simp)))
  | (go_at_call 65; refine (hnum.out _).mono ?_; rintro e w9 ⟨rfl, rfl⟩; rw [hcn.out]))
 refine bodyPost_ret (v := .tuple #[.agg #[.int .i64 1, .int .i64 n, .slice none 0 0], .int .i64 ((i + 2 : Nat) : Int)]) (by simp [results, Try.results60, go_sem, d0, d1, d2]; omega) rfl ⟨i + 2, none, 0, rfl, rfl, by simp, Fresh.nil, ((g1.setCell (by simp) _).setCell (by simp) _).setCell (by simp) _⟩
set_option maxHeartbeats 4000000 in
set_option maxRecDepth 100000 in
theorem parse_sort (n : Int) (c : UInt8) (h : 0 ≤ n ∧ n ≤ 3 ∧ (c.toNat : Int) = 48 + n) (hs : s.size ≤ 1000000) (hh : Has s i [42, c]) (hn : Nd s (i + 2)) (hD : 1 ≤ D) (hD2 : D ≤ 1000) :
  Calls Try.prog 60 #[.string s, .int .i64 i, .int .i64 D] w (ParsedT w 2 n [] (i + 2)) := by
 obtain ⟨hi, he⟩ := at_byte hh (z := 42) rfl
 obtain ⟨_, hh2⟩ := hh.cons
 obtain ⟨hi2, he2⟩ := at_byte hh2 (z := c.toNat) rfl
 have hnum := hide (fun w => l1Number_one s (i + 1) c.toNat 1 w (.inl rfl) hs hi2 he2 (by omega) (by omega) (fun h => absurd h (by decide)))
 have hcn : Hid ((c.toNat : Int) - 48 = n) := hide (by omega)
 clear hh hh2 he2 hn
 go_enter Try.func60, Try.ntmps60
 go_wp2_with (first
  | (go_at_call 28; refine (sLeaf_any _ _ _).mono ?_; rintro e w1 ⟨rfl, hb1⟩; have hZ := (Blk.new_ w 25 #[.int .i64 0, .int .i64 0, .slice none 0 0] rfl).keep hb1; have d0 := hZ.at_ (i := 0) rfl; have d1 := hZ.at_ (i := 1) rfl; have d2 := hZ.at_ (i := 2) rfl; have e0 := hZ.frozen 0; have e1 := hZ.frozen 1; have e2 := hZ.frozen 2; have g1 : Below w.heap.size w w1 := ((Below.refl _ _).alloc (Nat.le_refl _) _).trans (hb1.mono (by simp)))
  | (go_at_call 65; refine (hnum.out _).mono ?_; rintro e w9 ⟨rfl, rfl⟩; rw [hcn.out]))
 refine bodyPost_ret (v := .tuple #[.agg #[.int .i64 2, .int .i64 n, .slice none 0 0], .int .i64 ((i + 2 : Nat) : Int)]) (by simp [results, Try.results60, go_sem, d0, d1, d2]; omega) rfl ⟨i + 2, none, 0, rfl, rfl, by simp, Fresh.nil, ((g1.setCell (by simp) _).setCell (by simp) _).setCell (by simp) _⟩
set_option maxHeartbeats 4000000 in
set_option maxRecDepth 100000 in
theorem parse_nat (hs : s.size ≤ 1000000) (hh : Has s i [78]) (hD : 1 ≤ D) (hD2 : D ≤ 1000) :
  Calls Try.prog 60 #[.string s, .int .i64 i, .int .i64 D] w (ParsedT w 6 0 [] (i + 1)) := by
 obtain ⟨hi, he⟩ := at_byte hh (z := 78) rfl
 clear hh
 go_enter Try.func60, Try.ntmps60
 go_wp2_with (go_at_call 28; refine (sLeaf_any _ _ _).mono ?_; rintro e w1 ⟨rfl, hb1⟩; have hZ := (Blk.new_ w 25 #[.int .i64 0, .int .i64 0, .slice none 0 0] rfl).keep hb1; have d0 := hZ.at_ (i := 0) rfl; have d1 := hZ.at_ (i := 1) rfl; have d2 := hZ.at_ (i := 2) rfl; have e0 := hZ.frozen 0; have e1 := hZ.frozen 1; have e2 := hZ.frozen 2; have g1 : Below w.heap.size w w1 := ((Below.refl _ _).alloc (Nat.le_refl _) _).trans (hb1.mono (by simp)))
 refine bodyPost_ret (v := .tuple #[.agg #[.int .i64 6, .int .i64 0, .slice none 0 0], .int .i64 ((i + 1 : Nat) : Int)]) (by simp [results, Try.results60, go_sem, d0, d1, d2]) rfl ⟨i + 1, none, 0, rfl, rfl, by simp, Fresh.nil, ((g1.setCell (by simp) _).setCell (by simp) _).setCell (by simp) _⟩
set_option maxHeartbeats 4000000 in
set_option maxRecDepth 100000 in
theorem parse_zero (hs : s.size ≤ 1000000) (hh : Has s i [48]) (hD : 1 ≤ D) (hD2 : D ≤ 1000) :
  Calls Try.prog 60 #[.string s, .int .i64 i, .int .i64 D] w (ParsedT w 7 0 [] (i + 1)) := by
 obtain ⟨hi, he⟩ := at_byte hh (z := 48) rfl
 clear hh
 go_enter Try.func60, Try.ntmps60
 go_wp2_with (go_at_call 28; refine (sLeaf_any _ _ _).mono ?_; rintro e w1 ⟨rfl, hb1⟩; have hZ := (Blk.new_ w 25 #[.int .i64 0, .int .i64 0, .slice none 0 0] rfl).keep hb1; have d0 := hZ.at_ (i := 0) rfl; have d1 := hZ.at_ (i := 1) rfl; have d2 := hZ.at_ (i := 2) rfl; have e0 := hZ.frozen 0; have e1 := hZ.frozen 1; have e2 := hZ.frozen 2; have g1 : Below w.heap.size w w1 := ((Below.refl _ _).alloc (Nat.le_refl _) _).trans (hb1.mono (by simp)))
 refine bodyPost_ret (v := .tuple #[.agg #[.int .i64 7, .int .i64 0, .slice none 0 0], .int .i64 ((i + 1 : Nat) : Int)]) (by simp [results, Try.results60, go_sem, d0, d1, d2]) rfl ⟨i + 1, none, 0, rfl, rfl, by simp, Fresh.nil, ((g1.setCell (by simp) _).setCell (by simp) _).setCell (by simp) _⟩
set_option maxHeartbeats 4000000 in
set_option maxRecDepth 100000 in
theorem parse_pre (z j : Nat) (k : Int) (ks : List Tm) (hz : z = 43 ∨ z = 33 ∨ z = 94 ∨ z = 95) (hs : s.size ≤ 1000000) (hi : i < s.size) (he : (s[i]'hi).toNat = z) (hD : 1 ≤ D) (hD2 : D ≤ 1000) (hl : ks.length ≤ 9223372036854775807)
  (hp : ∀ w (I D' : Int), I = (i : Int) → D' = D → Calls Try.prog 66 #[.string s, .int .i64 I, .int .i64 D'] w (ParsedT w k 0 ks j)) :
  Calls Try.prog 60 #[.string s, .int .i64 i, .int .i64 D] w (ParsedT w k 0 ks j) := by
 have hp' := hide hp
 clear hp
 rcases hz with rfl | rfl | rfl | rfl
 all_goals
  go_enter Try.func60, Try.ntmps60
  go_wp2_with (go_at_call 66; refine (hp'.out _ _ _ (by simp) rfl).mono ?_; rintro e w1 ⟨m1, A1, c1, hm1, rfl, hl1, hf1, hb1⟩; have hm1' := hide hm1; clear hm1; have hZ := (Blk.new_ w 25 #[.int .i64 0, .int .i64 0, .slice none 0 0] rfl).keep hb1; have d0 := hZ.at_ (i := 0) rfl; have d1 := hZ.at_ (i := 1) rfl; have d2 := hZ.at_ (i := 2) rfl; have e0 := hZ.frozen 0; have e1 := hZ.frozen 1; have e2 := hZ.frozen 2; have g1 : Below w.heap.size w w1 := ((Below.refl _ _).alloc (Nat.le_refl _) _).trans (hb1.mono (by simp)))
  refine bodyPost_ret (v := .tuple #[.agg #[.int .i64 k, .int .i64 0, .slice A1 ks.length c1], .int .i64 m1]) (by simp [results, Try.results60, go_sem, d0, d1, d2]) rfl ⟨m1, A1, c1, hm1'.out, rfl, hl1, ?_, ((g1.setCell (by simp) _).setCell (by simp) _).setCell (by simp) _⟩
  exact (((hf1.setCell (by simp) _).setCell (by simp) _).setCell (by simp) _).mono (by simp)
set_option maxHeartbeats 4000000 in
set_option maxRecDepth 100000 in
theorem parse_rnd (z j : Nat) (k : Int) (ks : List Tm) (hz : z = 40 ∨ z = 40) (hs : s.size ≤ 1000000) (hi : i < s.size) (he : (s[i]'hi).toNat = z) (hD : 1 ≤ D) (hD2 : D ≤ 1000) (hl : ks.length ≤ 9223372036854775807)
  (hp : ∀ w (I D' : Int), I = (i + 1 : Nat) → D' = D - 1 → Calls Try.prog 67 #[.string s, .int .i64 I, .int .i64 D'] w (ParsedT w k 0 ks j)) :
  Calls Try.prog 60 #[.string s, .int .i64 i, .int .i64 D] w (ParsedT w k 0 ks j) := by
 have hp' := hide hp
 clear hp
 rcases hz with rfl | rfl
 all_goals
  go_enter Try.func60, Try.ntmps60
  go_wp2_with (go_at_call 67; refine (hp'.out _ _ _ (by simp) rfl).mono ?_; rintro e w1 ⟨m1, A1, c1, hm1, rfl, hl1, hf1, hb1⟩; have hm1' := hide hm1; clear hm1; have hZ := (Blk.new_ w 25 #[.int .i64 0, .int .i64 0, .slice none 0 0] rfl).keep hb1; have d0 := hZ.at_ (i := 0) rfl; have d1 := hZ.at_ (i := 1) rfl; have d2 := hZ.at_ (i := 2) rfl; have e0 := hZ.frozen 0; have e1 := hZ.frozen 1; have e2 := hZ.frozen 2; have g1 : Below w.heap.size w w1 := ((Below.refl _ _).alloc (Nat.le_refl _) _).trans (hb1.mono (by simp)))
  refine bodyPost_ret (v := .tuple #[.agg #[.int .i64 k, .int .i64 0, .slice A1 ks.length c1], .int .i64 m1]) (by simp [results, Try.results60, go_sem, d0, d1, d2]) rfl ⟨m1, A1, c1, hm1'.out, rfl, hl1, ?_, ((g1.setCell (by simp) _).setCell (by simp) _).setCell (by simp) _⟩
  exact (((hf1.setCell (by simp) _).setCell (by simp) _).setCell (by simp) _).mono (by simp)
set_option maxHeartbeats 4000000 in
set_option maxRecDepth 100000 in
theorem parse_blk (z j : Nat) (k : Int) (ks : List Tm) (hz : z = 60 ∨ z = 123 ∨ z = 124 ∨ z = 64) (hs : s.size ≤ 1000000) (hi : i < s.size) (he : (s[i]'hi).toNat = z) (hD : 1 ≤ D) (hD2 : D ≤ 1000) (hl : ks.length ≤ 9223372036854775807)
  (hp : ∀ w (I D' : Int), I = (i : Int) → D' = D → Calls Try.prog 68 #[.string s, .int .i64 I, .int .i64 D'] w (ParsedT w k 0 ks j)) :
  Calls Try.prog 60 #[.string s, .int .i64 i, .int .i64 D] w (ParsedT w k 0 ks j) := by
 have hp' := hide hp
 clear hp
 rcases hz with rfl | rfl | rfl | rfl
 all_goals
  go_enter Try.func60, Try.ntmps60
  go_wp2_with (go_at_call 68; refine (hp'.out _ _ _ (by simp) rfl).mono ?_; rintro e w1 ⟨m1, A1, c1, hm1, rfl, hl1, hf1, hb1⟩; have hm1' := hide hm1; clear hm1; have hZ := (Blk.new_ w 25 #[.int .i64 0, .int .i64 0, .slice none 0 0] rfl).keep hb1; have d0 := hZ.at_ (i := 0) rfl; have d1 := hZ.at_ (i := 1) rfl; have d2 := hZ.at_ (i := 2) rfl; have e0 := hZ.frozen 0; have e1 := hZ.frozen 1; have e2 := hZ.frozen 2; have g1 : Below w.heap.size w w1 := ((Below.refl _ _).alloc (Nat.le_refl _) _).trans (hb1.mono (by simp)))
  refine bodyPost_ret (v := .tuple #[.agg #[.int .i64 k, .int .i64 0, .slice A1 ks.length c1], .int .i64 m1]) (by simp [results, Try.results60, go_sem, d0, d1, d2]) rfl ⟨m1, A1, c1, hm1'.out, rfl, hl1, ?_, ((g1.setCell (by simp) _).setCell (by simp) _).setCell (by simp) _⟩
  exact (((hf1.setCell (by simp) _).setCell (by simp) _).setCell (by simp) _).mono (by simp)
set_option maxHeartbeats 4000000 in
set_option maxRecDepth 100000 in
theorem parse_lam (j1 j2 : Nat) (k1 n1 : Int) (ks1 : List Tm) (k2 n2 : Int) (ks2 : List Tm) (hs : s.size ≤ 1000000) (hi : i < s.size) (he : (s[i]'hi).toNat = 91) (hi1 : j1 < s.size) (he1 : (s[j1]'hi1).toNat = 93) (hD : 1 ≤ D) (hD2 : D ≤ 1000)
  (hp1 : ∀ w (I D' : Int), I = (i + 1 : Nat) → D' = D - 1 → Calls Try.prog 60 #[.string s, .int .i64 I, .int .i64 D'] w (ParsedT w k1 n1 ks1 j1)) (hp2 : ∀ w (I D' : Int), I = (j1 + 1 : Nat) → D' = D - 1 → Calls Try.prog 60 #[.string s, .int .i64 I, .int .i64 D'] w (ParsedT w k2 n2 ks2 j2)) :
  Calls Try.prog 60 #[.string s, .int .i64 i, .int .i64 D] w (ParsedT w 4 0 [.mk k1 n1 ks1, .mk k2 n2 ks2] j2) := by
 have hpar1 := hide hp1
 have hpar2 := hide hp2
 clear hp1 hp2
 go_enter Try.func60, Try.ntmps60
 go_wp2_with (first
  | (go_at_call 46; refine (l1Node_any (B := w.heap.size + 1) (us := [.mk k1 n1 ks1, .mk k2 n2 ks2]) _ (by simp; omega) ((hO2.alloc _).alloc _) hnd hge (by simp) _ 2 (Blk.new_ _ 25 _ (by simp))).mono ?_; rintro e w4 ⟨A4, c4, rfl, hf4, hb4⟩; replace hZ := ((hZ.alloc _).alloc _).keep hb4; have d0 := hZ.at_ (i := 0) rfl; have d1 := hZ.at_ (i := 1) rfl; have d2 := hZ.at_ (i := 2) rfl; have e0 := hZ.frozen 0; have e1 := hZ.frozen 1; have e2 := hZ.frozen 2; have g4 : Below w.heap.size w w4 := ((g3.alloc (by omega) _).alloc (by simp; omega) _).trans (hb4.mono (by simp; omega)))
  | (go_at_call 60; have _t := tok; refine (hpar2.out _ _ _ (by simp) rfl).mono ?_; rintro e w3 ⟨m2, A2, c2, hm2, rfl, hl2, hf2, hb2⟩; subst hm2; clear tok; obtain ⟨fp, hO2, hnd, hge⟩ := (hf1.alloc _).node2 hb2 hf2 (by simp; omega) hl1 hl2 k1 n1 k2 n2 c1 c2; replace hZ := (hZ.alloc _).keep hb2; have hX1 := (Blk.new_ w1 25 #[.int .i64 k1, .int .i64 n1, .slice A1 ks1.length c1] rfl).keep hb2; have x0 := hX1.at_ (i := 0) rfl; have x1 := hX1.at_ (i := 1) rfl; have x2 := hX1.at_ (i := 2) rfl; have lx := hX1.lt; have lz := hZ.lt; have g3 : Below w.heap.size w w3 := (g1.alloc (by omega) _).trans (hb2.mono (by simp; omega)); have s3 := g3.size; have s13 : w1.heap.size + 1 ≤ w3.heap.size := (by have := hb2.size; simpa using this))
  | (go_at_call 60; refine (hpar1.out _ _ _ (by simp) rfl).mono ?_; rintro e w1 ⟨m, A1, c1, hm, rfl, hl1, hf1, hb1⟩; subst hm; have tok : True := trivial; replace hf1 := hf1.mono (B' := w.heap.size + 1) (by simp); have hZ := (Blk.new_ w 25 #[.int .i64 0, .int .i64 0, .slice none 0 0] rfl).keep hb1; have g1 : Below w.heap.size w w1 := ((Below.refl _ _).alloc (Nat.le_refl _) _).trans (hb1.mono (by simp)); have s1 := g1.size; have s1' := hZ.lt))
 refine bodyPost_ret (v := _) ?_ rfl ⟨m2, A4, c4, rfl, rfl, by simp, ?_, ((g4.setCell (by simp) _).setCell (by simp) _).setCell (by simp) _⟩
 ·simp [results, Try.results60, go_sem, d0, d1, d2]
 ·exact (((hf4.setCell (by simp) _).setCell (by simp) _).setCell (by simp) _).mono (by omega)
end
theorem parse_any {d : Nat} {t : Tm} {b : List UInt8} (h : Tx d t b) : ∀ (k n : Int) (ks : List Tm), t = .mk k n ks → ParseOk k n ks b d := by
 induction h with
 | var d n c h => rintro k' n' ks' ⟨⟩ s i I D w hs rfl hh hn hD hD2; exact parse_var s i D w n c h hs hh hn (by omega) hD2
 | sort d n c h => rintro k' n' ks' ⟨⟩ s i I D w hs rfl hh hn hD hD2; exact parse_sort s i D w n c h hs hh hn (by omega) hD2
 | nat d => rintro k' n' ks' ⟨⟩ s i I D w hs rfl hh hn hD hD2; exact parse_nat s i D w hs hh (by omega) hD2
 | zero d => rintro k' n' ks' ⟨⟩ s i I D w hs rfl hh hn hD hD2; exact parse_zero s i D w hs hh (by omega) hD2
 | pre d k c t b h ht ih =>
  rintro k' n' ks' ⟨⟩ s i I D w hs rfl hh hn hD hD2
  obtain ⟨k1, n1, ks1⟩ := t
  obtain ⟨hi, he⟩ := at_byte hh (z := c.toNat) rfl
  have hz : c.toNat = 43 ∨ c.toNat = 33 ∨ c.toNat = 94 ∨ c.toNat = 95 := by rcases h with ⟨_, rfl⟩ | ⟨_, rfl⟩ | ⟨_, rfl⟩ | ⟨_, rfl⟩ <;> decide
  rw [List.length_cons] at hn ⊢
  exact parse_pre s i D w _ _ k _ hz hs hi he (by omega) hD2 (by simp) fun w I D' hI hD' => by
   subst hD'
   have := prefix_any h (ih k1 n1 ks1 rfl) s i I D' w hs hI hh (by rw [show i + 1 + b.length = i + (b.length + 1) by omega]; exact hn) (by omega) hD2
   rwa [show i + 1 + b.length = i + (b.length + 1) by omega] at this
 | rnd d k c t u x y h ht hu i1 i2 =>
  rintro k' n' ks' ⟨⟩ s i I D w hs rfl hh hn hD hD2
  obtain ⟨k1, n1, ks1⟩ := t
  obtain ⟨k2, n2, ks2⟩ := u
  obtain ⟨hi, he⟩ := at_byte hh (z := 40) rfl
  obtain ⟨_, hh2⟩ := hh.cons
  exact parse_rnd s i D w _ _ k _ (.inl rfl) hs hi he (by omega) hD2 (by simp) fun w I D' hI hD' => by
   subst hD'
   have := round_any h (i1 k1 n1 ks1 rfl) (i2 k2 n2 ks2 rfl) s (i + 1) I (D - 1) w hs hI hh2 (by omega) (by omega)
   have e : i + 1 + x.length + 1 + y.length + 1 = i + (40 :: (x ++ c :: (y ++ [41]))).length := by simp; omega
   rwa [e] at this
 | lam d t u x y ht hu i1 i2 =>
  rintro k' n' ks' ⟨⟩ s i I D w hs rfl hh hn hD hD2
  obtain ⟨k1, n1, ks1⟩ := t
  obtain ⟨k2, n2, ks2⟩ := u
  obtain ⟨hi, he⟩ := at_byte hh (z := 91) rfl
  obtain ⟨_, hh2⟩ := hh.cons
  obtain ⟨hh3, hh4⟩ := hh2.app
  obtain ⟨hi1, he1⟩ := at_byte hh4 (z := 93) rfl
  obtain ⟨_, hh5⟩ := hh4.cons
  have e : i + (91 :: (x ++ 93 :: y)).length = i + 1 + x.length + 1 + y.length := by simp; omega
  rw [e] at hn ⊢
  exact parse_lam s i D w (i + 1 + x.length) _ k1 n1 ks1 k2 n2 ks2 hs hi he hi1 he1 (by omega) hD2
   (fun w I D' hI hD' => i1 k1 n1 ks1 rfl s (i + 1) I D' w hs hI hh3 (.of hh4 (by decide)) (by omega) (by omega))
   (fun w I D' hI hD' => i2 k2 n2 ks2 rfl s (i + 1 + x.length + 1) I D' w hs hI hh5 hn (by omega) (by omega))
 | blk d k m o c ts xs h hm hx ht ih =>
  rintro k' n' ks' ⟨⟩ s i I D w hs rfl hh hn hD hD2
  obtain ⟨a, ao, hao, hz⟩ : ∃ a ao, o = a :: ao ∧ (a.toNat = 60 ∨ a.toNat = 123 ∨ a.toNat = 124 ∨ a.toNat = 64) := by rcases h with ⟨_, _, rfl, _⟩ | ⟨_, _, rfl, _⟩ | ⟨_, _, rfl, _⟩ | ⟨_, _, rfl, _⟩ <;> exact ⟨_, _, rfl, by decide⟩
  have hh1 := hh
  rw [hao] at hh1
  obtain ⟨hi, he⟩ := at_byte hh1 (z := a.toNat) rfl
  have hm4 : ts.length ≤ 4 := by rcases h with ⟨_, rfl, _, _⟩ | ⟨_, rfl, _, _⟩ | ⟨_, rfl, _, _⟩ | ⟨_, rfl, _, _⟩ <;> omega
  exact parse_blk s i D w _ _ k _ hz hs hi he (by omega) hD2 (by omega) fun w I D' hI hD' => by
   subst hD'
   exact block_any h ts xs hm hx (fun j k n ks x h1 h2 => ih j (.mk k n ks) x h1 h2 k n ks rfl) s i I D' w hs hI hh (by omega) hD2
open Go.RowKit
def byt (l : List UInt8) : ByteArray := ⟨l.toArray⟩
theorem ret_str {a b : ByteArray} (h : a.data.toList = b.data.toList) : Ending.returned (.string a) = .returned (.string b) := by
 rw [ByteArray.ext (Array.ext' h)]
theorem add_str (a b : List UInt8) (h : a.length + b.length ≤ 1000000) (w : World) : (Op.stringOp .add (byt a) (byt b)).run Try.prog w = .ok (.string (byt (a ++ b))) w := by
 rw [run_string_add_sum w _ _ (by simp [byt, ByteArray.size]; omega)]
 unfold byt
 rw [ByteArray.mk_append_mk]
set_option maxHeartbeats 2000000 in
set_option maxRecDepth 100000 in
theorem dec_any (n : Int) (c : UInt8) (h : 0 ≤ n ∧ n ≤ 9 ∧ (c.toNat : Int) = 48 + n) (w : World) : Calls Try.prog 81 #[.int .i64 n] w fun e w' => e = .returned (.string (byt [c])) ∧ Below w.heap.size w w' := by
 have hcv := hide (run_convert_bytes_back (P := Try.prog) (w.alloc (.cells #[.int .u8 (48 + n)] 5)) 22 9 5 ⟨w.heap.size, 0, none⟩ 1 [c] Try.underlying22 Try.underlying5 Try.underlying9 (fun j hj => by
  have : j = 0 := by simpa using hj
  subst this
  simp [Addr.add, h.2.2]))
 have hcv2 : (convert 22 9 (.slice (some ⟨w.heap.size, 0, none⟩) 1 1)).run Try.prog (w.alloc (.cells #[.int .u8 (48 + n)] 5)) = .ok (.string (byt [c])) (w.alloc (.cells #[.int .u8 (48 + n)] 5)) := hcv.out
 have hu8 : IntKind.u8.wrap (48 + n) = 48 + n := IntWalk.u8_in _ (by omega)
 have hd1 : decide (n < -9223372036854775807) = false := decide_eq_false (by omega)
 have hd2 : decide (n < 0) = false := decide_eq_false (by omega)
 have hd3 : decide (9 < n) = false := decide_eq_false (by omega)
 obtain ⟨h1, h2, h3⟩ := h
 have h3' := hide h3
 clear hcv h3
 go_enter Try.func81, Try.ntmps81
 go_wp2
 go_loop [0, 3] (fun a v => a = .int .i64 n ∧ v = .string (byt [])) (fun _ _ => 0)
 case atStart => exact ⟨rfl, rfl⟩
 case round =>
  obtain ⟨rfl, rfl⟩ := hrel
  have hadd := fun w => add_str [c] [] (by simp) w
  go_wp2
  go_ret
  exact ⟨rfl, (Below.refl _ _).alloc (Nat.le_refl _) _⟩
def TextOk (k n : Int) (ks : List Tm) (b : List UInt8) : Prop := ∀ (A : Option Addr) (c : Nat) (w : World), b.length ≤ 100000 → Rd w A 0 ks →
 Calls Try.prog 69 #[.agg #[.int .i64 k, .int .i64 n, .slice A ks.length c]] w fun e w' => e = .returned (.string (byt b)) ∧ Below w.heap.size w w'
set_option maxHeartbeats 4000000 in
set_option maxRecDepth 100000 in
theorem text_var (n : Int) (c : UInt8) (h : 0 ≤ n ∧ n ≤ 9 ∧ (c.toNat : Int) = 48 + n) : TextOk 1 n [] [35, c] := by
 intro A cc w _ _
 have hsz : (byt [c]).size ≤ 1000 := by simp [byt, ByteArray.size]
 have h9 : 0 ≤ n ∧ n ≤ 9 ∧ (c.toNat : Int) = 48 + n := ⟨h.1, by omega, h.2.2⟩
 clear h
 go_enter Try.func69, Try.ntmps69
 go_wp2_with (go_at_call 81; refine (dec_any n c h9 _).mono ?_; rintro e w1 ⟨rfl, hb1⟩)
 go_ret
 exact ⟨ret_str (by simp [byt]), ((Below.refl _ _).alloc (Nat.le_refl _) _).trans (hb1.mono (by simp))⟩
set_option maxHeartbeats 4000000 in
set_option maxRecDepth 100000 in
theorem text_sort (n : Int) (c : UInt8) (h : 0 ≤ n ∧ n ≤ 3 ∧ (c.toNat : Int) = 48 + n) : TextOk 2 n [] [42, c] := by
 intro A cc w _ _
 have hsz : (byt [c]).size ≤ 1000 := by simp [byt, ByteArray.size]
 have h9 : 0 ≤ n ∧ n ≤ 9 ∧ (c.toNat : Int) = 48 + n := ⟨h.1, by omega, h.2.2⟩
 clear h
 go_enter Try.func69, Try.ntmps69
 go_wp2_with (go_at_call 81; refine (dec_any n c h9 _).mono ?_; rintro e w1 ⟨rfl, hb1⟩)
 go_ret
 exact ⟨ret_str (by simp [byt]), ((Below.refl _ _).alloc (Nat.le_refl _) _).trans (hb1.mono (by simp))⟩
set_option maxHeartbeats 4000000 in
set_option maxRecDepth 100000 in
theorem text_nat : TextOk 6 0 [] [78] := by
 intro A cc w _ _
 go_enter Try.func69, Try.ntmps69
 go_wp2
 go_ret
 exact ⟨ret_str (by simp [byt]), (Below.refl _ _).alloc (Nat.le_refl _) _⟩
set_option maxHeartbeats 4000000 in
set_option maxRecDepth 100000 in
theorem text_zero : TextOk 7 0 [] [48] := by
 intro A cc w _ _
 go_enter Try.func69, Try.ntmps69
 go_wp2
 go_ret
 exact ⟨ret_str (by simp [byt]), (Below.refl _ _).alloc (Nat.le_refl _) _⟩
set_option maxHeartbeats 4000000 in
set_option maxRecDepth 100000 in
theorem text_pre {k : Int} {c : UInt8} {k1 n1 : Int} {ks1 : List Tm} {b : List UInt8} (h : PreK k c) (ih : TextOk k1 n1 ks1 b) : TextOk k 0 [.mk k1 n1 ks1] (c :: b) := by
 intro A cc w hl hr
 obtain ⟨bb, off, k', n', ks', A', c', rfl, hk, hc1, hc2, hc3, hl', hr'⟩ := hr.at_ (j := 0) (by simp)
 injection hk with h1 h2 h3
 subst h1 h2 h3
 simp only [Nat.zero_mul, Nat.add_zero] at hc1 hc2 hc3
 have hb : b.length ≤ 100000 := by simp at hl; omega
 have hsz : (byt b).size ≤ 100000 := by simpa [byt, ByteArray.size] using hb
 have ih' := hide ih
 have bl : bb < w.heap.size := World.block_lt_of_cell? w _ hc1
 clear ih hr
 rcases h with ⟨rfl, rfl⟩ | ⟨rfl, rfl⟩ | ⟨rfl, rfl⟩ | ⟨rfl, rfl⟩
 all_goals
  go_enter Try.func69, Try.ntmps69
  go_wp2_with (go_at_call 69; refine (ih'.out A' c' _ hb (hr'.alloc _)).mono ?_; rintro e w1 ⟨rfl, hb1⟩)
  go_ret
  exact ⟨ret_str (by simp [byt]), ((Below.refl _ _).alloc (Nat.le_refl _) _).trans (hb1.mono (by simp))⟩
end Go.Proofs.Ytddkehjdjfmhmaa
