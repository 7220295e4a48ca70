/-
  Contracts of the functions that the law reaches, and plain lemmas. No condition.
-/
import Derived.Test.YtodkenpmhhbppaaK4
import Derived.Test.YtodkenpmhhbppaaK5
import Derived.Test.YtodkenpmhhbppaaK6
import Derived.Test.YtodkenpmhhbppaaK7
import Derived.Test.YtodkenpmhhbppaaK8
import Derived.IntWalk
import Derived.Laws.BitsAllLaws
import Derived.Laws.BitsLemmas
import Derived.WalkSpells
import Derived.WalkLawsBesides
namespace Go.Proofs.Ytodkenpmhhbppaa
set_option linter.unusedSimpArgs false
set_option linter.unusedVariables false
open Go.RowKit
theorem Tx.cast {d : Nat} {t : Tm} {b b' : List UInt8} (h : Tx d t b) (e : b = b') : Tx d t b' := e ▸ h
/-- each text is its term's -/
def GoodL : List Tm → List (List UInt8) → Prop
  | [], [] => True
  | t :: ts, x :: xs => Good t x ∧ GoodL ts xs
  | _, _ => False
theorem GoodL.at_ : ∀ {ts : List Tm} {xs : List (List UInt8)}, GoodL ts xs → ∀ (j : Nat) (t : Tm) (x : List UInt8), ts[j]? = some t → xs[j]? = some x → Good t x
  | [], _, _, j, t, x, h1, _ => by simp at h1
  | _ :: _, [], h, _, _, _, _, _ => h.elim
  | a :: ts, b :: xs, h, 0, t, x, h1, h2 => by
    simp only [List.getElem?_cons_zero, Option.some.injEq] at h1 h2
    subst h1 h2; exact h.1
  | a :: ts, b :: xs, h, j + 1, t, x, h1, h2 => by
    simp only [List.getElem?_cons_succ] at h1 h2
    exact h.2.at_ j t x h1 h2
/-- the terms pats -/
def pats : List Tm := [(.mk 5 0 [(.mk 1 0 []), (.mk 1 1 [])]), (.mk 8 0 [(.mk 1 0 [])]), (.mk 10 0 [(.mk 6 0 []), (.mk 1 0 []), (.mk 1 0 [])]), (.mk 4 0 [(.mk 6 0 []), (.mk 5 0 [(.mk 1 1 []), (.mk 1 0 [])])]), (.mk 3 0 [(.mk 1 0 []), (.mk 1 2 [])]), (.mk 4 0 [(.mk 6 0 []), (.mk 8 0 [(.mk 1 0 [])])]), (.mk 1 0 []), (.mk 5 0 [(.mk 1 2 []), (.mk 1 0 [])]), (.mk 9 0 [(.mk 4 0 [(.mk 6 0 []), (.mk 6 0 [])]), (.mk 1 1 []), (.mk 1 2 []), (.mk 7 0 [])]), (.mk 14 0 [(.mk 13 0 [(.mk 6 0 []), (.mk 6 0 [])]), (.mk 1 0 []), (.mk 1 1 [])])]
def patsX : List (List UInt8) := [[40, 35, 48, 32, 35, 49, 41], [43, 35, 48], [123, 78, 44, 35, 48, 44, 35, 48, 125], [91, 78, 93, 40, 35, 49, 32, 35, 48, 41], [40, 35, 48, 62, 35, 50, 41], [91, 78, 93, 43, 35, 48], [35, 48], [40, 35, 50, 32, 35, 48, 41], [60, 91, 78, 93, 78, 44, 35, 49, 44, 35, 50, 44, 48, 62], [124, 40, 78, 42, 78, 41, 44, 35, 48, 44, 35, 49, 124]]
theorem pats_0 : Good (.mk 5 0 [(.mk 1 0 []), (.mk 1 1 [])]) [40, 35, 48, 32, 35, 49, 41] := ⟨Tx.cast (.rnd 29 5 32 _ _ _ _ (.inr (.inr ⟨rfl, rfl⟩)) (.var 28 0 48 (by decide)) (.var 28 1 49 (by decide))) (by simp [ser]), by decide +kernel, by decide⟩
theorem pats_1 : Good (.mk 8 0 [(.mk 1 0 [])]) [43, 35, 48] := ⟨Tx.cast (.pre 29 8 43 _ _ (.inl ⟨rfl, rfl⟩) (.var 28 0 48 (by decide))) (by simp [ser]), by decide +kernel, by decide⟩
theorem pats_2 : Good (.mk 10 0 [(.mk 6 0 []), (.mk 1 0 []), (.mk 1 0 [])]) [123, 78, 44, 35, 48, 44, 35, 48, 125] := ⟨Tx.cast (tx3 (.inr (.inl ⟨rfl, rfl, rfl, rfl⟩)) (.nat 28) (.var 28 0 48 (by decide)) (.var 28 0 48 (by decide))) (by simp [ser]), by decide +kernel, by decide⟩
theorem pats_3 : Good (.mk 4 0 [(.mk 6 0 []), (.mk 5 0 [(.mk 1 1 []), (.mk 1 0 [])])]) [91, 78, 93, 40, 35, 49, 32, 35, 48, 41] := ⟨Tx.cast (.lam 29 _ _ _ _ (.nat 28) (.rnd 28 5 32 _ _ _ _ (.inr (.inr ⟨rfl, rfl⟩)) (.var 27 1 49 (by decide)) (.var 27 0 48 (by decide)))) (by simp [ser]), by decide +kernel, by decide⟩
theorem pats_4 : Good (.mk 3 0 [(.mk 1 0 []), (.mk 1 2 [])]) [40, 35, 48, 62, 35, 50, 41] := ⟨Tx.cast (.rnd 29 3 62 _ _ _ _ (.inl ⟨rfl, rfl⟩) (.var 28 0 48 (by decide)) (.var 28 2 50 (by decide))) (by simp [ser]), by decide +kernel, by decide⟩
theorem pats_5 : Good (.mk 4 0 [(.mk 6 0 []), (.mk 8 0 [(.mk 1 0 [])])]) [91, 78, 93, 43, 35, 48] := ⟨Tx.cast (.lam 29 _ _ _ _ (.nat 28) (.pre 28 8 43 _ _ (.inl ⟨rfl, rfl⟩) (.var 27 0 48 (by decide)))) (by simp [ser]), by decide +kernel, by decide⟩
theorem pats_6 : Good (.mk 1 0 []) [35, 48] := ⟨Tx.cast (.var 29 0 48 (by decide)) (by simp [ser]), by decide +kernel, by decide⟩
theorem pats_7 : Good (.mk 5 0 [(.mk 1 2 []), (.mk 1 0 [])]) [40, 35, 50, 32, 35, 48, 41] := ⟨Tx.cast (.rnd 29 5 32 _ _ _ _ (.inr (.inr ⟨rfl, rfl⟩)) (.var 28 2 50 (by decide)) (.var 28 0 48 (by decide))) (by simp [ser]), by decide +kernel, by decide⟩
theorem pats_8 : Good (.mk 9 0 [(.mk 4 0 [(.mk 6 0 []), (.mk 6 0 [])]), (.mk 1 1 []), (.mk 1 2 []), (.mk 7 0 [])]) [60, 91, 78, 93, 78, 44, 35, 49, 44, 35, 50, 44, 48, 62] := ⟨Tx.cast (tx4 (.inl ⟨rfl, rfl, rfl, rfl⟩) (.lam 28 _ _ _ _ (.nat 27) (.nat 27)) (.var 28 1 49 (by decide)) (.var 28 2 50 (by decide)) (.zero 28)) (by simp [ser]), by decide +kernel, by decide⟩
theorem pats_9 : Good (.mk 14 0 [(.mk 13 0 [(.mk 6 0 []), (.mk 6 0 [])]), (.mk 1 0 []), (.mk 1 1 [])]) [124, 40, 78, 42, 78, 41, 44, 35, 48, 44, 35, 49, 124] := ⟨Tx.cast (tx3 (.inr (.inr (.inl ⟨rfl, rfl, rfl, rfl⟩))) (.rnd 28 13 42 _ _ _ _ (.inr (.inl ⟨rfl, rfl⟩)) (.nat 27) (.nat 27)) (.var 28 0 48 (by decide)) (.var 28 1 49 (by decide))) (by simp [ser]), by decide +kernel, by decide⟩
theorem pats_good : GoodL pats patsX := ⟨pats_0, pats_1, pats_2, pats_3, pats_4, pats_5, pats_6, pats_7, pats_8, pats_9, trivial⟩
open Go.RowKit
/-- the reader at block r: its bytes lie elsewhere, all below B; so many numbers have been asked for -/
def Rdr (B : Nat) (w : World) (r p : Nat) : Prop :=
  ∃ (A : Option Addr) (bs : List Int) (c : Nat), Blk w r #[.slice A bs.length c, .int .i64 p] ∧ bs.length ≤ 2000 ∧ r < B ∧
    ∀ j (hj : j < bs.length), ∃ b off, A = some ⟨b, off, none⟩ ∧ w.cell? ⟨b, off + j, none⟩ = some (.int .u8 bs[j]) ∧ 0 ≤ bs[j] ∧ bs[j] ≤ 255 ∧ b ≠ r ∧ b < B
theorem Rdr.keep {B r p : Nat} {w w' : World} (h : Rdr B w r p) (hk : ∀ b, b < B → w'.heap[b]? = w.heap[b]?) : Rdr B w' r p := by
  obtain ⟨A, bs, c, ⟨t, h1⟩, h2, h3, h4⟩ := h
  refine ⟨A, bs, c, ⟨t, (hk r h3).trans h1⟩, h2, h3, fun j hj => ?_⟩
  obtain ⟨b, off, e, h5, h6, h7, h8, h9⟩ := h4 j hj
  exact ⟨b, off, e, (World.cell?_of_block (w := w) (a := ⟨b, off + j, none⟩) (hk b h9)).trans h5, h6, h7, h8, h9⟩
theorem Rdr.below {B B' r p : Nat} {w w' : World} (h : Rdr B w r p) (hb : Below B' w w') (hB : B ≤ B') : Rdr B w' r p := h.keep fun b hl => hb.block b (by omega)
theorem Rdr.alloc {B r p : Nat} {w : World} (h : Rdr B w r p) (hB : B ≤ w.heap.size) (o : Obj) : Rdr B (w.alloc o) r p := h.keep fun b hl => Below.heap_alloc w o b (by omega)
theorem Rdr.drew {B r p : Nat} {w : World} (h : Rdr B w r p) : Rdr B w.drew r p := h
theorem Rdr.setCell {B r p : Nat} {w : World} (h : Rdr B w r p) {a : Addr} (ha : B ≤ a.block) (u : Value) : Rdr B (w.setCell a u) r p := h.keep fun b hl => Below.heap_setCell w a u b (by omega)
theorem Rdr.step {B r p : Nat} {w : World} (h : Rdr B w r p) (q : Nat) : Rdr B (w.setCell ⟨r, 1, none⟩ (.int .i64 q)) r q := by
  obtain ⟨A, bs, c, h1, h2, h3, h4⟩ := h
  refine ⟨A, bs, c, h1.set_ 1 _, h2, h3, fun j hj => ?_⟩
  obtain ⟨b, off, e, h5, h6, h7, h8, h9⟩ := h4 j hj
  exact ⟨b, off, e, (World.cell?_of_block (w := w) (a := ⟨b, off + j, none⟩) (Below.heap_setCell w _ _ b h8)).trans h5, h6, h7, h8, h9⟩
/-- what asking for a number below n gives -/
def Picked (B : Nat) (w : World) (r p : Nat) (n : Int) (e : Ending) (w' : World) : Prop :=
  ∃ m : Nat, e = .returned (.int .i64 m) ∧ (1 ≤ n → (m : Int) < n) ∧ (n < 1 → m = 0) ∧ Rdr B w' r (p + 1) ∧ w.grownBy w' (some r)
theorem ofInt_i64 (a : Nat) (ha : a < 9223372036854775808) : (BitVec.ofInt 64 (a : Int)).toNat = a := by
  rw [BitVec.ofInt_natCast, BitVec.toNat_ofNat]; exact Nat.mod_eq_of_lt (by omega)
theorem i64_xor_nat (a b : Nat) (ha : a < 9223372036854775808) (hb : b < 9223372036854775808) : bits .xor .i64 (a : Int) (b : Int) = ((a ^^^ b : Nat) : Int) := by
  have hx : a ^^^ b < 2 ^ 63 := Nat.xor_lt_two_pow (by omega) (by omega)
  show IntKind.i64.wrap ((BitVec.ofInt 64 (a : Int) ^^^ BitVec.ofInt 64 (b : Int)).toNat : Int) = _
  rw [BitVec.toNat_xor, ofInt_i64 a ha, ofInt_i64 b hb, IntKind.wrap_i64]
  omega
theorem mix_sum (x1 x2 : Int) (p dv : Nat) (h1 : 0 ≤ x1) (h2 : x1 ≤ 255) (h3 : 0 ≤ x2) (h4 : x2 ≤ 255) (h5 : p ≤ 1000000000) (h6 : dv ≤ p) :
    wrap64 (x1 * 131 + x2 * 1117 + (p : Int) * 29 + wrap64 (wrap64 (dv : Int) * 53)) = x1 * 131 + x2 * 1117 + (p : Int) * 29 + (dv : Int) * 53 ∧ 0 ≤ x1 * 131 + x2 * 1117 + (p : Int) * 29 + (dv : Int) * 53 ∧ x1 * 131 + x2 * 1117 + (p : Int) * 29 + (dv : Int) * 53 ≤ ((200000000000 : Nat) : Int) := by
  have e1 : wrap64 (dv : Int) = dv := IntWalk.wrap64_in _ ⟨by omega, by omega⟩
  have e2 : wrap64 ((dv : Int) * 53) = (dv : Int) * 53 := IntWalk.wrap64_in _ ⟨by omega, by omega⟩
  rw [e1, e2]
  exact ⟨IntWalk.wrap64_in _ ⟨by omega, by omega⟩, by omega, by omega⟩
theorem div_wrap (m : Nat) (h : m ≤ 200000000000) : wrap64 ((m : Int) / 64) = (m : Int) / 64 := IntWalk.wrap64_in _ ⟨by omega, by omega⟩
set_option maxHeartbeats 4000000 in
set_option maxRecDepth 100000 in
theorem pick_any (B r p : Nat) (n : Int) (w : World) (hp : p ≤ 1000000000) (hn : n ≤ 1000000000) (hB : B ≤ w.heap.size) (hr : Rdr B w r p) :
    Calls Try.prog 52 #[.pointer (some ⟨r, 0, none⟩), .int .i64 n] w (Picked B w r p n) := by
  have hst := hr.step (p + 1)
  obtain ⟨A, bs, c, h1, h2, h3, h4⟩ := hr
  have b0 := h1.at_ (i := 0) rfl
  have b1 := h1.at_ (i := 1) rfl
  have e1 := h1.frozen 1
  have b2 := (h1.set_ 1 (.int .i64 (p + 1 : Nat))).at_ (i := 0) rfl
  have b3 := (h1.set_ 1 (.int .i64 (p + 1 : Nat))).at_ (i := 1) rfl
  have hg : w.grownBy (w.setCell ⟨r, 1, none⟩ (.int .i64 (p + 1 : Nat))) (some r) := only_setCell (World.grownBy.refl _ _) (.inl rfl) _
  by_cases hn1 : n < 1
  · go_enter Try.func52, Try.ntmps52
    go_wp2_with fail
    go_ret
    exact ⟨0, rfl, by omega, fun _ => rfl, hst, hg⟩
  · by_cases hl : bs.length = 0
    · have hq : ((bs.length : Int) == 0) = true := by simp [hl]
      have hl' := hide hl
      clear hl
      go_enter Try.func52, Try.ntmps52
      go_wp2_with fail
      go_ret
      exact ⟨0, rfl, fun h => by simp; omega, fun _ => rfl, hst, hg⟩
    · have hq : ((bs.length : Int) == 0) = false := beq_eq_false_iff_ne.2 (by omega)
      by_cases hk : p < bs.length
      · obtain ⟨b, off, rfl, h5, h6, h7, h8, h9⟩ := h4 p hk
        generalize bs[p] = x at *
        have h5' : (w.setCell ⟨r, 1, none⟩ (.int .i64 (p + 1 : Nat))).cell? ⟨b, off + p, none⟩ = some (.int .u8 x) := (World.cell?_of_block (w := w) (a := ⟨b, off + p, none⟩) (Below.heap_setCell w _ _ b h8)).trans h5
        go_enter Try.func52, Try.ntmps52
        go_wp2_with fail
        go_ret
        refine ⟨(x % n).toNat, ?_, fun h => ?_, fun h => (by omega), hst, hg⟩
        · rw [Int.toNat_of_nonneg (Int.emod_nonneg _ (by omega))]; rfl
        · rw [Int.toNat_of_nonneg (Int.emod_nonneg _ (by omega))]; exact Int.emod_lt_of_pos _ (by omega)
      · have hlp : 0 < bs.length := by omega
        have hj1 := Nat.mod_lt p hlp
        have t1 : (p : Int).tmod (bs.length : Int) = ((p % bs.length : Nat) : Int) := by rw [Int.tmod_eq_emod_of_nonneg (by omega)]; rfl
        generalize p % bs.length = j1 at hj1 t1
        have t2 : IntKind.i64.wrap ((p : Int) * 7) = ((p * 7 : Nat) : Int) := by rw [IntWalk.i64_in _ (by omega)]; omega
        obtain ⟨q7, hq7⟩ : ∃ q7, p * 7 = q7 := ⟨_, rfl⟩
        rw [hq7] at t2
        have t3 : IntKind.i64.wrap ((q7 : Int) + 3) = ((q7 + 3 : Nat) : Int) := by rw [IntWalk.i64_in _ (by omega)]; omega
        obtain ⟨q8, hq8⟩ : ∃ q8, q7 + 3 = q8 := ⟨_, rfl⟩
        rw [hq8] at t3
        have hj2 := Nat.mod_lt q8 hlp
        have t4 : (q8 : Int).tmod (bs.length : Int) = ((q8 % bs.length : Nat) : Int) := by rw [Int.tmod_eq_emod_of_nonneg (by omega)]; rfl
        generalize q8 % bs.length = j2 at hj2 t4
        obtain ⟨ba, offa, rfl, a5, a6, a7, a8, a9⟩ := h4 j1 hj1
        obtain ⟨bb, offb, hA, c5, c6, c7, c8, c9⟩ := h4 j2 hj2
        injection hA with hA
        injection hA with hA1 hA2
        subst hA1 hA2
        generalize bs[j1] = x1 at *
        generalize bs[j2] = x2 at *
        have a5' : (w.setCell ⟨r, 1, none⟩ (.int .i64 (p + 1 : Nat))).cell? ⟨ba, offa + j1, none⟩ = some (.int .u8 x1) := (World.cell?_of_block (w := w) (a := ⟨ba, offa + j1, none⟩) (Below.heap_setCell w _ _ ba a8)).trans a5
        have c5' : (w.setCell ⟨r, 1, none⟩ (.int .i64 (p + 1 : Nat))).cell? ⟨ba, offa + j2, none⟩ = some (.int .u8 x2) := (World.cell?_of_block (w := w) (a := ⟨ba, offa + j2, none⟩) (Below.heap_setCell w _ _ ba a8)).trans c5
        have hdv := Nat.div_le_self p bs.length
        have t10 : (p : Int).tdiv (bs.length : Int) = ((p / bs.length : Nat) : Int) := by rw [Int.tdiv_eq_ediv_of_nonneg (by omega)]; rfl
        generalize p / bs.length = dv at hdv t10
        obtain ⟨hX, hX0, hX1⟩ := mix_sum x1 x2 p dv a6 a7 c6 c7 hp hdv
        obtain ⟨m8, hm8⟩ : ∃ m8 : Nat, x1 * 131 + x2 * 1117 + (p : Int) * 29 + (dv : Int) * 53 = (m8 : Int) := ⟨(x1 * 131 + x2 * 1117 + (p : Int) * 29 + (dv : Int) * 53).toNat, (Int.toNat_of_nonneg hX0).symm⟩
        rw [hm8] at hX hX0 hX1
        have hb8 : m8 ≤ 200000000000 := Int.ofNat_le.1 hX1
        clear hX0 hX1
        have t14 : wrap64 ((m8 : Int) / 64) = (m8 : Int) / 64 := div_wrap m8 hb8
        have hb9 : m8 / 64 ≤ m8 := Nat.div_le_self _ _
        have t13 : bits .xor .i64 (m8 : Int) ((m8 : Int) / 64) = ((m8 ^^^ (m8 / 64) : Nat) : Int) := by
          have := i64_xor_nat m8 (m8 / 64) (by omega) (by omega)
          rw [← this]; rfl
        generalize m8 ^^^ (m8 / 64) = m9 at t13
        have hX' := hide hX
        have T13 := hide t13
        have T14 := hide t14
        clear t13 t14
        clear hm8 hq8 hq7 h4 h1 hdv hX
        go_enter Try.func52, Try.ntmps52
        go_wp2_with fail
        refine name_world ?_
        intro wx hwx
        have r0 : wx.cell? ⟨r, 0, none⟩ = some (.slice (some ⟨ba, offa, none⟩) bs.length c) := by rw [hwx]; exact b2
        have r1 : wx.cell? ⟨ba, offa + j1, none⟩ = some (.int .u8 x1) := by rw [hwx]; exact a5'
        have r2 : wx.cell? ⟨ba, offa + j2, none⟩ = some (.int .u8 x2) := by rw [hwx]; exact c5'
        have hgx : w.grownBy wx (some r) := by rw [hwx]; exact hg
        have hsx : Rdr B wx r (p + 1) := by rw [hwx]; exact hst
        replace r0 := rule_of r0
        replace r1 := rule_of r1
        replace r2 := rule_of r2
        clear hwx hg hst a5' c5' b2 b3
        refine wp_region_firstY (fun w' => Below wx.heap.size wx w') [0, 1, 2, 3, 4, 5, 6, 7, 8, 9, 10, 11, 12, 13, 14, 15, 16, 17, 18, 19, 20, 21, 22, 23, 24, 25, 26, 27, 28, 29, 30, 31, 32, 33, 34, 35, 36, 37, 38, 39, 40, 41, 42, 43, 44, 45] [] [] [_, _, _, _, _, _, _, _, _, _, _, _, _, _, _, _, _, _, _, _, _, _, _, _, _, _, _, _, _, _, _, _, _, _, _, _, _, _, _, _, _, _, _, _, _, _] [] [] (by kernel_rfl) (by kernel_rfl) rfl rfl rfl (fun _ _ d _ _ h => by cases d <;> exact h) (Below.refl _ _).drew ?_
        repeat (first | ((refine takeY_skip (a' := ?_) ?_ ?_ ?_); (rotate_left); (· (simp [Region.wanted, yielded]; done)); (· (simp only [List.getElem_toArray, List.getElem_cons_zero, List.getElem_cons_succ, Act.put, List.setIfInBounds_toArray, List.set_cons_zero, List.set_cons_succ]; exact rfl))) | ((refine takeY_step (v := ?_) (a' := ?_) ?_ ?_ ?_ ?_); (rotate_left 2); (· (simp [Region.wanted, yielded]; done)); (· (intro w' hS'; go_simp; try (with_reducible rfl))); (· (simp only [List.getElem_toArray, List.getElem_cons_zero, List.getElem_cons_succ, Act.put, List.setIfInBounds_toArray, List.set_cons_zero, List.set_cons_succ]; exact rfl))))
        refine takeY_nil (then_nil ?_)
        have hX := hX'.out
        go_wp2_with fail
        go_ret
        refine ⟨(m9 % n.toNat : Nat), ?_, fun h => ?_, fun h => (by omega), hsx, only_drew hgx⟩
        · have hc : ((m9 % n.toNat : Nat) : Int) = (m9 : Int) % n := by
            rw [Int.natCast_emod, Int.toNat_of_nonneg (by omega)]
          rw [hc]
          show Ending.returned (.int .i64 ((bits .xor .i64 (m8 : Int) (wrap64 ((m8 : Int) / 64))).tmod n)) = _
          rw [T14.out, T13.out, Int.tmod_eq_emod_of_nonneg (by omega)]
        · have h5 := Nat.mod_lt m9 (show 0 < n.toNat by omega)
          omega
/-- bytes that can be read -/
def RdY (w : World) (A : Option Addr) (bs : List Int) : Prop := ∀ j (hj : j < bs.length), ∃ b off, A = some ⟨b, off, none⟩ ∧ w.cell? ⟨b, off + j, none⟩ = some (.int .u8 bs[j]) ∧ 0 ≤ bs[j] ∧ bs[j] ≤ 255
theorem RdY.take {w : World} {A : Option Addr} {bs : List Int} (h : RdY w A bs) (n : Nat) : RdY w A (bs.take n) := fun j hj => by
  rw [List.length_take] at hj
  obtain ⟨b, off, e, h1, h2, h3⟩ := h j (by omega)
  exact ⟨b, off, e, by rw [List.getElem_take]; exact h1, by rw [List.getElem_take]; exact h2, by rw [List.getElem_take]; exact h3⟩
theorem RdY.keeps {w w' : World} {A : Option Addr} {bs : List Int} (h : RdY w A bs) (hk : Keeps w w') : RdY w' A bs := fun j hj => by
  obtain ⟨b, off, e, h1, h2, h3⟩ := h j hj
  exact ⟨b, off, e, hk _ _ h1, h2, h3⟩
theorem Rdr.new {w : World} {A : Option Addr} {bs : List Int} {c : Nat} {t : TypeId} (h : RdY w A bs) (hl : bs.length ≤ 2000) : Rdr (w.heap.size + 1) (w.alloc (.cells #[.slice A bs.length c, .int .i64 0] t)) w.heap.size 0 :=
  ⟨A, bs, c, Blk.new_ _ _ _ rfl, hl, by omega, fun j hj => by
    obtain ⟨b, off, e, h1, h2, h3⟩ := h j hj
    have hb := World.block_lt_of_cell? _ _ h1
    have hb : b < w.heap.size := hb
    exact ⟨b, off, e, Keeps.alloc _ _ _ _ h1, h2, h3, by omega, by omega⟩⟩
/-- an open reader -/
def Opened (w : World) (e : Ending) (w' : World) : Prop := ∃ r, e = .returned (.pointer (some ⟨r, 0, none⟩)) ∧ w.heap.size ≤ r ∧ r < w'.heap.size ∧ Rdr w'.heap.size w' r 0 ∧ Below w.heap.size w w'
theorem Rdr.mono {B B' : Nat} {w : World} {r p : Nat} (h : Rdr B w r p) (hB : B ≤ B') : Rdr B' w r p := by
  obtain ⟨A, bs, c, h1, h2, h3, h4⟩ := h
  exact ⟨A, bs, c, h1, h2, by omega, fun j hj => by obtain ⟨b, off, e, h5, h6, h7, h8, h9⟩ := h4 j hj; exact ⟨b, off, e, h5, h6, h7, h8, by omega⟩⟩
set_option maxHeartbeats 2000000 in
set_option maxRecDepth 100000 in
theorem open_any (bs : List Int) (A : Option Addr) (c : Nat) (w : World) (hl : bs.length ≤ 9223372036854775807) (hc : bs.length ≤ c) (hr : RdY w A bs) : Calls Try.prog 50 #[.slice A bs.length c] w (Opened w) := by
  by_cases h2 : bs.length ≤ 2000
  · go_enter Try.func50, Try.ntmps50
    go_wp2_with fail
    go_ret
    exact ⟨w.heap.size, rfl, Nat.le_refl _, by simp, by simpa using Rdr.new hr h2, (Below.refl _ _).alloc (Nat.le_refl _) _⟩
  · have hr2 := hr.take 2000
    have hl2 : (bs.take 2000).length = 2000 := by rw [List.length_take]; omega
    have hc2 : 2000 ≤ c := by omega
    generalize bs.take 2000 = bs2 at hr2 hl2
    have hl2' := hide hl2
    clear hl2
    go_enter Try.func50, Try.ntmps50
    go_wp2_with fail
    go_ret
    refine ⟨w.heap.size, rfl, Nat.le_refl _, by simp, ?_, (Below.refl _ _).alloc (Nat.le_refl _) _⟩
    have := Rdr.new (c := c) (t := 101) hr2 (by have := hl2'.out; omega)
    rw [hl2'.out] at this
    simpa using this
open Go.RowKit
def intc (xs : List Int) : Array Value := (xs.map (Value.int .i64)).toArray
theorem intc_get {xs : List Int} {j : Nat} (h : j < xs.length) : (intc xs)[j]? = some (.int .i64 xs[j]) := by simp [intc, List.getElem?_eq_getElem h]
/-- what the draw of an element gives -/
def Drawn (B : Nat) (w : World) (r p : Nat) (xs : List Int) (e : Ending) (w' : World) : Prop :=
  ∃ x, x ∈ xs ∧ e = .returned (.int .i64 x) ∧ Rdr B w' r (p + 1) ∧ w.grownBy w' (some r)
set_option maxHeartbeats 2000000 in
set_option maxRecDepth 100000 in
theorem num_any (xs : List Int) (B r p g : Nat) (w : World) (hx : 0 < xs.length) (hx2 : xs.length ≤ 1000) (hp : p ≤ 1000000000) (hB : B ≤ w.heap.size) (hr : Rdr B w r p) (hL : Blk w g (intc xs)) (hg : r ≠ g) :
    Calls Try.prog 76 #[.pointer (some ⟨r, 0, none⟩), .slice (some ⟨g, 0, none⟩) xs.length xs.length] w (Drawn B w r p xs) := by
  go_enter Try.func76, Try.ntmps76
  go_wp2_with (go_at_call 52; refine (pick_any B r p xs.length _ hp (by omega) hB hr).mono ?_; rintro e w1 ⟨m, rfl, hm, hm0, hr1, hg1⟩; have hm := hm (by omega); clear hm0; have hm' : m < xs.length := (by omega); have hc : w1.cell? ⟨g, m, none⟩ = some (.int .i64 xs[m]) := (hL.grown hg1 (by simpa using hg.symm)).at_ (intc_get hm'))
  go_ret
  exact ⟨xs[m], List.getElem_mem hm', rfl, hr1, hg1⟩
open Go.RowKit
set_option maxHeartbeats 2000000 in
set_option maxRecDepth 100000 in
theorem sCopy_any (N : Nat) : ∀ (k n : Int) (ks : List Tm) (A : Option Addr) (c : Nat) (w : World), sizes ks < N → sizes ks ≤ 1000000000 → Rd w A 0 ks →
    Calls Try.prog 99 #[.agg #[.int .i64 k, .int .i64 n, .slice A ks.length c]] w (GotT w k n ks) := by
  induction N with
  | zero => intro k n ks A c w hN; exact absurd hN (Nat.not_lt_zero _)
  | succ N ih =>
  intro k n ks A c w hN hM hr
  have hlen := length_le_sizes ks
  go_enter Try.func99, Try.ntmps99
  go_wp2_with fail
  go_loopw [4] (fun i wr => ∃ (j : Nat) (v : Value), j ≤ ks.length ∧ i = .int .i64 j ∧ Part (w.heap.size + 3) wr v (ks.take j) ∧ Blk wr (w.heap.size + 1 + 1) #[.int .i64 k, .int .i64 n, v] ∧ Blk wr (w.heap.size + 1) #[.int .i64 0, .int .i64 0, .slice none 0 0] ∧ Blk wr w.heap.size #[.int .i64 k, .int .i64 n, .slice A ks.length c] ∧ Below w.heap.size w wr)
    (fun i _ => ks.length - (intOf i).toNat)
  case atStart => exact ⟨0, _, Nat.zero_le _, rfl, Part.nil, Blk.new_ _ _ _ (by simp), (Blk.new_ _ _ _ (by simp)).alloc _, ((Blk.new_ _ _ _ rfl).alloc _).alloc _, (((Below.refl _ _).alloc (by simp) _).alloc (by simp) _).alloc (by simp; omega) _⟩
  case round =>
    obtain ⟨j, v, hj, rfl, hp, hB3, hB2, hB1, hb⟩ := hrel
    have c12 := hB1.at_ (i := 2) rfl
    by_cases hlt : j < ks.length
    · obtain ⟨b, off, k', n', ks', A', c', rfl, hkj, hc1, hc2, hc3, hl', hr'⟩ := (hr.below hb).at_ hlt
      have hsz := sizes_le (List.getElem_mem hlt)
      rw [hkj] at hsz
      simp only [Tm.size] at hsz
      have H3 := hide hkj
      clear hkj
      have hz := hB3.lt
      go_wp2_with fail
      have x2 := hB3.rule (i := 2) rfl
      have b2 := hB1.rule (i := 2) rfl
      have y0 := rule_of hc1
      have y1 := rule_of hc2
      have y2 := rule_of hc3
      refine wp_region_firstY (fun w' => Below wr.heap.size wr w') [0, 1, 2, 3, 4, 5, 6] [7, 8] [9, 10, 11] [_, _, _, _, _, _, _] [_, _] [_, _, _] (by kernel_rfl) (by kernel_rfl) rfl rfl rfl (fun _ _ d _ _ h => by cases d <;> exact h) (Below.refl _ _).drew ?_
      repeat (first | ((refine takeY_skip (a' := ?_) ?_ ?_ ?_); (rotate_left); (· (simp [Region.wanted, yielded]; done)); (· (simp only [List.getElem_toArray, List.getElem_cons_zero, List.getElem_cons_succ, Act.put, List.setIfInBounds_toArray, List.set_cons_zero, List.set_cons_succ]; exact rfl))) | ((refine takeY_step (v := ?_) (a' := ?_) ?_ ?_ ?_ ?_); (rotate_left 2); (· (simp [Region.wanted, yielded]; done)); (· (intro w' hS'; go_simp; try (with_reducible rfl))); (· (simp only [List.getElem_toArray, List.getElem_cons_zero, List.getElem_cons_succ, Act.put, List.setIfInBounds_toArray, List.set_cons_zero, List.set_cons_succ]; exact rfl))))
      refine takeY_nil (then_cons ?_)
      go_wp2_with (go_at_call 99; refine (ih k' n' ks' A' c' _ (by omega) (by omega) hr'.drew).mono ?_; rintro e w1 ⟨A1, c1, rfl, hl1, hf1, hb1⟩)
      have hx1 : Below wr.heap.size wr w1 := (Below.refl _ _).drew.trans hb1
      refine mid_intro hx1 (then_cons ?_)
      go_wp2_with fail
      refine mid_intro (hx1.alloc hx1.size _) (then_nil ?_)
      refine wpList_append_built (B := w.heap.size + 3) (m := j) hp.drew hb1 (by simp; omega) hf1 hl1 (by rw [List.length_take]; omega) (by omega) rfl (.tmp 18) (.tmp 25) rfl rfl rfl ?_
      intro A2 c2 w2 hp2 hb2 hg2
      have q3 : Blk w2 (w.heap.size + 1 + 1) #[.int .i64 k, .int .i64 n, v] := (hB3.below hx1 (by omega)).below hb2 (by omega)
      have q2 : Blk w2 (w.heap.size + 1) #[.int .i64 0, .int .i64 0, .slice none 0 0] := (hB2.below hx1 (by omega)).below hb2 (by omega)
      have q1' : Blk w2 w.heap.size #[.int .i64 k, .int .i64 n, .slice (some ⟨b, off, none⟩) ks.length c] := (hB1.below hx1 (by omega)).below hb2 (by omega)
      have c3 : w2.cell? ⟨w.heap.size + 1 + 1, 2, none⟩ = some v := q3.at_ rfl
      have z3 := q3.frozen 2
      have hbf : Below w.heap.size w w2 := (hb.trans (hx1.mono (by omega))).trans (hb2.mono (by omega))
      clear x2 y0 y1 y2 b2
      go_wp2_with fail
      go_roundw
      case rel => exact ⟨j + 1, _, by omega, by go_num, by rw [List.take_succ_eq_append_getElem hlt, H3.out]; exact hp2.setCell (by simp) _, q3.set_ 2 _, q2.far (by simp) _, q1'.far (by simp; omega) _, hbf.setCell (by simp; omega) _⟩
      case measure => simp [intOf]; omega
    · have hjl : j = ks.length := by omega
      subst hjl
      rw [List.take_length] at hp
      obtain ⟨Ar, cr, rfl, hfr⟩ := hp.fresh
      have c0 : wr.cell? ⟨w.heap.size + 1 + 1, 0, none⟩ = some (.int .i64 k) := hB3.at_ rfl
      have c1 : wr.cell? ⟨w.heap.size + 1 + 1, 1, none⟩ = some (.int .i64 n) := hB3.at_ rfl
      have c2 : wr.cell? ⟨w.heap.size + 1 + 1, 2, none⟩ = some (.slice Ar ks.length cr) := hB3.at_ rfl
      have d0 : wr.cell? ⟨w.heap.size + 1, 0, none⟩ = some (.int .i64 0) := hB2.at_ rfl
      have d1 : wr.cell? ⟨w.heap.size + 1, 1, none⟩ = some (.int .i64 0) := hB2.at_ rfl
      have d2 : wr.cell? ⟨w.heap.size + 1, 2, none⟩ = some (.slice none 0 0) := hB2.at_ rfl
      have e0 := hB2.frozen 0
      have e1 := hB2.frozen 1
      have e2 := hB2.frozen 2
      go_wp2_with fail
      refine bodyPost_ret (v := .agg #[.int .i64 k, .int .i64 n, .slice Ar ks.length cr]) (by simp [results, Try.results99, go_sem, d0, d1, d2]) rfl ⟨Ar, cr, rfl, by omega, ?_, ?_⟩
      · exact (((hfr.setCell (by simp) _).setCell (by simp) _).setCell (by simp) _).mono (by omega)
      · exact ((hb.setCell (by simp) _).setCell (by simp) _).setCell (by simp) _
open Go.RowKit
/-- what fill puts in a variable's place -/
def filF (args : List Tm) (n d : Int) : Tm :=
  if n - d < 0 then .mk 1 n [] else if (args.length : Int) ≤ n - d then .mk 1 (n - args.length) [] else (shiftI d 0 (args.getD (n - d).toNat default)).getD (.mk 0 0 [])
def filOk (args : List Tm) (n d : Int) : Bool :=
  if n - d < 0 then true else if (args.length : Int) ≤ n - d then true else (shiftI d 0 (args.getD (n - d).toNat default)).isSome
theorem gotO_some {w : World} {k n : Int} {ks : List Tm} {e : Ending} {w' : World} (h : GotO w (some (.mk k n ks)) e w') :
    ∃ A c, e = .returned (.tuple #[.agg #[.int .i64 k, .int .i64 n, .slice A ks.length c], .bool true]) ∧ ks.length ≤ 9223372036854775807 ∧ Fresh w.heap.size w' A ks ∧ Below w.heap.size w w' := h
theorem gotO_none {w : World} {e : Ending} {w' : World} (h : GotO w none e w') : e = .returned (.tuple #[.agg #[.int .i64 0, .int .i64 0, .slice none 0 0], .bool false]) ∧ Below w.heap.size w w' := h
set_option maxHeartbeats 2000000 in
set_option maxRecDepth 100000 in
theorem fill1_ok {args : List Tm} {B : Option Addr} {cb ba g : Nat} {W0 : World} (hl : args.length ≤ 1000) (hsh : ∀ t, t ∈ args → shape 30 t = true) (hsz : sizes args ≤ 1000000000) (hA : Blk W0 ba #[.slice B args.length cb]) (hR : RdP (· ≠ g) W0 B 0 args) (hag : ba ≠ g) :
    FunOk 103 [.pointer (some ⟨ba, 0, none⟩), .pointer (some ⟨g, 0, none⟩)] W0 g (filF args) (filOk args) := by
  intro n d w b hn0 hn1 hd0 hd1 hW hg
  have hAw := hA.grown hW (by simpa using hag)
  have hRw := hR.grown hW (fun b hb e => hb (by injection e))
  have x0 := hAw.at_ (i := 0) rfl
  have x2 := hg.at_ (i := 0) rfl
  have z2 := hg.frozen 0
  have l0 := hAw.lt
  have l2 := hg.lt
  by_cases h1 : n - d < 0
  · have hz : filF args n d = .mk 1 n [] := by rw [filF, if_pos h1]
    have hzo : filOk args n d = true := by rw [filOk, if_pos h1]
    rw [hz, hzo, Bool.and_true]
    have q1 : decide (n - d < 0) = true := decide_eq_true h1
    have H := hide h1
    clear h1 hz hzo
    go_enter Try.func103, Try.ntmps103
    go_wp2_with (go_at_call 104; refine (variable_any _ _).mono ?_; rintro e w1 ⟨rfl, hv1⟩; have hT : Blk w1 w.heap.size #[.int .i64 0, .int .i64 0, .slice none 0 0] := (Blk.new_ _ 25 _ rfl).keep hv1; obtain ⟨d0, d1, d2⟩ := hT.three; have e0 := hT.frozen 0; have e1 := hT.frozen 1; have e2 := hT.frozen 2; have hG1 := (hg.alloc (.cells #[.int .i64 0, .int .i64 0, .slice none 0 0] 25)).keep hv1; replace hv1 : w.grownBy w1 (some g) := only_below (only_alloc (World.grownBy.refl _ _) _) hv1)
    refine bodyPost_ret (v := .agg #[.int .i64 1, .int .i64 (n), .slice none 0 0]) (by simp [results, Try.results103, go_sem, d0, d1, d2]) rfl ⟨none, 0, rfl, by simp [Tm.ks], Fresh.nil, ?_, ?_⟩
    · exact ((hG1.far (by simp; omega) _).far (by simp; omega) _).far (by simp; omega) _
    · exact only_setCell (only_setCell (only_setCell hv1 (.inr (by simp)) _) (.inr (by simp)) _) (.inr (by simp)) _
  · have q1 : decide (n - d < 0) = false := decide_eq_false h1
    by_cases h2 : (args.length : Int) ≤ n - d
    · have hz : filF args n d = .mk 1 (n - args.length) [] := by rw [filF, if_neg h1, if_pos h2]
      have hzo : filOk args n d = true := by rw [filOk, if_neg h1, if_pos h2]
      rw [hz, hzo, Bool.and_true]
      have q2 : decide ((args.length : Int) ≤ n - d) = true := decide_eq_true h2
      have H := hide h1
      have H2 := hide h2
      clear h1 h2 hz hzo
      go_enter Try.func103, Try.ntmps103
      go_wp2_with (go_at_call 104; refine (variable_any _ _).mono ?_; rintro e w1 ⟨rfl, hv1⟩; have hT : Blk w1 w.heap.size #[.int .i64 0, .int .i64 0, .slice none 0 0] := (Blk.new_ _ 25 _ rfl).keep hv1; obtain ⟨d0, d1, d2⟩ := hT.three; have e0 := hT.frozen 0; have e1 := hT.frozen 1; have e2 := hT.frozen 2; have hG1 := (hg.alloc (.cells #[.int .i64 0, .int .i64 0, .slice none 0 0] 25)).keep hv1; replace hv1 : w.grownBy w1 (some g) := only_below (only_alloc (World.grownBy.refl _ _) _) hv1)
      refine bodyPost_ret (v := .agg #[.int .i64 1, .int .i64 (n - args.length), .slice none 0 0]) (by simp [results, Try.results103, go_sem, d0, d1, d2]) rfl ⟨none, 0, rfl, by simp [Tm.ks], Fresh.nil, ?_, ?_⟩
      · exact ((hG1.far (by simp; omega) _).far (by simp; omega) _).far (by simp; omega) _
      · exact only_setCell (only_setCell (only_setCell hv1 (.inr (by simp)) _) (.inr (by simp)) _) (.inr (by simp)) _
    · have q2 : decide ((args.length : Int) ≤ n - d) = false := decide_eq_false h2
      obtain ⟨j, hj⟩ : ∃ j : Nat, n - d = (j : Int) := ⟨(n - d).toNat, by omega⟩
      have hlt : j < args.length := by omega
      obtain ⟨b0, off, k', n', ks', A', c', rfl, hkj, hc1, hc2, hc3, hl', hr'⟩ := hRw.at_ hlt
      have hbl := World.block_lt_of_cell? _ _ hc1
      have hs1 := hsh _ (List.getElem_mem hlt)
      have hz1 := sizes_le (List.getElem_mem hlt)
      have hgd : args.getD (n - d).toNat default = .mk k' n' ks' := by rw [hj]; simp [List.getD, List.getElem?_eq_getElem hlt, hkj]
      rw [hkj] at hs1 hz1
      simp only [Tm.size] at hz1
      have hz : filF args n d = (shiftI d 0 (.mk k' n' ks')).getD (.mk 0 0 []) := by rw [filF, if_neg h1, if_neg h2, hgd]
      have hzo : filOk args n d = (shiftI d 0 (.mk k' n' ks')).isSome := by rw [filOk, if_neg h1, if_neg h2, hgd]
      rw [hz, hzo]
      rw [hj] at q1 q2
      have H := hide h1
      have H2 := hide h2
      have H3 := hide hkj
      have H4 := hide hs1
      have hrd := hr'.rd
      clear h1 h2 hz hzo hkj hs1 hgd
      cases hsi : shiftI d 0 (.mk k' n' ks') with
      | none =>
        rw [show (none : Option Tm).getD (.mk 0 0 []) = .mk 0 0 [] from rfl, show (none : Option Tm).isSome = false from rfl, Bool.and_false]
        cases b
        all_goals
          go_enter Try.func103, Try.ntmps103
          go_wp2_with (go_at_call 92; refine (shift_any k' n' ks' A' c' d 0 _ (by omega) (by omega) (by omega) H4.out (hrd.alloc _)).mono ?_; rw [hsi]; intro e w1 hp; obtain ⟨he, hb1⟩ := gotO_none hp; subst he; clear hp; have hT : Blk w1 w.heap.size #[.int .i64 0, .int .i64 0, .slice none 0 0] := (Blk.new_ _ 25 _ rfl).keep hb1; obtain ⟨d0, d1, d2⟩ := hT.three; have e0 := hT.frozen 0; have e1 := hT.frozen 1; have e2 := hT.frozen 2; have hG1 := (hg.alloc (.cells #[.int .i64 0, .int .i64 0, .slice none 0 0] 25)).keep hb1; have g1 := hG1.at_ (i := 0) rfl; have gz := hG1.frozen 0; have lT := hT.lt; have lG := hG1.lt; replace hb1 : w.grownBy w1 (some g) := only_below (only_alloc (World.grownBy.refl _ _) _) hb1)
          have y := fun (v : Value) (o : Obj) => ((((((hT.far (p := ⟨g, 0, none⟩) (by simp; omega) v).set_ 0 (.int .i64 0)).set_ 1 (.int .i64 0)).set_ 2 (.slice none 0 0)).alloc o : Blk _ _ #[.int .i64 0, .int .i64 0, .slice none 0 0])).three
          refine bodyPost_ret (v := .agg #[.int .i64 0, .int .i64 0, .slice none 0 0]) (by simp [results, Try.results103, go_sem, y]) rfl ⟨_, _, rfl, ?_, ?_, ?_, ?_⟩
          · simp [Tm.ks]
          · exact Fresh.nil
          · exact ((((hG1.set_ 0 (.bool false)).far (by simp; omega) _).far (by simp; omega) _).far (by simp; omega) _).alloc _
          · exact only_alloc (only_setCell (only_setCell (only_setCell (only_setCell hb1 (.inl rfl) _) (.inr (by simp)) _) (.inr (by simp)) _) (.inr (by simp)) _) _
      | some t =>
        obtain ⟨k2, n2, ks2⟩ := t
        rw [show (some (Tm.mk k2 n2 ks2)).getD (.mk 0 0 []) = .mk k2 n2 ks2 from rfl, show (some (Tm.mk k2 n2 ks2)).isSome = true from rfl, Bool.and_true]
        cases b
        · go_enter Try.func103, Try.ntmps103
          go_wp2_with (go_at_call 92; refine (shift_any k' n' ks' A' c' d 0 _ (by omega) (by omega) (by omega) H4.out (hrd.alloc _)).mono ?_; rw [hsi]; intro e w1 hp; obtain ⟨A1, c1, rfl, hl1, hf1, hb1⟩ := gotO_some hp; clear hp; have hT : Blk w1 w.heap.size #[.int .i64 0, .int .i64 0, .slice none 0 0] := (Blk.new_ _ 25 _ rfl).keep hb1; obtain ⟨d0, d1, d2⟩ := hT.three; have e0 := hT.frozen 0; have e1 := hT.frozen 1; have e2 := hT.frozen 2; have hG1 := (hg.alloc (.cells #[.int .i64 0, .int .i64 0, .slice none 0 0] 25)).keep hb1; have g1 := hG1.at_ (i := 0) rfl; have gz := hG1.frozen 0; have lT := hT.lt; have lG := hG1.lt; replace hf1 : Fresh (w.heap.size + 1) w1 A1 ks2 := hf1.mono (by simp); replace hb1 : w.grownBy w1 (some g) := only_below (only_alloc (World.grownBy.refl _ _) _) hb1)
          have y := fun (v : Value) (o : Obj) => ((((((hT.far (p := ⟨g, 0, none⟩) (by simp; omega) v).set_ 0 (.int .i64 k2)).set_ 1 (.int .i64 n2)).set_ 2 (.slice A1 ks2.length c1)).alloc o : Blk _ _ #[.int .i64 k2, .int .i64 n2, .slice A1 ks2.length c1])).three
          refine bodyPost_ret (v := .agg #[.int .i64 k2, .int .i64 n2, .slice A1 ks2.length c1]) (by simp [results, Try.results103, go_sem, y]) rfl ⟨_, _, rfl, ?_, ?_, ?_, ?_⟩
          · exact hl1
          · exact (((((hf1.setCell (by simp; omega) _).setCell (by simp) _).setCell (by simp) _).setCell (by simp) _).alloc _).mono (by simp)
          · exact ((((hG1.set_ 0 (.bool false)).far (by simp; omega) _).far (by simp; omega) _).far (by simp; omega) _).alloc _
          · exact only_alloc (only_setCell (only_setCell (only_setCell (only_setCell hb1 (.inl rfl) _) (.inr (by simp)) _) (.inr (by simp)) _) (.inr (by simp)) _) _
        · go_enter Try.func103, Try.ntmps103
          go_wp2_with (go_at_call 92; refine (shift_any k' n' ks' A' c' d 0 _ (by omega) (by omega) (by omega) H4.out (hrd.alloc _)).mono ?_; rw [hsi]; intro e w1 hp; obtain ⟨A1, c1, rfl, hl1, hf1, hb1⟩ := gotO_some hp; clear hp; have hT : Blk w1 w.heap.size #[.int .i64 0, .int .i64 0, .slice none 0 0] := (Blk.new_ _ 25 _ rfl).keep hb1; obtain ⟨d0, d1, d2⟩ := hT.three; have e0 := hT.frozen 0; have e1 := hT.frozen 1; have e2 := hT.frozen 2; have hG1 := (hg.alloc (.cells #[.int .i64 0, .int .i64 0, .slice none 0 0] 25)).keep hb1; have g1 := hG1.at_ (i := 0) rfl; have gz := hG1.frozen 0; have lT := hT.lt; have lG := hG1.lt; replace hf1 : Fresh (w.heap.size + 1) w1 A1 ks2 := hf1.mono (by simp); replace hb1 : w.grownBy w1 (some g) := only_below (only_alloc (World.grownBy.refl _ _) _) hb1)
          have y := fun (v : Value) (o : Obj) => ((((((hT.far (p := ⟨g, 0, none⟩) (by simp; omega) v).set_ 0 (.int .i64 k2)).set_ 1 (.int .i64 n2)).set_ 2 (.slice A1 ks2.length c1)).alloc o : Blk _ _ #[.int .i64 k2, .int .i64 n2, .slice A1 ks2.length c1])).three
          refine bodyPost_ret (v := .agg #[.int .i64 k2, .int .i64 n2, .slice A1 ks2.length c1]) (by simp [results, Try.results103, go_sem, y]) rfl ⟨_, _, rfl, ?_, ?_, ?_, ?_⟩
          · exact hl1
          · exact (((((hf1.setCell (by simp; omega) _).setCell (by simp) _).setCell (by simp) _).setCell (by simp) _).alloc _).mono (by simp)
          · exact ((((hG1.set_ 0 (.bool true)).far (by simp; omega) _).far (by simp; omega) _).far (by simp; omega) _).alloc _
          · exact only_alloc (only_setCell (only_setCell (only_setCell (only_setCell hb1 (.inl rfl) _) (.inr (by simp)) _) (.inr (by simp)) _) (.inr (by simp)) _) _
end Go.Proofs.Ytodkenpmhhbppaa
