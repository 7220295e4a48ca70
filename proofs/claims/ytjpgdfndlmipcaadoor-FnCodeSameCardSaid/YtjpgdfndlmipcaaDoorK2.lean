/-
  Texts of this claim, merged: contracts of the functions that the law reaches. No condition.
-/
import Derived.Test.YtjpgdfndlmipcaaDoorK1
import Derived.IntWalk
import Derived.Laws.BitsAllLaws
import Derived.Laws.BitsLemmas
import Derived.WalkSpells
import Derived.WalkLawsBesides
import Derived.Maps.AppendAt
import Derived.OwnWalk
import Derived.Laws.DeepStrings4
import Derived.Laws.Concat

namespace Go.Proofs.YtjpgdfndlmipcaaDoor
open Go.RowKit
set_option linter.unusedSimpArgs false
set_option linter.unusedVariables false

/-- the reader at block r: its bytes lie elsewhere, all below B; so many numbers have been asked for -/
def Rdr (B : Nat) (w : World) (r p : Nat) : Prop :=
  ∃ (A : Option Addr) (bs : List Int) (c : Nat), Blk w r #[.slice A bs.length c, .int .i64 p] ∧ bs.length ≤ 2000 ∧ r < B ∧
    ∀ j (hj : j < bs.length), ∃ b off, A = some ⟨b, off, none⟩ ∧ w.cell? ⟨b, off + j, none⟩ = some (.int .u8 bs[j]) ∧ 0 ≤ bs[j] ∧ bs[j] ≤ 255 ∧ b ≠ r ∧ b < B
theorem Rdr.keep {B r p : Nat} {w w' : World} (h : Rdr B w r p) (hk : ∀ b, b < B → w'.heap[b]? = w.heap[b]?) : Rdr B w' r p := by
  obtain ⟨A, bs, c, ⟨t, h1⟩, h2, h3, h4⟩ := h
  refine ⟨A, bs, c, ⟨t, (hk r h3).trans h1⟩, h2, h3, fun j hj => ?_⟩
  obtain ⟨b, off, e, h5, h6, h7, h8, h9⟩ := h4 j hj
  exact ⟨b, off, e, (World.cell?_of_block (w := w) (a := ⟨b, off + j, none⟩) (hk b h9)).trans h5, h6, h7, h8, h9⟩
theorem Rdr.below {B B' r p : Nat} {w w' : World} (h : Rdr B w r p) (hb : Below B' w w') (hB : B ≤ B') : Rdr B w' r p := h.keep fun b hl => hb.block b (by omega)
theorem Rdr.alloc {B r p : Nat} {w : World} (h : Rdr B w r p) (hB : B ≤ w.heap.size) (o : Obj) : Rdr B (w.alloc o) r p := h.keep fun b hl => Below.heap_alloc w o b (by omega)
theorem Rdr.drew {B r p : Nat} {w : World} (h : Rdr B w r p) : Rdr B w.drew r p := h
theorem Rdr.setCell {B r p : Nat} {w : World} (h : Rdr B w r p) {a : Addr} (ha : B ≤ a.block) (u : Value) : Rdr B (w.setCell a u) r p := h.keep fun b hl => Below.heap_setCell w a u b (by omega)
theorem Rdr.step {B r p : Nat} {w : World} (h : Rdr B w r p) (q : Nat) : Rdr B (w.setCell ⟨r, 1, none⟩ (.int .i64 q)) r q := by
  obtain ⟨A, bs, c, h1, h2, h3, h4⟩ := h
  refine ⟨A, bs, c, h1.set_ 1 _, h2, h3, fun j hj => ?_⟩
  obtain ⟨b, off, e, h5, h6, h7, h8, h9⟩ := h4 j hj
  exact ⟨b, off, e, (World.cell?_of_block (w := w) (a := ⟨b, off + j, none⟩) (Below.heap_setCell w _ _ b h8)).trans h5, h6, h7, h8, h9⟩

/-- what asking for a number below n gives -/
def Picked (B : Nat) (w : World) (r p : Nat) (n : Int) (e : Ending) (w' : World) : Prop :=
  ∃ m : Nat, e = .returned (.int .i64 m) ∧ (1 ≤ n → (m : Int) < n) ∧ (n < 1 → m = 0) ∧ Rdr B w' r (p + 1) ∧ w.grownBy w' (some r)

theorem ofInt_i64 (a : Nat) (ha : a < 9223372036854775808) : (BitVec.ofInt 64 (a : Int)).toNat = a := by
  rw [BitVec.ofInt_natCast, BitVec.toNat_ofNat]; exact Nat.mod_eq_of_lt (by omega)
theorem i64_xor_nat (a b : Nat) (ha : a < 9223372036854775808) (hb : b < 9223372036854775808) : bits .xor .i64 (a : Int) (b : Int) = ((a ^^^ b : Nat) : Int) := by
  have hx : a ^^^ b < 2 ^ 63 := Nat.xor_lt_two_pow (by omega) (by omega)
  show IntKind.i64.wrap ((BitVec.ofInt 64 (a : Int) ^^^ BitVec.ofInt 64 (b : Int)).toNat : Int) = _
  rw [BitVec.toNat_xor, ofInt_i64 a ha, ofInt_i64 b hb, IntKind.wrap_i64]
  omega

theorem mix_sum (x1 x2 : Int) (p dv : Nat) (h1 : 0 ≤ x1) (h2 : x1 ≤ 255) (h3 : 0 ≤ x2) (h4 : x2 ≤ 255) (h5 : p ≤ 1000000000) (h6 : dv ≤ p) :
    wrap64 (x1 * 131 + x2 * 1117 + (p : Int) * 29 + wrap64 (wrap64 (dv : Int) * 53)) = x1 * 131 + x2 * 1117 + (p : Int) * 29 + (dv : Int) * 53 ∧ 0 ≤ x1 * 131 + x2 * 1117 + (p : Int) * 29 + (dv : Int) * 53 ∧ x1 * 131 + x2 * 1117 + (p : Int) * 29 + (dv : Int) * 53 ≤ ((200000000000 : Nat) : Int) := by
  have e1 : wrap64 (dv : Int) = dv := IntWalk.wrap64_in _ ⟨by omega, by omega⟩
  have e2 : wrap64 ((dv : Int) * 53) = (dv : Int) * 53 := IntWalk.wrap64_in _ ⟨by omega, by omega⟩
  rw [e1, e2]
  exact ⟨IntWalk.wrap64_in _ ⟨by omega, by omega⟩, by omega, by omega⟩
theorem div_wrap (m : Nat) (h : m ≤ 200000000000) : wrap64 ((m : Int) / 64) = (m : Int) / 64 := IntWalk.wrap64_in _ ⟨by omega, by omega⟩

set_option maxHeartbeats 4000000 in
set_option maxRecDepth 100000 in
theorem pick_any (B r p : Nat) (n : Int) (w : World) (hp : p ≤ 1000000000) (hn : n ≤ 1000000000) (hB : B ≤ w.heap.size) (hr : Rdr B w r p) :
    Calls Tryd.prog 16 #[.pointer (some ⟨r, 0, none⟩), .int .i64 n] w (Picked B w r p n) := by
  have hst := hr.step (p + 1)
  obtain ⟨A, bs, c, h1, h2, h3, h4⟩ := hr
  have b0 := h1.at_ (i := 0) rfl
  have b1 := h1.at_ (i := 1) rfl
  have e1 := h1.frozen 1
  have b2 := (h1.set_ 1 (.int .i64 (p + 1 : Nat))).at_ (i := 0) rfl
  have b3 := (h1.set_ 1 (.int .i64 (p + 1 : Nat))).at_ (i := 1) rfl
  have hg : w.grownBy (w.setCell ⟨r, 1, none⟩ (.int .i64 (p + 1 : Nat))) (some r) := only_setCell (World.grownBy.refl _ _) (.inl rfl) _
  by_cases hn1 : n < 1
  · go_enter Tryd.func16, Tryd.ntmps16
    go_wp2_with fail
    go_ret
    exact ⟨0, rfl, by omega, fun _ => rfl, hst, hg⟩
  · by_cases hl : bs.length = 0
    · have hq : ((bs.length : Int) == 0) = true := by simp [hl]
      have hl' := hide hl
      clear hl
      go_enter Tryd.func16, Tryd.ntmps16
      go_wp2_with fail
      go_ret
      exact ⟨0, rfl, fun h => by simp; omega, fun _ => rfl, hst, hg⟩
    · have hq : ((bs.length : Int) == 0) = false := beq_eq_false_iff_ne.2 (by omega)
      by_cases hk : p < bs.length
      · obtain ⟨b, off, rfl, h5, h6, h7, h8, h9⟩ := h4 p hk
        generalize bs[p] = x at *
        have h5' : (w.setCell ⟨r, 1, none⟩ (.int .i64 (p + 1 : Nat))).cell? ⟨b, off + p, none⟩ = some (.int .u8 x) := (World.cell?_of_block (w := w) (a := ⟨b, off + p, none⟩) (Below.heap_setCell w _ _ b h8)).trans h5
        go_enter Tryd.func16, Tryd.ntmps16
        go_wp2_with fail
        go_ret
        refine ⟨(x % n).toNat, ?_, fun h => ?_, fun h => (by omega), hst, hg⟩
        · rw [Int.toNat_of_nonneg (Int.emod_nonneg _ (by omega))]; rfl
        · rw [Int.toNat_of_nonneg (Int.emod_nonneg _ (by omega))]; exact Int.emod_lt_of_pos _ (by omega)
      · have hlp : 0 < bs.length := by omega
        have hj1 := Nat.mod_lt p hlp
        have t1 : (p : Int).tmod (bs.length : Int) = ((p % bs.length : Nat) : Int) := by rw [Int.tmod_eq_emod_of_nonneg (by omega)]; rfl
        generalize p % bs.length = j1 at hj1 t1
        have t2 : IntKind.i64.wrap ((p : Int) * 7) = ((p * 7 : Nat) : Int) := by rw [IntWalk.i64_in _ (by omega)]; omega
        obtain ⟨q7, hq7⟩ : ∃ q7, p * 7 = q7 := ⟨_, rfl⟩
        rw [hq7] at t2
        have t3 : IntKind.i64.wrap ((q7 : Int) + 3) = ((q7 + 3 : Nat) : Int) := by rw [IntWalk.i64_in _ (by omega)]; omega
        obtain ⟨q8, hq8⟩ : ∃ q8, q7 + 3 = q8 := ⟨_, rfl⟩
        rw [hq8] at t3
        have hj2 := Nat.mod_lt q8 hlp
        have t4 : (q8 : Int).tmod (bs.length : Int) = ((q8 % bs.length : Nat) : Int) := by rw [Int.tmod_eq_emod_of_nonneg (by omega)]; rfl
        generalize q8 % bs.length = j2 at hj2 t4
        obtain ⟨ba, offa, rfl, a5, a6, a7, a8, a9⟩ := h4 j1 hj1
        obtain ⟨bb, offb, hA, c5, c6, c7, c8, c9⟩ := h4 j2 hj2
        injection hA with hA
        injection hA with hA1 hA2
        subst hA1 hA2
        generalize bs[j1] = x1 at *
        generalize bs[j2] = x2 at *
        have a5' : (w.setCell ⟨r, 1, none⟩ (.int .i64 (p + 1 : Nat))).cell? ⟨ba, offa + j1, none⟩ = some (.int .u8 x1) := (World.cell?_of_block (w := w) (a := ⟨ba, offa + j1, none⟩) (Below.heap_setCell w _ _ ba a8)).trans a5
        have c5' : (w.setCell ⟨r, 1, none⟩ (.int .i64 (p + 1 : Nat))).cell? ⟨ba, offa + j2, none⟩ = some (.int .u8 x2) := (World.cell?_of_block (w := w) (a := ⟨ba, offa + j2, none⟩) (Below.heap_setCell w _ _ ba a8)).trans c5
        have hdv := Nat.div_le_self p bs.length
        have t10 : (p : Int).tdiv (bs.length : Int) = ((p / bs.length : Nat) : Int) := by rw [Int.tdiv_eq_ediv_of_nonneg (by omega)]; rfl
        generalize p / bs.length = dv at hdv t10
        obtain ⟨hX, hX0, hX1⟩ := mix_sum x1 x2 p dv a6 a7 c6 c7 hp hdv
        obtain ⟨m8, hm8⟩ : ∃ m8 : Nat, x1 * 131 + x2 * 1117 + (p : Int) * 29 + (dv : Int) * 53 = (m8 : Int) := ⟨(x1 * 131 + x2 * 1117 + (p : Int) * 29 + (dv : Int) * 53).toNat, (Int.toNat_of_nonneg hX0).symm⟩
        rw [hm8] at hX hX0 hX1
        have hb8 : m8 ≤ 200000000000 := Int.ofNat_le.1 hX1
        clear hX0 hX1
        have t14 : wrap64 ((m8 : Int) / 64) = (m8 : Int) / 64 := div_wrap m8 hb8
        have hb9 : m8 / 64 ≤ m8 := Nat.div_le_self _ _
        have t13 : bits .xor .i64 (m8 : Int) ((m8 : Int) / 64) = ((m8 ^^^ (m8 / 64) : Nat) : Int) := by
          have := i64_xor_nat m8 (m8 / 64) (by omega) (by omega)
          rw [← this]; rfl
        generalize m8 ^^^ (m8 / 64) = m9 at t13
        have hX' := hide hX
        have T13 := hide t13
        have T14 := hide t14
        clear t13 t14
        clear hm8 hq8 hq7 h4 h1 hdv hX
        go_enter Tryd.func16, Tryd.ntmps16
        go_wp2_with fail
        refine name_world ?_
        intro wx hwx
        have r0 : wx.cell? ⟨r, 0, none⟩ = some (.slice (some ⟨ba, offa, none⟩) bs.length c) := by rw [hwx]; exact b2
        have r1 : wx.cell? ⟨ba, offa + j1, none⟩ = some (.int .u8 x1) := by rw [hwx]; exact a5'
        have r2 : wx.cell? ⟨ba, offa + j2, none⟩ = some (.int .u8 x2) := by rw [hwx]; exact c5'
        have hgx : w.grownBy wx (some r) := by rw [hwx]; exact hg
        have hsx : Rdr B wx r (p + 1) := by rw [hwx]; exact hst
        replace r0 := rule_of r0
        replace r1 := rule_of r1
        replace r2 := rule_of r2
        clear hwx hg hst a5' c5' b2 b3
        refine wp_region_firstY (fun w' => Below wx.heap.size wx w') [0, 1, 2, 3, 4, 5, 6, 7, 8, 9, 10, 11, 12, 13, 14, 15, 16, 17, 18, 19, 20, 21, 22, 23, 24, 25, 26, 27, 28, 29, 30, 31, 32, 33, 34, 35, 36, 37, 38, 39, 40, 41, 42, 43, 44, 45] [] [] [_, _, _, _, _, _, _, _, _, _, _, _, _, _, _, _, _, _, _, _, _, _, _, _, _, _, _, _, _, _, _, _, _, _, _, _, _, _, _, _, _, _, _, _, _, _] [] [] (by kernel_rfl) (by kernel_rfl) rfl rfl rfl (fun _ _ d _ _ h => by cases d <;> exact h) (Below.refl _ _).drew ?_
        repeat (first | ((refine takeY_skip (a' := ?_) ?_ ?_ ?_); (rotate_left); (· (simp [Region.wanted, yielded]; done)); (· (simp only [List.getElem_toArray, List.getElem_cons_zero, List.getElem_cons_succ, Act.put, List.setIfInBounds_toArray, List.set_cons_zero, List.set_cons_succ]; exact rfl))) | ((refine takeY_step (v := ?_) (a' := ?_) ?_ ?_ ?_ ?_); (rotate_left 2); (· (simp [Region.wanted, yielded]; done)); (· (intro w' hS'; go_simp; try (with_reducible rfl))); (· (simp only [List.getElem_toArray, List.getElem_cons_zero, List.getElem_cons_succ, Act.put, List.setIfInBounds_toArray, List.set_cons_zero, List.set_cons_succ]; exact rfl))))
        refine takeY_nil (then_nil ?_)
        have hX := hX'.out
        go_wp2_with fail
        go_ret
        refine ⟨(m9 % n.toNat : Nat), ?_, fun h => ?_, fun h => (by omega), hsx, only_drew hgx⟩
        · have hc : ((m9 % n.toNat : Nat) : Int) = (m9 : Int) % n := by
            rw [Int.natCast_emod, Int.toNat_of_nonneg (by omega)]
          rw [hc]
          show Ending.returned (.int .i64 ((bits .xor .i64 (m8 : Int) (wrap64 ((m8 : Int) / 64))).tmod n)) = _
          rw [T14.out, T13.out, Int.tmod_eq_emod_of_nonneg (by omega)]
        · have h5 := Nat.mod_lt m9 (show 0 < n.toNat by omega)
          omega

/-- bytes that can be read -/
def RdY (w : World) (A : Option Addr) (bs : List Int) : Prop := ∀ j (hj : j < bs.length), ∃ b off, A = some ⟨b, off, none⟩ ∧ w.cell? ⟨b, off + j, none⟩ = some (.int .u8 bs[j]) ∧ 0 ≤ bs[j] ∧ bs[j] ≤ 255
theorem RdY.take {w : World} {A : Option Addr} {bs : List Int} (h : RdY w A bs) (n : Nat) : RdY w A (bs.take n) := fun j hj => by
  rw [List.length_take] at hj
  obtain ⟨b, off, e, h1, h2, h3⟩ := h j (by omega)
  exact ⟨b, off, e, by rw [List.getElem_take]; exact h1, by rw [List.getElem_take]; exact h2, by rw [List.getElem_take]; exact h3⟩
theorem RdY.keeps {w w' : World} {A : Option Addr} {bs : List Int} (h : RdY w A bs) (hk : Keeps w w') : RdY w' A bs := fun j hj => by
  obtain ⟨b, off, e, h1, h2, h3⟩ := h j hj
  exact ⟨b, off, e, hk _ _ h1, h2, h3⟩
theorem Rdr.new {w : World} {A : Option Addr} {bs : List Int} {c : Nat} {t : TypeId} (h : RdY w A bs) (hl : bs.length ≤ 2000) : Rdr (w.heap.size + 1) (w.alloc (.cells #[.slice A bs.length c, .int .i64 0] t)) w.heap.size 0 :=
  ⟨A, bs, c, Blk.new_ _ _ _ rfl, hl, by omega, fun j hj => by
    obtain ⟨b, off, e, h1, h2, h3⟩ := h j hj
    have hb := World.block_lt_of_cell? _ _ h1
    have hb : b < w.heap.size := hb
    exact ⟨b, off, e, Keeps.alloc _ _ _ _ h1, h2, h3, by omega, by omega⟩⟩
/-- an open reader -/
def Opened (w : World) (e : Ending) (w' : World) : Prop := ∃ r, e = .returned (.pointer (some ⟨r, 0, none⟩)) ∧ w.heap.size ≤ r ∧ r < w'.heap.size ∧ Rdr w'.heap.size w' r 0 ∧ Below w.heap.size w w'
theorem Rdr.mono {B B' : Nat} {w : World} {r p : Nat} (h : Rdr B w r p) (hB : B ≤ B') : Rdr B' w r p := by
  obtain ⟨A, bs, c, h1, h2, h3, h4⟩ := h
  exact ⟨A, bs, c, h1, h2, by omega, fun j hj => by obtain ⟨b, off, e, h5, h6, h7, h8, h9⟩ := h4 j hj; exact ⟨b, off, e, h5, h6, h7, h8, by omega⟩⟩
set_option maxHeartbeats 2000000 in
set_option maxRecDepth 100000 in
theorem open_any (bs : List Int) (A : Option Addr) (c : Nat) (w : World) (hl : bs.length ≤ 9223372036854775807) (hc : bs.length ≤ c) (hr : RdY w A bs) : Calls Tryd.prog 14 #[.slice A bs.length c] w (Opened w) := by
  by_cases h2 : bs.length ≤ 2000
  · go_enter Tryd.func14, Tryd.ntmps14
    go_wp2_with fail
    go_ret
    exact ⟨w.heap.size, rfl, Nat.le_refl _, by simp, by simpa using Rdr.new hr h2, (Below.refl _ _).alloc (Nat.le_refl _) _⟩
  · have hr2 := hr.take 2000
    have hl2 : (bs.take 2000).length = 2000 := by rw [List.length_take]; omega
    have hc2 : 2000 ≤ c := by omega
    generalize bs.take 2000 = bs2 at hr2 hl2
    have hl2' := hide hl2
    clear hl2
    go_enter Tryd.func14, Tryd.ntmps14
    go_wp2_with fail
    go_ret
    refine ⟨w.heap.size, rfl, Nat.le_refl _, by simp, ?_, (Below.refl _ _).alloc (Nat.le_refl _) _⟩
    have := Rdr.new (c := c) (t := 45) hr2 (by have := hl2'.out; omega)
    rw [hl2'.out] at this
    simpa using this
end Go.Proofs.YtjpgdfndlmipcaaDoor

namespace Go.Proofs.YtjpgdfndlmipcaaDoor
open Go.RowKit
set_option linter.unusedSimpArgs false
set_option linter.unusedVariables false

theorem Blk.three {w : World} {g : Nat} {x y z : Value} (h : Blk w g #[x, y, z]) : w.cell? ⟨g, 0, none⟩ = some x ∧ w.cell? ⟨g, 1, none⟩ = some y ∧ w.cell? ⟨g, 2, none⟩ = some z :=
  ⟨h.at_ (i := 0) rfl, h.at_ (i := 1) rfl, h.at_ (i := 2) rfl⟩
end Go.Proofs.YtjpgdfndlmipcaaDoor

namespace Go.Proofs.YtjpgdfndlmipcaaDoor
open Go.RowKit
set_option linter.unusedSimpArgs false
set_option linter.unusedVariables false

def intc (xs : List Int) : Array Value := (xs.map (Value.int .i64)).toArray
theorem intc_get {xs : List Int} {j : Nat} (h : j < xs.length) : (intc xs)[j]? = some (.int .i64 xs[j]) := by simp [intc, List.getElem?_eq_getElem h]

/-- what the draw of an element gives -/
def Drawn (B : Nat) (w : World) (r p : Nat) (xs : List Int) (e : Ending) (w' : World) : Prop :=
  ∃ x, x ∈ xs ∧ e = .returned (.int .i64 x) ∧ Rdr B w' r (p + 1) ∧ w.grownBy w' (some r)

set_option maxHeartbeats 2000000 in
set_option maxRecDepth 100000 in
theorem num_any (xs : List Int) (B r p g : Nat) (w : World) (hx : 0 < xs.length) (hx2 : xs.length ≤ 1000) (hp : p ≤ 1000000000) (hB : B ≤ w.heap.size) (hr : Rdr B w r p) (hL : Blk w g (intc xs)) (hg : r ≠ g) :
    Calls Tryd.prog 27 #[.pointer (some ⟨r, 0, none⟩), .slice (some ⟨g, 0, none⟩) xs.length xs.length] w (Drawn B w r p xs) := by
  go_enter Tryd.func27, Tryd.ntmps27
  go_wp2_with (go_at_call 16; refine (pick_any B r p xs.length _ hp (by omega) hB hr).mono ?_; rintro e w1 ⟨m, rfl, hm, hm0, hr1, hg1⟩; have hm := hm (by omega); clear hm0; have hm' : m < xs.length := (by omega); have hc : w1.cell? ⟨g, m, none⟩ = some (.int .i64 xs[m]) := (hL.grown hg1 (by simpa using hg.symm)).at_ (intc_get hm'))
  go_ret
  exact ⟨xs[m], List.getElem_mem hm', rfl, hr1, hg1⟩
end Go.Proofs.YtjpgdfndlmipcaaDoor

namespace Go.Proofs.YtjpgdfndlmipcaaDoor
open Go.RowKit
set_option linter.unusedSimpArgs false
set_option linter.unusedVariables false

/-- a count that stops early -/
def CountR (m : Nat) (most r : Int) : Prop := 1 ≤ r ∧ r ≤ m ∧ (r = m ∨ most < r)
def CountPost (m : Nat) (most : Int) (w : World) (e : Ending) (w' : World) : Prop := ∃ r : Int, e = .returned (.int .i64 r) ∧ CountR m most r ∧ Below w.heap.size w w'

theorem sizes_take (ks : List Tm) (j : Nat) (hj : j < ks.length) : sizes (ks.take (j + 1)) = sizes (ks.take j) + ks[j].size := by
  rw [List.take_succ_eq_append_getElem hj, sizes_append]; simp [sizes]
theorem sizes_take_le (ks : List Tm) (j : Nat) : sizes (ks.take j) ≤ sizes ks := by
  have := sizes_append (ks.take j) (ks.drop j); rw [List.take_append_drop] at this; omega

set_option maxRecDepth 100000 in
set_option maxHeartbeats 1000000 in
theorem l1Count_any (N : Nat) : ∀ (k n : Int) (ks : List Tm) (A : Option Addr) (c : Nat) (most : Int) (w : World), sizes ks < N → sizes ks ≤ 1099511627776 → -1099511627776 ≤ most → most ≤ 1099511627776 → Rd w A 0 ks →
    Calls Tryd.prog 68 #[.agg #[.int .i64 k, .int .i64 n, .slice A ks.length c], .int .i64 most] w (CountPost (sizes ks + 1) most w) := by
  induction N with
  | zero => intro k n ks A c most w hN; exact absurd hN (Nat.not_lt_zero _)
  | succ N ih =>
  intro k n ks A c most w hN hM hlo hhi hr
  have hlen := length_le_sizes ks
  go_enter Tryd.func68, Tryd.ntmps68
  go_wp2_with fail
  go_loopw [5, 6] (fun a i wr => ∃ (j : Nat) (acc : Int), j ≤ ks.length ∧ i = .int .i64 j ∧ a = .int .i64 acc ∧ 1 ≤ acc ∧ acc ≤ 1 + sizes (ks.take j) ∧ Hid (acc = 1 + sizes (ks.take j) ∨ most < acc) ∧ Blk wr w.heap.size #[.int .i64 k, .int .i64 n, .slice A ks.length c] ∧ Below w.heap.size w wr)
    (fun _ i _ => ks.length - (intOf i).toNat)
  case atStart => exact ⟨0, 1, Nat.zero_le _, rfl, rfl, by omega, by simp [sizes], hide (by simp [sizes]), Blk.new _ _ _, (Below.refl _ _).alloc (Nat.le_refl _) _⟩
  case round =>
    obtain ⟨j, acc, hj, rfl, rfl, ha1, ha2, ha3, hB, hb⟩ := hrel
    have c2 := hB.at_ (i := 2) rfl
    have hsl := sizes_take_le ks j
    by_cases hlt : j < ks.length
    · by_cases hm : acc ≤ most
      · obtain ⟨b, off, k1, n1, ks1, A1, c1, rfl, hkj, hc1, hc2, hc3, hl1, hr1⟩ := (hr.below hb).at_ hlt
        have hst := sizes_take ks j hlt
        have hsz := sizes_le (List.getElem_mem hlt)
        rw [hkj] at hsz hst
        simp only [Tm.size] at hsz hst
        have H3 := hide hst
        clear hkj hst
        go_wp2_with (go_at_call 68; refine (ih k1 n1 ks1 A1 c1 _ _ (by omega) (by omega) (by omega) (by omega) hr1).mono ?_; rintro e w3 ⟨r, rfl, ⟨hr1, hr2, hr3⟩, hb3⟩; have hr3' := hide hr3; clear hr3)
        go_roundw
        case rel =>
          refine ⟨j + 1, acc + r, by omega, by go_num, rfl, by omega, by rw [H3.out]; have := ha3.out; omega, hide ?_, hB.keep hb3, hb.trans (hb3.mono hb.size)⟩
          rw [H3.out]
          have h1 := ha3.out
          have h2 := hr3'.out
          omega
        case measure => simp [intOf]; omega
      · go_wp2_with fail
        go_ret
        exact ⟨acc, rfl, ⟨ha1, by omega, Or.inr (by omega)⟩, hb⟩
    · go_wp2_with fail
      go_ret
      have h1 := ha3.out
      have hjl : j = ks.length := by omega
      rw [hjl, List.take_length] at h1 ha2
      exact ⟨acc, rfl, ⟨ha1, by omega, by omega⟩, hb⟩

/-- a valid term -/
def validT (t : Tm) : Bool := shape 30 t && decide (t.size ≤ 400)

set_option maxRecDepth 100000 in
set_option maxHeartbeats 1000000 in
theorem sTermValid_any (k n : Int) (ks : List Tm) (A : Option Addr) (c : Nat) (w : World) (hM : sizes ks ≤ 1099511627775) (hr : Rd w A 0 ks) :
    Calls Tryd.prog 51 #[.agg #[.int .i64 k, .int .i64 n, .slice A ks.length c]] w fun e w' => e = .returned (.bool (validT (.mk k n ks))) ∧ Below w.heap.size w w' := by
  have hlen := length_le_sizes ks
  cases hs : shape 30 (.mk k n ks) with
  | false =>
    have hv : validT (.mk k n ks) = false := by simp [validT, hs]
    rw [hv]
    go_enter Tryd.func51, Tryd.ntmps51
    go_wp2_with (go_at_call 67; refine (l1Shape_any 30 k n ks A c _ (by omega) (by omega) (hr.alloc _)).mono ?_; rintro e w1 ⟨rfl, hb1⟩; obtain ⟨hc, hf⟩ := bcell hb1)
    go_ret
    exact ⟨rfl, ((Below.refl _ _).alloc (Nat.le_refl _) _).trans (hb1.mono (by simp))⟩
  | true =>
    have hv : validT (.mk k n ks) = decide (sizes ks + 1 ≤ 400) := by simp [validT, hs, Tm.size]
    rw [hv]
    go_enter Tryd.func51, Tryd.ntmps51
    go_wp2_with (first | (go_at_call 67; refine (l1Shape_any 30 k n ks A c _ (by omega) (by omega) (hr.alloc _)).mono ?_; rintro e w1 ⟨rfl, hb1⟩; obtain ⟨hc, hf⟩ := bcell hb1) | (go_at_call 68; refine (l1Count_any (sizes ks + 1) k n ks A c 400 _ (by omega) (by omega) (by omega) (by omega) ((hr.alloc _).below hb1)).mono ?_; rintro e w2 ⟨r, rfl, ⟨hr1, hr2, hr3⟩, hb2⟩; have hr3' := hide hr3; clear hr3))
    go_ret
    have h3 := hr3'.out
    exact ⟨ret_bool (by rw [decide_eq_decide]; omega), ((Below.refl _ _).alloc (Nat.le_refl _) _).trans ((hb1.trans (hb2.mono hb1.size)).mono (by simp))⟩
end Go.Proofs.YtjpgdfndlmipcaaDoor

namespace Go.Proofs.YtjpgdfndlmipcaaDoor
open Go.RowKit
set_option linter.unusedSimpArgs false
set_option linter.unusedVariables false

end Go.Proofs.YtjpgdfndlmipcaaDoor

namespace Go.Proofs.YtjpgdfndlmipcaaDoor
open Go.RowKit
set_option linter.unusedSimpArgs false
set_option linter.unusedVariables false

/-- how many numbers are asked for at most, and how large the term is at most, by the depth -/
def KD : Nat → Nat | 0 => 3 | d + 1 => 3 + 4 * KD d
def SD : Nat → Nat | 0 => 1 | d + 1 => 1 + 4 * SD d
theorem arity_le (k : Int) : arity k ≤ 4 ∧ -1 ≤ arity k := by unfold arity; repeat' split
                                                              all_goals omega
/-- a term that has been drawn -/
def DrawnT (B : Nat) (w : World) (r p q s : Nat) (e : Ending) (w' : World) : Prop :=
  ∃ (k n : Int) (ks : List Tm) (A : Option Addr) (c p' : Nat), e = .returned (.agg #[.int .i64 k, .int .i64 n, .slice A ks.length c]) ∧ ks.length ≤ 9223372036854775807 ∧ sizes ks + 1 ≤ s ∧ p' ≤ p + q ∧ Fresh w.heap.size w' A ks ∧ Rdr B w' r p' ∧ w.grownBy w' (some r)
def DrawOk (d : Nat) : Prop := ∀ (B r p : Nat) (w : World), p + KD d ≤ 1000000000 → B ≤ w.heap.size → Rdr B w r p →
  Calls Tryd.prog 50 #[.pointer (some ⟨r, 0, none⟩), .int .i64 d] w (DrawnT B w r p (KD d) (SD d))
theorem Rdr.lt {B r p : Nat} {w : World} (h : Rdr B w r p) : r < B := by obtain ⟨_, _, _, _, _, h, _⟩ := h; exact h
theorem Rdr.alloc' {B r p : Nat} {w : World} (h : Rdr B w r p) (hB : B ≤ w.heap.size) (o : Obj) : Rdr B (w.alloc o) r p := h.alloc hB o

theorem kd_ge (d : Nat) : 3 ≤ KD d := by cases d <;> simp [KD]
theorem kd_big (d : Nat) : d ≤ KD d := by
  induction d with
  | zero => simp [KD]
  | succ d ih => rw [KD]; omega
theorem sd_pos (d : Nat) : 1 ≤ SD d := by cases d <;> simp [SD]
theorem low_kinds {x : Int} (h : x ∈ ([1, 7, 6, 2, 1] : List Int)) : arity x = 0 := by
  simp only [List.mem_cons, List.not_mem_nil, or_false] at h
  rcases h with rfl | rfl | rfl | rfl | rfl <;> decide
theorem high_kinds {x : Int} (h : x ∈ ([1, 5, 4, 8, 9, 3, 6, 7, 11, 15, 14, 10, 12, 13, 16, 2] : List Int)) : 0 ≤ arity x := by
  simp only [List.mem_cons, List.not_mem_nil, or_false] at h
  rcases h with rfl | rfl | rfl | rfl | rfl | rfl | rfl | rfl | rfl | rfl | rfl | rfl | rfl | rfl | rfl | rfl <;> decide
set_option maxHeartbeats 4000000 in
set_option maxRecDepth 100000 in
theorem draw_low (d : Nat) (hd : d < 2) : DrawOk d := by
  intro B r p w hp hB hr
  have hrl := hr.lt
  have hkd := kd_ge d
  have hsd := sd_pos d
  have hd2 : (d : Int) < 2 := by omega
  go_enter Tryd.func50, Tryd.ntmps50
  go_wp2_with (first | (go_at_call 27; refine (num_any [0, 1, 0, 2, 1, 3] B r (p + 1 + 1) (w2.heap.size + 1) _ (by decide) (by decide) (by omega) (by simp; omega) ((hr2.alloc (by omega) _).alloc (by simp; omega) _) (Blk.new_ _ 3 _ (by simp)) (by omega)).mono ?_; rintro e w3 ⟨nn, hn, rfl, hr3, hg3⟩; have hB63 : Blk w3 w2.heap.size #[.int .i64 x, .int .i64 0, .slice none 0 0] := ((Blk.new_ w2 48 #[.int .i64 x, .int .i64 0, .slice none 0 0] rfl).alloc _).grown hg3 (by simp; omega); have hZ3 := ((hZ2.alloc _).alloc _).grown hg3 (by simp; omega); have g3 : w.grownBy w3 (some r) := grown_trans (only_alloc (only_alloc g2 _) _) hg3; have s3 : w2.heap.size + 1 + 1 ≤ w3.heap.size := (by have := hg3.size; simpa using this); have c1 := hB63.at_ (i := 1) rfl; have f1 := hB63.frozen 1) | (go_at_call 65; refine (l1Most_any _ _).mono ?_; rintro e w9 ⟨rfl, rfl⟩) | (go_at_call 27; refine (num_any [1, 7, 6, 2, 1] B r (p + 1) w1.heap.size _ (by decide) (by decide) (by omega) (by simp; omega) (hr1.alloc (by omega) _) (Blk.new_ _ 3 _ rfl) (by omega)).mono ?_; rintro e w2 ⟨x, hx, rfl, hr2, hg2⟩; have hax := low_kinds hx; have hZ2 := (hZ1.alloc _).grown hg2 (by simp; omega); have g2 : w.grownBy w2 (some r) := grown_trans (only_alloc g1 _) hg2; have s2 : w1.heap.size + 1 ≤ w2.heap.size := (by have := hg2.size; simpa using this)) | (go_at_call 27; refine (num_any [1, 5, 4, 8, 9, 3, 6, 7, 11, 15, 14, 10, 12, 13, 16, 2] B r p (w.heap.size + 1) _ (by decide) (by decide) (by omega) (by simp; omega) ((hr.alloc (by omega) _).alloc (by simp; omega) _) (Blk.new_ _ 3 _ (by simp)) (by omega)).mono ?_; rintro e w1 ⟨x0, hx0, rfl, hr1, hg1⟩; have hax0 := high_kinds hx0; have hZ1 : Blk w1 w.heap.size #[.int .i64 0, .int .i64 0, .slice none 0 0] := (((Blk.new_ w 48 #[.int .i64 0, .int .i64 0, .slice none 0 0] rfl).alloc _)).grown hg1 (by simp; omega); have g1 : w.grownBy w1 (some r) := grown_trans (only_alloc (only_alloc (World.grownBy.refl _ _) _) _) hg1; have s1 : w.heap.size + 1 + 1 ≤ w1.heap.size := (by have := hg1.size; simpa using this)))
  · refine name_world ?_
    intro wz hwz
    have hB6 : Blk wz w2.heap.size #[.int .i64 x, .int .i64 nn, .slice none 0 0] := by rw [hwz]; exact hB63.set_ 1 _
    have hZ : Blk wz w.heap.size #[.int .i64 0, .int .i64 0, .slice none 0 0] := by rw [hwz]; exact hZ3.far (by simp; omega) _
    have hRz : Rdr B wz r (p + 1 + 1 + 1) := by rw [hwz]; exact hr3.setCell (by simp; omega) _
    have hgz : w.grownBy wz (some r) := by rw [hwz]; exact only_setCell g3 (.inr (by simp; omega)) _
    have hs6 : w2.heap.size < wz.heap.size := hB6.lt
    clear hwz
    go_loopw [7] (fun i wr => ∃ (j p' : Nat) (ts : List Tm) (v : Value), (j : Int) ≤ arity x ∧ i = .int .i64 j ∧ ts.length = j ∧ sizes ts ≤ j * 0 ∧ p' ≤ p + 3 + j * 0 ∧ Part (w2.heap.size + 1) wr v ts ∧ Blk wr w2.heap.size #[.int .i64 x, .int .i64 nn, v] ∧ Blk wr w.heap.size #[.int .i64 0, .int .i64 0, .slice none 0 0] ∧ Rdr B wr r p' ∧ w.grownBy wr (some r)) (fun i _ => (arity x - intOf i).toNat)
    case atStart => exact ⟨0, _, [], _, by omega, rfl, rfl, by simp [sizes], by omega, Part.nil, hB6, hZ, hRz, hgz⟩
    case round =>
      obtain ⟨j, p', ts, v, hj, rfl, htl0, hts, hp', hpt, hB3, hZr, hRr, hgr⟩ := hrel
      have htl := hide htl0
      clear htl0
      by_cases hlt : (j : Int) < arity x
      · exact absurd hlt (by omega)
      · have hje : (j : Int) = arity x := by omega
        obtain ⟨Ar, cr, rfl, hfr⟩ := hpt.fresh
        obtain ⟨c0, c1, c2⟩ := hB3.three
        obtain ⟨z0, z1, z2⟩ := hZr.three
        have e0 := hZr.frozen 0
        have e1 := hZr.frozen 1
        have e2 := hZr.frozen 2
        have hw0 : w.heap.size < wr.heap.size := hZr.lt
        have hne : r ≠ w.heap.size := by omega
        have hj4 : j ≤ 4 := by have := arity_le x; omega
        have hfin : Hid (sizes ts + 1 ≤ SD d ∧ p' ≤ p + KD d) := ⟨by omega, by omega⟩
        go_wp2_with (go_at_call 66; refine (l1Kids_any _ _).mono ?_; rintro e w9 ⟨rfl, rfl⟩)
        refine bodyPost_ret (v := .agg #[.int .i64 x, .int .i64 nn, .slice Ar ts.length cr]) (by simp [results, Tryd.results50, go_sem, z0, z1, z2]) rfl ⟨x, nn, ts, Ar, cr, p', rfl, by have := htl.out; omega, hfin.out.1, hfin.out.2, ?_, ?_, ?_⟩
        · exact (((hfr.setCell (by simp; omega) _).setCell (by simp; omega) _).setCell (by simp; omega) _).mono (by omega)
        · exact ((hRr.setCell (by simp; omega) _).setCell (by simp; omega) _).setCell (by simp; omega) _
        · exact only_setCell (only_setCell (only_setCell hgr (.inr (by simp)) _) (.inr (by simp)) _) (.inr (by simp)) _
  · refine name_world ?_
    intro wz hwz
    have hB6 : Blk wz w2.heap.size #[.int .i64 x, .int .i64 0, .slice none 0 0] := by rw [hwz]; exact Blk.new_ _ _ _ rfl
    have hZ : Blk wz w.heap.size #[.int .i64 0, .int .i64 0, .slice none 0 0] := by rw [hwz]; exact hZ2.alloc _
    have hRz : Rdr B wz r (p + 1 + 1) := by rw [hwz]; exact hr2.alloc (by omega) _
    have hgz : w.grownBy wz (some r) := by rw [hwz]; exact only_alloc g2 _
    have hs6 : w2.heap.size < wz.heap.size := hB6.lt
    clear hwz
    go_loopw [7] (fun i wr => ∃ (j p' : Nat) (ts : List Tm) (v : Value), (j : Int) ≤ arity x ∧ i = .int .i64 j ∧ ts.length = j ∧ sizes ts ≤ j * 0 ∧ p' ≤ p + 3 + j * 0 ∧ Part (w2.heap.size + 1) wr v ts ∧ Blk wr w2.heap.size #[.int .i64 x, .int .i64 0, v] ∧ Blk wr w.heap.size #[.int .i64 0, .int .i64 0, .slice none 0 0] ∧ Rdr B wr r p' ∧ w.grownBy wr (some r)) (fun i _ => (arity x - intOf i).toNat)
    case atStart => exact ⟨0, _, [], _, by omega, rfl, rfl, by simp [sizes], by omega, Part.nil, hB6, hZ, hRz, hgz⟩
    case round =>
      obtain ⟨j, p', ts, v, hj, rfl, htl0, hts, hp', hpt, hB3, hZr, hRr, hgr⟩ := hrel
      have htl := hide htl0
      clear htl0
      by_cases hlt : (j : Int) < arity x
      · exact absurd hlt (by omega)
      · have hje : (j : Int) = arity x := by omega
        obtain ⟨Ar, cr, rfl, hfr⟩ := hpt.fresh
        obtain ⟨c0, c1, c2⟩ := hB3.three
        obtain ⟨z0, z1, z2⟩ := hZr.three
        have e0 := hZr.frozen 0
        have e1 := hZr.frozen 1
        have e2 := hZr.frozen 2
        have hw0 : w.heap.size < wr.heap.size := hZr.lt
        have hne : r ≠ w.heap.size := by omega
        have hj4 : j ≤ 4 := by have := arity_le x; omega
        have hfin : Hid (sizes ts + 1 ≤ SD d ∧ p' ≤ p + KD d) := ⟨by omega, by omega⟩
        go_wp2_with (go_at_call 66; refine (l1Kids_any _ _).mono ?_; rintro e w9 ⟨rfl, rfl⟩)
        refine bodyPost_ret (v := .agg #[.int .i64 x, .int .i64 0, .slice Ar ts.length cr]) (by simp [results, Tryd.results50, go_sem, z0, z1, z2]) rfl ⟨x, 0, ts, Ar, cr, p', rfl, by have := htl.out; omega, hfin.out.1, hfin.out.2, ?_, ?_, ?_⟩
        · exact (((hfr.setCell (by simp; omega) _).setCell (by simp; omega) _).setCell (by simp; omega) _).mono (by omega)
        · exact ((hRr.setCell (by simp; omega) _).setCell (by simp; omega) _).setCell (by simp; omega) _
        · exact only_setCell (only_setCell (only_setCell hgr (.inr (by simp)) _) (.inr (by simp)) _) (.inr (by simp)) _

set_option maxHeartbeats 4000000 in
set_option maxRecDepth 100000 in
theorem draw_high (d : Nat) (hd : 1 ≤ d) (ih : DrawOk d) : DrawOk (d + 1) := by
  intro B r p w hp hB hr
  have ihx : ∀ (B r p : Nat) (w : World), p + KD d ≤ 1000000000 → B ≤ w.heap.size → Rdr B w r p → Calls Tryd.prog 50 #[.pointer (some ⟨r, 0, none⟩), .int .i64 d] w (DrawnT B w r p (KD d) (SD d)) := ih
  have hrl := hr.lt
  have hkd := kd_ge d
  have hkd1 : KD (d + 1) = 3 + 4 * KD d := rfl
  have hkd2 := hide hkd1
  rw [hkd1] at hp
  clear hkd1
  have hd2 : ¬ ((d : Int) + 1 < 2) := by omega
  have hd3 : d ≤ KD d := kd_big d
  have k1 : IntKind.i64.wrap ((d : Int) + 1 - 1) = d := by rw [IntWalk.i64_in _ (by omega)]; omega
  have k2 : IntKind.i64.wrap (d : Int) = d := IntWalk.i64_in _ (by omega)
  have k3 : wrap64 ((d : Int) + 1 - 1) = d := by rw [IntWalk.wrap64_in _ (by omega)]; omega
  have k4 : wrap64 (d : Int) = d := IntWalk.wrap64_in _ (by omega)
  go_enter Tryd.func50, Tryd.ntmps50
  go_wp2_with (first | (go_at_call 27; refine (num_any [0, 1, 0, 2, 1, 3] B r (p + 1) (w1.heap.size + 1) _ (by decide) (by decide) (by omega) (by simp; omega) ((hr1.alloc (by omega) _).alloc (by simp; omega) _) (Blk.new_ _ 3 _ (by simp)) (by omega)).mono ?_; rintro e w3 ⟨nn, hn, rfl, hr3, hg3⟩; have hB63 : Blk w3 w1.heap.size #[.int .i64 x, .int .i64 0, .slice none 0 0] := ((Blk.new_ w1 48 #[.int .i64 x, .int .i64 0, .slice none 0 0] rfl).alloc _).grown hg3 (by simp; omega); have hZ3 := ((hZ1.alloc _).alloc _).grown hg3 (by simp; omega); have g3 : w.grownBy w3 (some r) := grown_trans (only_alloc (only_alloc g1 _) _) hg3; have s3 : w1.heap.size + 1 + 1 ≤ w3.heap.size := (by have := hg3.size; simpa using this); have c1 := hB63.at_ (i := 1) rfl; have f1 := hB63.frozen 1) | (go_at_call 65; refine (l1Most_any _ _).mono ?_; rintro e w9 ⟨rfl, rfl⟩) | (go_at_call 27; refine (num_any [1, 5, 4, 8, 9, 3, 6, 7, 11, 15, 14, 10, 12, 13, 16, 2] B r p (w.heap.size + 1) _ (by decide) (by decide) (by omega) (by simp; omega) ((hr.alloc (by omega) _).alloc (by simp; omega) _) (Blk.new_ _ 3 _ (by simp)) (by omega)).mono ?_; rintro e w1 ⟨x, hx0, rfl, hr1, hg1⟩; have hax0 := high_kinds hx0; have hZ1 : Blk w1 w.heap.size #[.int .i64 0, .int .i64 0, .slice none 0 0] := (((Blk.new_ w 48 #[.int .i64 0, .int .i64 0, .slice none 0 0] rfl).alloc _)).grown hg1 (by simp; omega); have g1 : w.grownBy w1 (some r) := grown_trans (only_alloc (only_alloc (World.grownBy.refl _ _) _) _) hg1; have s1 : w.heap.size + 1 + 1 ≤ w1.heap.size := (by have := hg1.size; simpa using this)))
  · refine name_world ?_
    intro wz hwz
    have hB6 : Blk wz w1.heap.size #[.int .i64 x, .int .i64 nn, .slice none 0 0] := by rw [hwz]; exact hB63.set_ 1 _
    have hZ : Blk wz w.heap.size #[.int .i64 0, .int .i64 0, .slice none 0 0] := by rw [hwz]; exact hZ3.far (by simp; omega) _
    have hRz : Rdr B wz r (p + 1 + 1) := by rw [hwz]; exact hr3.setCell (by simp; omega) _
    have hgz : w.grownBy wz (some r) := by rw [hwz]; exact only_setCell g3 (.inr (by simp; omega)) _
    have hs6 : w1.heap.size < wz.heap.size := hB6.lt
    clear hwz
    go_loopw [7] (fun i wr => ∃ (j p' : Nat) (ts : List Tm) (v : Value), (j : Int) ≤ arity x ∧ i = .int .i64 j ∧ ts.length = j ∧ sizes ts ≤ j * SD d ∧ p' ≤ p + 3 + j * KD d ∧ Part (w1.heap.size + 1) wr v ts ∧ Blk wr w1.heap.size #[.int .i64 x, .int .i64 nn, v] ∧ Blk wr w.heap.size #[.int .i64 0, .int .i64 0, .slice none 0 0] ∧ Rdr B wr r p' ∧ w.grownBy wr (some r)) (fun i _ => (arity x - intOf i).toNat)
    case atStart => exact ⟨0, _, [], _, by omega, rfl, rfl, by simp [sizes], by omega, Part.nil, hB6, hZ, hRz, hgz⟩
    case round =>
      obtain ⟨j, p', ts, v, hj, rfl, htl0, hts, hp', hpt, hB3, hZr, hRr, hgr⟩ := hrel
      have htl := hide htl0
      clear htl0
      by_cases hlt : (j : Int) < arity x
      · have hun := hide hlt
        have hj5 : j ≤ 4 := by have := arity_le x; omega
        have hB3l := hB3.lt
        have c2 := hB3.at_ (i := 2) rfl
        go_wp2_with (go_at_call 66; refine (l1Kids_any _ _).mono ?_; rintro e w9 ⟨rfl, rfl⟩)
        have x2 := hB3.ruleG (g := r) (by omega) (i := 2) rfl
        have hsr := hgr.size
        refine wp_region_firstY (fun w' => wr.grownBy w' (some r)) [0, 1, 2, 3, 4] [5, 6] [7, 8, 9] [_, _, _, _, _] [_, _] [_, _, _] (by kernel_rfl) (by kernel_rfl) rfl rfl rfl (fun _ _ d _ _ h => by cases d <;> exact h) (only_drew (World.grownBy.refl _ _)) ?_
        repeat (first | ((refine takeY_skip (a' := ?_) ?_ ?_ ?_); (rotate_left); (· (simp [Region.wanted, yielded]; done)); (· (simp only [List.getElem_toArray, List.getElem_cons_zero, List.getElem_cons_succ, Act.put, List.setIfInBounds_toArray, List.set_cons_zero, List.set_cons_succ]; exact rfl))) | ((refine takeY_step (v := ?_) (a' := ?_) ?_ ?_ ?_ ?_); (rotate_left 2); (· (simp [Region.wanted, yielded]; done)); (· (intro w' hS'; go_simp; try (with_reducible rfl))); (· (simp only [List.getElem_toArray, List.getElem_cons_zero, List.getElem_cons_succ, Act.put, List.setIfInBounds_toArray, List.set_cons_zero, List.set_cons_succ]; exact rfl))))
        refine takeY_nil (then_cons ?_)
        go_wp2_with (go_at_call 50; (with_reducible refine (ihx B r p' _ (by have := Nat.mul_le_mul_right (KD d) (show j ≤ 3 by have := arity_le x; omega); omega) (by simp; omega) hRr.drew).mono ?_); rintro e wq ⟨kq, nq, ksq, Aq, cq, pq, rfl, hlq, hsq, hqq, hfq, hRq, hgq⟩)
        have hxq : wr.grownBy wq (some r) := grown_trans (only_drew (World.grownBy.refl _ _)) hgq
        have hwq : wr.heap.size ≤ wq.heap.size := hxq.size
        refine mid_intro hxq (then_cons ?_)
        go_wp2_with fail
        refine mid_intro (only_alloc hxq _) (then_nil ?_)
        refine wpList_append_builtG (B := w1.heap.size + 1) (m := j) hpt.drew (fun b h1 h2 => hgq.block b h2 (by simp; omega)) hwq (by simp; omega) hfq hlq htl.out (by have := arity_le x; omega) rfl (.tmp 32) (.tmp 37) rfl rfl rfl ?_
        intro A2 c2' w2 hp2 hb2 hg2
        have q3 : Blk w2 w1.heap.size #[.int .i64 x, .int .i64 nn, v] := (hB3.grown hxq (by simp; omega)).below hb2 (by omega)
        have q2 : Blk w2 w.heap.size #[.int .i64 0, .int .i64 0, .slice none 0 0] := (hZr.grown hxq (by simp; omega)).below hb2 (by omega)
        have qR := hRq.below hb2 (by omega)
        have d2 : w2.cell? ⟨w1.heap.size, 2, none⟩ = some v := q3.at_ rfl
        have z3 := q3.frozen 2
        have hgf : w.grownBy w2 (some r) := only_belowB (grown_trans hgr hxq) hb2 (by omega)
        clear x2 c2
        go_wp2_with fail
        go_roundw
        case rel =>
          refine ⟨j + 1, pq, ts ++ [.mk kq nq ksq], _, by omega, by go_num, by simp [htl.out], ?_, ?_, hp2.setCell (by simp) _, q3.set_ 2 _, q2.far (by simp; omega) _, qR.setCell (by simp; omega) _, only_setCell hgf (.inr (by simp; omega)) _⟩
          · rw [sizes_append]; simp only [sizes, Tm.size]; rw [Nat.succ_mul]; omega
          · rw [Nat.succ_mul]; omega
        case measure => simp [intOf]; omega
      · have hje : (j : Int) = arity x := by omega
        obtain ⟨Ar, cr, rfl, hfr⟩ := hpt.fresh
        obtain ⟨c0, c1, c2⟩ := hB3.three
        obtain ⟨z0, z1, z2⟩ := hZr.three
        have e0 := hZr.frozen 0
        have e1 := hZr.frozen 1
        have e2 := hZr.frozen 2
        have hw0 : w.heap.size < wr.heap.size := hZr.lt
        have hne : r ≠ w.heap.size := by omega
        have hj4 : j ≤ 4 := by have := arity_le x; omega
        have hfin : Hid (sizes ts + 1 ≤ SD (d + 1) ∧ p' ≤ p + KD (d + 1)) := ⟨by rw [SD]; have := Nat.mul_le_mul_right (SD d) hj4; omega, by rw [KD]; have := Nat.mul_le_mul_right (KD d) hj4; omega⟩
        go_wp2_with (go_at_call 66; refine (l1Kids_any _ _).mono ?_; rintro e w9 ⟨rfl, rfl⟩)
        refine bodyPost_ret (v := .agg #[.int .i64 x, .int .i64 nn, .slice Ar ts.length cr]) (by simp [results, Tryd.results50, go_sem, z0, z1, z2]) rfl ⟨x, nn, ts, Ar, cr, p', rfl, by have := htl.out; omega, hfin.out.1, hfin.out.2, ?_, ?_, ?_⟩
        · exact (((hfr.setCell (by simp; omega) _).setCell (by simp; omega) _).setCell (by simp; omega) _).mono (by omega)
        · exact ((hRr.setCell (by simp; omega) _).setCell (by simp; omega) _).setCell (by simp; omega) _
        · exact only_setCell (only_setCell (only_setCell hgr (.inr (by simp)) _) (.inr (by simp)) _) (.inr (by simp)) _
  · refine name_world ?_
    intro wz hwz
    have hB6 : Blk wz w1.heap.size #[.int .i64 x, .int .i64 0, .slice none 0 0] := by rw [hwz]; exact Blk.new_ _ _ _ rfl
    have hZ : Blk wz w.heap.size #[.int .i64 0, .int .i64 0, .slice none 0 0] := by rw [hwz]; exact hZ1.alloc _
    have hRz : Rdr B wz r (p + 1) := by rw [hwz]; exact hr1.alloc (by omega) _
    have hgz : w.grownBy wz (some r) := by rw [hwz]; exact only_alloc g1 _
    have hs6 : w1.heap.size < wz.heap.size := hB6.lt
    clear hwz
    go_loopw [7] (fun i wr => ∃ (j p' : Nat) (ts : List Tm) (v : Value), (j : Int) ≤ arity x ∧ i = .int .i64 j ∧ ts.length = j ∧ sizes ts ≤ j * SD d ∧ p' ≤ p + 3 + j * KD d ∧ Part (w1.heap.size + 1) wr v ts ∧ Blk wr w1.heap.size #[.int .i64 x, .int .i64 0, v] ∧ Blk wr w.heap.size #[.int .i64 0, .int .i64 0, .slice none 0 0] ∧ Rdr B wr r p' ∧ w.grownBy wr (some r)) (fun i _ => (arity x - intOf i).toNat)
    case atStart => exact ⟨0, _, [], _, by omega, rfl, rfl, by simp [sizes], by omega, Part.nil, hB6, hZ, hRz, hgz⟩
    case round =>
      obtain ⟨j, p', ts, v, hj, rfl, htl0, hts, hp', hpt, hB3, hZr, hRr, hgr⟩ := hrel
      have htl := hide htl0
      clear htl0
      by_cases hlt : (j : Int) < arity x
      · have hun := hide hlt
        have hj5 : j ≤ 4 := by have := arity_le x; omega
        have hB3l := hB3.lt
        have c2 := hB3.at_ (i := 2) rfl
        go_wp2_with (go_at_call 66; refine (l1Kids_any _ _).mono ?_; rintro e w9 ⟨rfl, rfl⟩)
        have x2 := hB3.ruleG (g := r) (by omega) (i := 2) rfl
        have hsr := hgr.size
        refine wp_region_firstY (fun w' => wr.grownBy w' (some r)) [0, 1, 2, 3, 4] [5, 6] [7, 8, 9] [_, _, _, _, _] [_, _] [_, _, _] (by kernel_rfl) (by kernel_rfl) rfl rfl rfl (fun _ _ d _ _ h => by cases d <;> exact h) (only_drew (World.grownBy.refl _ _)) ?_
        repeat (first | ((refine takeY_skip (a' := ?_) ?_ ?_ ?_); (rotate_left); (· (simp [Region.wanted, yielded]; done)); (· (simp only [List.getElem_toArray, List.getElem_cons_zero, List.getElem_cons_succ, Act.put, List.setIfInBounds_toArray, List.set_cons_zero, List.set_cons_succ]; exact rfl))) | ((refine takeY_step (v := ?_) (a' := ?_) ?_ ?_ ?_ ?_); (rotate_left 2); (· (simp [Region.wanted, yielded]; done)); (· (intro w' hS'; go_simp; try (with_reducible rfl))); (· (simp only [List.getElem_toArray, List.getElem_cons_zero, List.getElem_cons_succ, Act.put, List.setIfInBounds_toArray, List.set_cons_zero, List.set_cons_succ]; exact rfl))))
        refine takeY_nil (then_cons ?_)
        go_wp2_with (go_at_call 50; (with_reducible refine (ihx B r p' _ (by have := Nat.mul_le_mul_right (KD d) (show j ≤ 3 by have := arity_le x; omega); omega) (by simp; omega) hRr.drew).mono ?_); rintro e wq ⟨kq, nq, ksq, Aq, cq, pq, rfl, hlq, hsq, hqq, hfq, hRq, hgq⟩)
        have hxq : wr.grownBy wq (some r) := grown_trans (only_drew (World.grownBy.refl _ _)) hgq
        have hwq : wr.heap.size ≤ wq.heap.size := hxq.size
        refine mid_intro hxq (then_cons ?_)
        go_wp2_with fail
        refine mid_intro (only_alloc hxq _) (then_nil ?_)
        refine wpList_append_builtG (B := w1.heap.size + 1) (m := j) hpt.drew (fun b h1 h2 => hgq.block b h2 (by simp; omega)) hwq (by simp; omega) hfq hlq htl.out (by have := arity_le x; omega) rfl (.tmp 32) (.tmp 37) rfl rfl rfl ?_
        intro A2 c2' w2 hp2 hb2 hg2
        have q3 : Blk w2 w1.heap.size #[.int .i64 x, .int .i64 0, v] := (hB3.grown hxq (by simp; omega)).below hb2 (by omega)
        have q2 : Blk w2 w.heap.size #[.int .i64 0, .int .i64 0, .slice none 0 0] := (hZr.grown hxq (by simp; omega)).below hb2 (by omega)
        have qR := hRq.below hb2 (by omega)
        have d2 : w2.cell? ⟨w1.heap.size, 2, none⟩ = some v := q3.at_ rfl
        have z3 := q3.frozen 2
        have hgf : w.grownBy w2 (some r) := only_belowB (grown_trans hgr hxq) hb2 (by omega)
        clear x2 c2
        go_wp2_with fail
        go_roundw
        case rel =>
          refine ⟨j + 1, pq, ts ++ [.mk kq nq ksq], _, by omega, by go_num, by simp [htl.out], ?_, ?_, hp2.setCell (by simp) _, q3.set_ 2 _, q2.far (by simp; omega) _, qR.setCell (by simp; omega) _, only_setCell hgf (.inr (by simp; omega)) _⟩
          · rw [sizes_append]; simp only [sizes, Tm.size]; rw [Nat.succ_mul]; omega
          · rw [Nat.succ_mul]; omega
        case measure => simp [intOf]; omega
      · have hje : (j : Int) = arity x := by omega
        obtain ⟨Ar, cr, rfl, hfr⟩ := hpt.fresh
        obtain ⟨c0, c1, c2⟩ := hB3.three
        obtain ⟨z0, z1, z2⟩ := hZr.three
        have e0 := hZr.frozen 0
        have e1 := hZr.frozen 1
        have e2 := hZr.frozen 2
        have hw0 : w.heap.size < wr.heap.size := hZr.lt
        have hne : r ≠ w.heap.size := by omega
        have hj4 : j ≤ 4 := by have := arity_le x; omega
        have hfin : Hid (sizes ts + 1 ≤ SD (d + 1) ∧ p' ≤ p + KD (d + 1)) := ⟨by rw [SD]; have := Nat.mul_le_mul_right (SD d) hj4; omega, by rw [KD]; have := Nat.mul_le_mul_right (KD d) hj4; omega⟩
        go_wp2_with (go_at_call 66; refine (l1Kids_any _ _).mono ?_; rintro e w9 ⟨rfl, rfl⟩)
        refine bodyPost_ret (v := .agg #[.int .i64 x, .int .i64 0, .slice Ar ts.length cr]) (by simp [results, Tryd.results50, go_sem, z0, z1, z2]) rfl ⟨x, 0, ts, Ar, cr, p', rfl, by have := htl.out; omega, hfin.out.1, hfin.out.2, ?_, ?_, ?_⟩
        · exact (((hfr.setCell (by simp; omega) _).setCell (by simp; omega) _).setCell (by simp; omega) _).mono (by omega)
        · exact ((hRr.setCell (by simp; omega) _).setCell (by simp; omega) _).setCell (by simp; omega) _
        · exact only_setCell (only_setCell (only_setCell hgr (.inr (by simp)) _) (.inr (by simp)) _) (.inr (by simp)) _

theorem draw_any (d : Nat) : DrawOk d := by
  induction d with
  | zero => exact draw_low 0 (by omega)
  | succ d ih =>
    by_cases h : d = 0
    · subst h; exact draw_low 1 (by omega)
    · exact draw_high d (by omega) ih

end Go.Proofs.YtjpgdfndlmipcaaDoor

namespace Go.Proofs.YtjpgdfndlmipcaaDoor
open Go.RowKit
set_option linter.unusedSimpArgs false
set_option linter.unusedVariables false

mutual
def shS (by_ : Int) : Int → Tm → Tm | cut, .mk k n ks => .mk k (if k = 1 ∧ cut ≤ n then n + by_ else n) (shSL by_ k cut 0 ks)
def shSL (by_ : Int) : Int → Int → Nat → List Tm → List Tm | _, _, _, [] => [] | k, cut, i, t :: ts => shS by_ (cut + under k i) t :: shSL by_ k cut (i + 1) ts
end

theorem shSL_append (by_ k d : Int) (us : List Tm) : ∀ (ts : List Tm) (i : Nat), shSL by_ k d i (ts ++ us) = shSL by_ k d i ts ++ shSL by_ k d (i + ts.length) us
  | [], i => by simp [shSL]
  | t :: ts, i => by rw [List.cons_append, shSL, shSL, shSL_append by_ k d us ts (i + 1), List.cons_append, List.length_cons, show i + 1 + ts.length = i + (ts.length + 1) from by omega]
theorem shSL_length (by_ k d : Int) : ∀ (ts : List Tm) (i : Nat), (shSL by_ k d i ts).length = ts.length
  | [], i => by simp [shSL]
  | t :: ts, i => by rw [shSL, List.length_cons, List.length_cons, shSL_length by_ k d ts (i + 1)]
theorem shSL_take (by_ k d : Int) {ks : List Tm} {j : Nat} (hj : j < ks.length) : shSL by_ k d 0 (ks.take (j + 1)) = shSL by_ k d 0 (ks.take j) ++ [shS by_ (d + under k j) ks[j]] := by
  rw [List.take_succ_eq_append_getElem hj, shSL_append, List.length_take, Nat.min_eq_left (Nat.le_of_lt hj), Nat.zero_add, shSL, shSL]

end Go.Proofs.YtjpgdfndlmipcaaDoor

namespace Go.Proofs.YtjpgdfndlmipcaaDoor
open Go.RowKit
set_option linter.unusedSimpArgs false
set_option linter.unusedVariables false

/-- what a scan answers -/
def scanB (d : Nat) (c0 : Int) (k n : Int) (ks : List Tm) : Bool := shape d (.mk k n ks) && decide (c0 + 1 + sizes ks ≤ 400)
theorem scan_no {d : Nat} {c0 k n : Int} {ks : List Tm} (h : ¬ (0 < d ∧ arity k = (ks.length : Int) ∧ 0 ≤ n ∧ n ≤ mostN k ∧ c0 + 1 ≤ 400)) : false = scanB d c0 k n ks := by
  cases e : scanB d c0 k n ks with
  | false => rfl
  | true =>
    simp only [scanB, Bool.and_eq_true, decide_eq_true_eq] at e
    cases d with
    | zero => simp [shape] at e
    | succ d =>
      have := (shape_split d k n ks).1 e.1
      exact absurd ⟨by omega, this.1, this.2.1, this.2.2.1, by omega⟩ h
theorem scan_yes {d : Nat} {c0 k n : Int} {ks : List Tm} (h : shape d (.mk k n ks) = true) (h2 : c0 + 1 + (sizes ks : Int) ≤ 400) : true = scanB d c0 k n ks := by
  simp only [scanB, h, decide_eq_true h2, Bool.and_self]
theorem scan_child_yes {d : Nat} {c0 k1 n1 : Int} {ks ks1 : List Tm} {j : Nat} (hj : j < ks.length) (hk : ks[j] = .mk k1 n1 ks1) (hst : sizes (ks.take (j + 1)) = sizes (ks.take j) + (sizes ks1 + 1))
    (hb : true = scanB d (c0 + 1 + (sizes (ks.take j) : Int)) k1 n1 ks1) : shape d ks[j] = true ∧ c0 + 1 + (sizes (ks.take (j + 1)) : Int) ≤ 400 := by
  simp only [scanB] at hb
  have hb := hb.symm
  rw [Bool.and_eq_true, decide_eq_true_eq] at hb
  rw [hk]
  refine ⟨hb.1, ?_⟩
  have := hb.2
  rw [hst]
  push_cast
  omega
theorem scan_child_no {d : Nat} {c0 k n k1 n1 : Int} {ks ks1 : List Tm} {j : Nat} (hj : j < ks.length) (hk : ks[j] = .mk k1 n1 ks1) (hst : sizes (ks.take (j + 1)) = sizes (ks.take j) + (sizes ks1 + 1))
    (hb : false = scanB d (c0 + 1 + (sizes (ks.take j) : Int)) k1 n1 ks1) : false = scanB (d + 1) c0 k n ks := by
  cases e : scanB (d + 1) c0 k n ks with
  | false => rfl
  | true =>
    simp only [scanB, Bool.and_eq_true, decide_eq_true_eq] at e
    have h1 := (shape_split d k n ks).1 e.1
    have h2 := h1.2.2.2 _ (List.getElem_mem hj)
    have h3 := sizes_take_le ks (j + 1)
    rw [hk] at h2
    simp only [scanB, h2, Bool.true_and] at hb
    have := of_decide_eq_false hb.symm
    omega
theorem all_take {ks : List Tm} {j : Nat} {p : Tm → Prop} (hj : j < ks.length) (h : ∀ t, t ∈ ks.take j → p t) (h1 : p ks[j]) : ∀ t, t ∈ ks.take (j + 1) → p t := by
  intro t ht
  rw [List.take_succ_eq_append_getElem hj, List.mem_append] at ht
  rcases ht with ht | ht
  · exact h t ht
  · simp at ht; rw [ht]; exact h1
theorem only_alloc_drop {w w' : World} {o : Obj} {m : Option Nat} (h : (w.alloc o).grownBy w' m) : w.grownBy w' m := only_trans (only_alloc (World.grownBy.refl _ _) o) h
def ScanPost (d : Nat) (c0 : Int) (k n : Int) (ks : List Tm) (g : Nat) (w : World) (e : Ending) (w' : World) : Prop :=
  ∃ (b : Bool) (c1 : Int), e = .returned (.bool b) ∧ b = scanB d c0 k n ks ∧ (b = true → c1 = c0 + 1 + sizes ks) ∧ 0 ≤ c1 ∧ c1 ≤ 1000 ∧ Blk w' g #[.int .i64 c1] ∧ w.grownBy w' (some g)

end Go.Proofs.YtjpgdfndlmipcaaDoor

namespace Go.Proofs.YtjpgdfndlmipcaaDoor
open Go.RowKit
set_option linter.unusedSimpArgs false
set_option linter.unusedVariables false

/-- which form of type a kind is -/
def formK (k : Int) : Int := if k = 2 then 1 else if k = 3 then 2 else if k = 6 then 3 else if k = 10 then 4 else if k = 13 then 5 else 0
/-- what TypeForm answers -/
def formT (t : Tm) : Int := if validT t = true then formK t.k else 0

end Go.Proofs.YtjpgdfndlmipcaaDoor

namespace Go.Proofs.YtjpgdfndlmipcaaDoor
open Go.RowKit
set_option linter.unusedSimpArgs false
set_option linter.unusedVariables false

theorem k_ne {k m : Int} (h : ¬ k = m) : (k == m) = false := by simpa using h
/-- the kind of the operand at a place -/
def kat (ks : List Tm) (i : Nat) : Int := (ks.getD i default).k
theorem rdx_at (i : Nat) (ks : List Tm) (h : i < ks.length) {k n : Int} {ls : List Tm} (e : ks[i] = .mk k n ls) : kat ks i = k := by
  simp [kat, List.getD, List.getElem?_eq_getElem h, e, Tm.k]
/-- which rule a node is ready for -/
def rdx (k : Int) (ks : List Tm) : Int :=
  if k = 5 then (if kat ks 0 = 4 then 1 else 0) else if k = 9 then (if kat ks 3 = 7 then 2 else if kat ks 3 = 8 then 3 else 0) else
    if k = 12 then (if kat ks 1 = 11 then 4 else 0) else if k = 15 then (if kat ks 0 = 14 then 5 else 0) else if k = 16 then (if kat ks 0 = 14 then 6 else 0) else 0
theorem rdx_no {k : Int} (ks : List Tm) (h : ¬ (k = 5 ∨ k = 9 ∨ k = 12 ∨ k = 15 ∨ k = 16)) : rdx k ks = 0 := by
  unfold rdx; repeat rw [if_neg (by omega)]

end Go.Proofs.YtjpgdfndlmipcaaDoor

namespace Go.Proofs.YtjpgdfndlmipcaaDoor
open Go.RowKit
set_option linter.unusedSimpArgs false
set_option linter.unusedVariables false

mutual
/-- no rule applies anywhere -/
def nrm : Tm → Bool | .mk k _ ks => nrms ks && (rdx k ks == 0)
def nrms : List Tm → Bool | [] => true | t :: ts => nrm t && nrms ts
end
theorem nrms_iff : ∀ ks : List Tm, nrms ks = true ↔ ∀ t, t ∈ ks → nrm t = true
  | [] => by simp [nrms]
  | t :: ts => by rw [nrms, Bool.and_eq_true, nrms_iff ts]; simp
theorem nrm_kid_no {k n : Int} {ks : List Tm} {j : Nat} (hj : j < ks.length) (h : nrm ks[j] = false) : nrm (.mk k n ks) = false := by
  rw [nrm, Bool.and_eq_false_iff]
  left
  cases e : nrms ks with
  | false => rfl
  | true => have := (nrms_iff ks).1 e _ (List.getElem_mem hj); rw [h] at this; exact absurd this (by simp)
theorem nrm_of {k n : Int} {ks : List Tm} (h : ∀ t, t ∈ ks → nrm t = true) : nrm (.mk k n ks) = (rdx k ks == 0) := by
  rw [nrm, (nrms_iff ks).2 h, Bool.true_and]

end Go.Proofs.YtjpgdfndlmipcaaDoor

namespace Go.Proofs.YtjpgdfndlmipcaaDoor
open Go.RowKit
set_option linter.unusedSimpArgs false
set_option linter.unusedVariables false

/-- a path of numbers that memory holds -/
def Path (w : World) (A : Option Addr) (m : Nat) : Prop :=
  ∃ xs : List Int, xs.length = m ∧ (0 < m → ∃ b off, A = some ⟨b, off, none⟩ ∧ ∀ (i : Nat) (u : Value), (xs.map (Value.int .i64))[i]? = some u → w.cell? ⟨b, off + i, none⟩ = some u)
theorem Path.nil {w : World} {A : Option Addr} : Path w A 0 := ⟨[], rfl, fun h => absurd h (Nat.lt_irrefl _)⟩
theorem Path.alloc {w : World} {A : Option Addr} {m : Nat} (h : Path w A m) (o : Obj) : Path (w.alloc o) A m := by
  obtain ⟨xs, h1, h2⟩ := h
  refine ⟨xs, h1, fun hm => ?_⟩
  obtain ⟨b, off, h3, h4⟩ := h2 hm
  exact ⟨b, off, h3, fun i u hu => Keeps.alloc w o _ _ (h4 i u hu)⟩
theorem int_info : (Tryd.prog.info? 3).map (fun i => (i.zero, i.size, i.bytes)) = some (some (.int .i64 0), 1, 8) := by kernel_rfl

theorem run_append_path {w : World} {A : Option Addr} {m c : Nat} (h : Path w A m) (hm : m ≤ 1000) (x : Int) (ty : TypeId) :
    ∃ A' c' w', (Builtin.append_ #[52, 52] ty #[.slice (some ⟨w.heap.size, 0, none⟩) 1 1, .slice A m c]).run Tryd.prog (w.alloc (.cells #[.int .i64 x] 3)) = .ok (.slice A' (m + 1) c') w' ∧ Path w' A' (m + 1) ∧ Below w.heap.size w w' := by
  obtain ⟨i0, hi, hz0, hz1, hz2⟩ := info_parts int_info
  have hown : (w.alloc (.cells #[.int .i64 x] 3)).ownsRow w.heap.size 3 1 (.slice (some ⟨w.heap.size, 0, none⟩) 1 1) 1 [.int .i64 x] :=
    ⟨rfl, .inr ⟨w.heap.size, 1, #[.int .i64 x], rfl, Nat.le_refl _, heap_alloc_new w _, Nat.le_refl _, by decide, rfl, rfl⟩⟩
  obtain ⟨xs, h1, h2⟩ := h.alloc (.cells #[.int .i64 x] 3)
  have fin : ∀ (v' : Value) (w' : World), w'.ownsRow w.heap.size 3 1 v' (1 + m) (.int .i64 x :: xs.map (Value.int .i64)) → (w.alloc (.cells #[.int .i64 x] 3)).grownBy w' (some w.heap.size) →
      ∃ A' c', v' = .slice A' (m + 1) c' ∧ Path w' A' (m + 1) ∧ Below w.heap.size w w' := by
    intro v' w' ho hg
    have hb : Below w.heap.size w w' := ((Below.refl _ _).alloc (Nat.le_refl _) _).grown hg (by simp) (fun k e => by cases e; omega)
    rcases ho.2 with ⟨_, h0⟩ | ⟨g, cap, cur, rfl, hgb, hgc, hn, hmx, hcs, htk⟩
    · omega
    · refine ⟨some ⟨g, 0, none⟩, cap, by rw [Nat.add_comm], ⟨x :: xs, by simp [h1], fun _ => ⟨g, 0, rfl, fun i u hu => ?_⟩⟩, hb⟩
      rw [List.map_cons, ← htk] at hu
      have hu2 : cur[i]? = some u := by
        rw [List.getElem?_take] at hu
        split at hu
        · simpa using hu
        · cases hu
      have hB : Blk w' g cur := ⟨3, hgc⟩
      rw [Nat.zero_add]
      exact hB.at_ hu2
  have hcells : ∀ (ad : Addr), A = some ad → ∀ j u, (xs.map (Value.int .i64))[j]? = some u → (w.alloc (.cells #[.int .i64 x] 3)).cell? (ad.add j) = some u := by
    intro ad e j u hu
    have hj : j < xs.length := by have := (List.getElem?_eq_some_iff.1 hu).1; simpa using this
    obtain ⟨b, off, e2, hc⟩ := h2 (by omega)
    rw [e2] at e
    cases e
    have := hc j u hu
    rwa [← Go.WideShapes.add_plain] at this
  rcases A with _ | ad
  · have hz : m = 0 := by
      rcases Nat.eq_zero_or_pos m with h0 | h0
      · exact h0
      · obtain ⟨b, off, e, _⟩ := h2 h0; cases e
    subst hz
    have hx : xs = [] := List.eq_nil_of_length_eq_zero h1
    subst hx
    obtain ⟨A', c', hv, hp, hb⟩ := fin _ _ hown (World.grownBy.refl _ _)
    refine ⟨A', c', _, ?_, hp, hb⟩
    rw [← hv]
    have hgc := heap_alloc_new w (.cells #[.int .i64 x] 3)
    simp [Builtin.append_, run_underlying Tryd.underlying52, sizeOf, typeInfo, hi, Builtin.lenOf, Builtin.firstCells, storeCells]
  · obtain ⟨v', w', hrun, ho, hg, _, hat⟩ := run_append_own_at (P := Tryd.prog) (w.alloc (.cells #[.int .i64 x] 3)) w.heap.size 52 ty 3 i0 _ 1 8 Tryd.underlying52 hi hz0 hz1 hz2 rfl (by omega) _ 1 _ hown ad m c (xs.map (Value.int .i64)) (by simp [h1]) (hcells ad rfl) (by
      intro u hu
      obtain ⟨z, _, rfl⟩ := List.mem_map.1 hu
      rfl) (by simp only [maxLen]; omega) (by omega) (by simp)
    obtain ⟨A', c', rfl, hp, hb⟩ := fin v' w' (by simpa using ho) hg
    exact ⟨A', c', w', hrun, hp, hb⟩

theorem wpList_append_path {w : World} {A : Option Addr} {m c : Nat} (h : Path w A m) (hm : m ≤ 1000) (x : Int)
    {ops : Array Oper} {rest : List Oper} {o : Oper} {a : Act} {Q : Exit → Act → World → Prop} (hgd : o.guard = none) (s t : Operand)
    (ho : o.op = .call { callee := .builtin .append, args := #[s, t], argTypes := #[52, 52] }) (hs : a.eval s = .slice (some ⟨w.heap.size, 0, none⟩) 1 1) (hx : a.eval t = .slice A m c)
    (hk : ∀ A' c' w', Path w' A' (m + 1) → Below w.heap.size w w' → wpList Tryd.prog ops Q rest (a.put o.dst (.slice A' (m + 1) c')) w') :
    wpList Tryd.prog ops Q (o :: rest) a (w.alloc (.cells #[.int .i64 x] 3)) := by
  refine wpList_plain hgd fun K hK => ?_
  obtain ⟨A', c', w', hrun, h2, h3⟩ := run_append_path (c := c) h hm x o.type
  unfold Oper.wp execOp
  simp only [ho, resolve, invoke, builtin, Sem.run_bind, Sem.run_pure, Result.andThen_ok, List.map_toArray, List.map_cons, List.map_nil, hs, hx, hrun]
  exact hK _ _ (hk A' c' w' h2 h3)

def OuterPost (d : Nat) (t : Tm) (w : World) (e : Ending) (w' : World) : Prop :=
  ∃ A m c, e = .returned (.tuple #[.slice A m c, .bool (!nrm t)]) ∧ m ≤ d ∧ Path w' A m ∧ Below w.heap.size w w'

theorem nrm_rdx {k n : Int} {ks : List Tm} (h : rdx k ks ≠ 0) : nrm (.mk k n ks) = false := by
  rw [nrm, Bool.and_eq_false_iff]; right; simpa using h

end Go.Proofs.YtjpgdfndlmipcaaDoor

namespace Go.Proofs.YtjpgdfndlmipcaaDoor
open Go.RowKit
set_option linter.unusedSimpArgs false
set_option linter.unusedVariables false

/-- the empty term that stands for a failure -/
def zeroV : Value := .agg #[.int .i64 0, .int .i64 0, .slice none 0 0]
/-- a variable shifted -/
def shF (by_ cut : Int) (n d : Int) : Tm := .mk 1 (if cut ≤ n - d then n + by_ else n) []
def shOk (by_ cut : Int) (n d : Int) : Bool := if cut ≤ n - d then decide (cut ≤ n + by_ - d) && decide (n + by_ ≤ 20) else true

end Go.Proofs.YtjpgdfndlmipcaaDoor

namespace Go.Proofs.YtjpgdfndlmipcaaDoor
open Go.RowKit
set_option linter.unusedSimpArgs false
set_option linter.unusedVariables false

theorem chg_size {f : Int → Int → Tm} {M : Nat} (hM : 1 ≤ M) (hf : ∀ n d, (f n d).size ≤ M) : (∀ t d, (chg f d t).size ≤ t.size * M) ∧ (∀ ts k d i, sizes (chgs f k d i ts) ≤ sizes ts * M) := by
  refine Tm.ind2 (fun k n ks ih d => ?_) (fun k d i => by simp [chgs, sizes]) (fun t ts h1 h2 k d i => ?_)
  · rw [chg, Tm.size, Nat.add_mul, Nat.one_mul]
    split
    · have := hf n d; omega
    · rw [Tm.size]; have := ih k d 0; omega
  · rw [chgs, sizes, sizes, Nat.add_mul]
    have := h1 (d + under k i); have := h2 k d (i + 1); omega
theorem shF_size (by_ cut n d : Int) : (shF by_ cut n d).size ≤ 1 := by simp [shF, Tm.size, sizes]

/-- a term handed back in new memory, or a failure -/
def GotO (w : World) (o : Option Tm) (e : Ending) (w' : World) : Prop :=
  match o with
  | none => e = .returned (.tuple #[zeroV, .bool false]) ∧ Below w.heap.size w w'
  | some t => ∃ A c, e = .returned (.tuple #[.agg #[.int .i64 t.k, .int .i64 t.n, .slice A t.ks.length c], .bool true]) ∧ t.ks.length ≤ 9223372036854775807 ∧ Fresh w.heap.size w' A t.ks ∧ Below w.heap.size w w'
/-- what shift answers -/
def shiftI (by_ cut : Int) (t : Tm) : Option Tm := if chgOk (shOk by_ cut) 0 t = true then (if validT (chg (shF by_ cut) 0 t) = true then some (chg (shF by_ cut) 0 t) else none) else none

end Go.Proofs.YtjpgdfndlmipcaaDoor

namespace Go.Proofs.YtjpgdfndlmipcaaDoor
open Go.RowKit
set_option linter.unusedSimpArgs false
set_option linter.unusedVariables false

set_option maxHeartbeats 1000000 in
theorem sLeaf_any (k n : Int) (w : World) : Calls Tryd.prog 43 #[.int .i64 k, .int .i64 n] w fun e w' => e = .returned (.agg #[.int .i64 k, .int .i64 n, .slice none 0 0]) ∧ Below w.heap.size w w' := by
  go_enter Tryd.func43, Tryd.ntmps43
  go_wp2_with fail
  refine bodyPost_ret (v := .agg #[.int .i64 k, .int .i64 n, .slice none 0 0]) (by simp [results, Tryd.results43, go_sem]) rfl ⟨rfl, ?_⟩
  exact (Below.refl _ _).alloc (Nat.le_refl _) _

mutual
def flS (args : List Tm) : Int → Tm → Tm
  | d, .mk k n ks => if k = 1 ∧ d ≤ n then (if n < d + args.length then shS d 0 (args.getD (n - d).toNat default) else .mk 1 (n - args.length) []) else .mk k n (flSL args k d 0 ks)
def flSL (args : List Tm) : Int → Int → Nat → List Tm → List Tm | _, _, _, [] => [] | k, d, i, t :: ts => flS args (d + under k i) t :: flSL args k d (i + 1) ts
end

theorem flSL_append (args : List Tm) (k d : Int) (us : List Tm) : ∀ (ts : List Tm) (i : Nat), flSL args k d i (ts ++ us) = flSL args k d i ts ++ flSL args k d (i + ts.length) us
  | [], i => by simp [flSL]
  | t :: ts, i => by rw [List.cons_append, flSL, flSL, flSL_append args k d us ts (i + 1), List.cons_append, List.length_cons, show i + 1 + ts.length = i + (ts.length + 1) from by omega]
theorem flSL_length (args : List Tm) (k d : Int) : ∀ (ts : List Tm) (i : Nat), (flSL args k d i ts).length = ts.length
  | [], i => by simp [flSL]
  | t :: ts, i => by rw [flSL, List.length_cons, List.length_cons, flSL_length args k d ts (i + 1)]
theorem flSL_take (args : List Tm) (k d : Int) {ks : List Tm} {j : Nat} (hj : j < ks.length) : flSL args k d 0 (ks.take (j + 1)) = flSL args k d 0 (ks.take j) ++ [flS args (d + under k j) ks[j]] := by
  rw [List.take_succ_eq_append_getElem hj, flSL_append, List.length_take, Nat.min_eq_left (Nat.le_of_lt hj), Nat.zero_add, flSL, flSL]

end Go.Proofs.YtjpgdfndlmipcaaDoor

namespace Go.Proofs.YtjpgdfndlmipcaaDoor
open Go.RowKit
set_option linter.unusedSimpArgs false
set_option linter.unusedVariables false

theorem own_rdp {w : World} {P : Nat → Prop} : (∀ t xs fp, OwT w t xs fp → (∀ b, b ∈ fp → P b) → ∀ g off i, P g → (∀ j u, xs[j]? = some u → w.cell? ⟨g, off + i * 3 + j, none⟩ = some u) → RdPC P w g off i t) ∧
    (∀ ts xs fp, OwX w ts xs fp → (∀ b, b ∈ fp → P b) → ∀ g off i, P g → (∀ j u, xs[j]? = some u → w.cell? ⟨g, off + i * 3 + j, none⟩ = some u) → RdP P w (some ⟨g, off, none⟩) i ts) := by
  refine Tm.ind2 (fun k n ks ih xs fp h hP g off i hg hc => ?_) (fun xs fp h hP g off i hg hc => RdP.nil) (fun t ts h1 h2 xs fp h hP g off i hg hc => ?_)
  · obtain ⟨A, c, rfl, hl, h⟩ := OwT.iff.1 h
    refine RdPC.iff.2 ⟨hg, hc 0 _ rfl, hc 1 _ rfl, A, c, hc 2 _ rfl, hl, ?_⟩
    rcases h with ⟨rfl, rfl⟩ | ⟨g', cur, e, f, hne, rfl, hg', rfl, hx⟩
    · exact RdP.nil
    · refine ih _ _ hx (fun b hb => hP b (by simp [hb])) g' 0 0 (hP g' (by simp)) fun j u hu => ?_
      have e0 : 0 + 0 * 3 + j = j := by omega
      rw [e0, cell_of_row w g' j cur e (0, 0) hg']
      rw [List.getElem?_take] at hu
      split at hu
      · simpa using hu
      · cases hu
  · obtain ⟨x1, x2, f1, f2, rfl, rfl, ht, hx⟩ := OwX.cons_iff.1 h
    have hl := ht.length
    refine RdP.cons_iff.2 ⟨⟨g, off, rfl, h1 _ _ ht (fun b hb => hP b (by simp [hb])) g off i hg fun j u hu => hc j u ?_⟩, h2 _ _ hx (fun b hb => hP b (by simp [hb])) g off (i + 1) hg fun j u hu => ?_⟩
    · rw [List.getElem?_append_left (by have := (List.getElem?_eq_some_iff.1 hu).1; omega)]; exact hu
    · have := hc (3 + j) u (by rw [List.getElem?_append_right (by omega), hl]; simpa using hu)
      rw [show off + (i + 1) * 3 + j = off + i * 3 + (3 + j) from by omega]; exact this
/-- what lies in blocks of its own lies in blocks from B on that are there -/
theorem Fresh.rdp {B : Nat} {w : World} {A : Option Addr} {ks : List Tm} (h : Fresh B w A ks) : RdP (fun b => B ≤ b ∧ b < w.heap.size) w A 0 ks := by
  obtain ⟨fp, h, hn, hge⟩ := h
  have hlt := h.lt
  rcases h with ⟨rfl, rfl⟩ | ⟨g, cur, e, f, hne, rfl, hg, rfl, hx⟩
  · exact RdP.nil
  · refine own_rdp.2 _ _ _ hx (fun b hb => ⟨hge b (by simp [hb]), hlt b (by simp [hb])⟩) g 0 0 ⟨hge g (by simp), hlt g (by simp)⟩ fun j u hu => ?_
    have e0 : 0 + 0 * 3 + j = j := by omega
    rw [e0, cell_of_row w g j cur e (0, 0) hg]
    rw [List.getElem?_take] at hu
    split at hu
    · simpa using hu
    · cases hu

theorem kd4 {d : Nat} (h : d ≤ 4) : KD d ≤ 1023 ∧ SD d ≤ 341 := by
  have : d = 0 ∨ d = 1 ∨ d = 2 ∨ d = 3 ∨ d = 4 := by omega
  rcases this with rfl | rfl | rfl | rfl | rfl <;> decide
theorem any_depth {x : Int} (h : x ∈ ([3, 4, 2, 3, 1] : List Int)) : ∃ d : Nat, x = d ∧ d ≤ 4 := by
  simp only [List.mem_cons, List.not_mem_nil, or_false] at h
  rcases h with rfl | rfl | rfl | rfl | rfl
  · exact ⟨3, rfl, by omega⟩
  · exact ⟨4, rfl, by omega⟩
  · exact ⟨2, rfl, by omega⟩
  · exact ⟨3, rfl, by omega⟩
  · exact ⟨1, rfl, by omega⟩
set_option maxHeartbeats 4000000 in
set_option maxRecDepth 100000 in
theorem any_any (B r p : Nat) (w : World) (hp : p ≤ 900000000) (hB : B ≤ w.heap.size) (hr : Rdr B w r p) : Calls Tryd.prog 42 #[.pointer (some ⟨r, 0, none⟩)] w (DrawnT B w r p 1024 341) := by
  have hrl := hr.lt
  go_enter Tryd.func42, Tryd.ntmps42
  go_wp2_with (first
    | (go_at_call 43; refine (sLeaf_any _ _ _).mono ?_; rintro e w5 ⟨rfl, hb5⟩; have tok : True := trivial; replace hZ := hZ.keep hb5; have d0 := hZ.at_ (i := 0) rfl; have d1 := hZ.at_ (i := 1) rfl; have d2 := hZ.at_ (i := 2) rfl; have e0 := hZ.frozen 0; have e1 := hZ.frozen 1; have e2 := hZ.frozen 2)
    | (go_at_call 51; refine (sTermValid_any k n ks A c _ (by omega) (hf.rd.alloc _)).mono ?_; rintro e w4 ⟨rfl, hb4⟩; have hX := (Blk.new_ w2 48 #[.int .i64 k, .int .i64 n, .slice A ks.length c] rfl).keep hb4; replace hZ := (hZ.alloc _).keep hb4; have x0 := hX.at_ (i := 0) rfl; have x1 := hX.at_ (i := 1) rfl; have x2 := hX.at_ (i := 2) rfl; have d0 := hZ.at_ (i := 0) rfl; have d1 := hZ.at_ (i := 1) rfl; have d2 := hZ.at_ (i := 2) rfl; have e0 := hZ.frozen 0; have e1 := hZ.frozen 1; have e2 := hZ.frozen 2; have lx := hX.lt; have lz := hZ.lt)
    | (go_at_call 50; refine (draw_any d B r (p + 1) _ (by omega) (by omega) hr1).mono ?_; rintro e w2 ⟨k, n, ks, A, c, p2, rfl, hl2, hs2, hp2, hf, hr2, hg2⟩; replace hZ := hZ.grown hg2 (by simp; omega); have lz2 := hZ.lt; have g2 := grown_trans g1 hg2; have s2 := hg2.size)
    | (go_at_call 27; refine (num_any [3, 4, 2, 3, 1] B r p (w.heap.size + 1) _ (by decide) (by decide) (by omega) (by simp; omega) ((hr.alloc (by omega) _).alloc (by simp; omega) _) (Blk.new_ _ 3 _ (by simp)) (by omega)).mono ?_; rintro e w1 ⟨x, hx, rfl, hr1, hg1⟩; obtain ⟨d, rfl, hd⟩ := any_depth hx; have hkd := kd4 hd; have hZ : Blk w1 w.heap.size #[.int .i64 0, .int .i64 0, .slice none 0 0] := ((Blk.new_ w 48 #[.int .i64 0, .int .i64 0, .slice none 0 0] rfl).alloc _).grown hg1 (by simp; omega); have g1 : w.grownBy w1 (some r) := grown_trans (only_alloc (only_alloc (World.grownBy.refl _ _) _) _) hg1; have s1 := g1.size; have lz1 := hZ.lt))
  · have r4 := (hr2.alloc (by omega) (.cells #[.int .i64 k, .int .i64 n, .slice A ks.length c] 48)).below hb4 (by simp; omega)
    have g4 := only_below (only_alloc g2 (.cells #[.int .i64 k, .int .i64 n, .slice A ks.length c] 48)) hb4
    have f4 := (hf.alloc (.cells #[.int .i64 k, .int .i64 n, .slice A ks.length c] 48)).below hb4
    refine bodyPost_ret (v := .agg #[.int .i64 k, .int .i64 n, .slice A ks.length c]) (by simp [results, Tryd.results42, go_sem, d0, d1, d2]) rfl ⟨k, n, ks, A, c, p2, rfl, hl2, by omega, by omega, ?_, ?_, ?_⟩
    · exact (((f4.setCell (by simp; omega) _).setCell (by simp; omega) _).setCell (by simp; omega) _).mono (by omega)
    · exact ((r4.setCell (by simp; omega) _).setCell (by simp; omega) _).setCell (by simp; omega) _
    · exact only_setCell (only_setCell (only_setCell g4 (.inr (by simp)) _) (.inr (by simp)) _) (.inr (by simp)) _
  · have r4 := ((hr2.alloc (by omega) (.cells #[.int .i64 k, .int .i64 n, .slice A ks.length c] 48)).below hb4 (by simp; omega)).below hb5 (by have := hb4.size; simp at this; omega)
    have g4 := only_below (only_below (only_alloc g2 (.cells #[.int .i64 k, .int .i64 n, .slice A ks.length c] 48)) hb4) hb5
    refine bodyPost_ret (v := .agg #[.int .i64 7, .int .i64 0, .slice none 0 0]) (by simp [results, Tryd.results42, go_sem, d0, d1, d2]) rfl ⟨7, 0, [], none, 0, p2, rfl, by simp, by simp [sizes], by omega, Fresh.nil, ?_, ?_⟩
    · exact ((r4.setCell (by simp; omega) _).setCell (by simp; omega) _).setCell (by simp; omega) _
    · exact only_setCell (only_setCell (only_setCell g4 (.inr (by simp)) _) (.inr (by simp)) _) (.inr (by simp)) _
end Go.Proofs.YtjpgdfndlmipcaaDoor

namespace Go.Proofs.YtjpgdfndlmipcaaDoor
open Go.RowKit
set_option linter.unusedSimpArgs false
set_option linter.unusedVariables false

/-- from place i on the string reads as these bytes, and then as it may -/
def Has (s : ByteArray) (i : Nat) (bs : List UInt8) : Prop := ∃ rest, s.data.toList.drop i = bs ++ rest
theorem Has.le {s : ByteArray} {i : Nat} {bs : List UInt8} (h : Has s i bs) (hb : bs ≠ []) : i + bs.length ≤ s.size := by
  obtain ⟨rest, h⟩ := h
  have h1 := congrArg List.length h
  have h2 : 0 < bs.length := List.length_pos_iff.2 hb
  simp only [List.length_drop, List.length_append, Array.length_toList] at h1
  have h3 : s.data.size = s.size := rfl
  omega
theorem Has.cons {s : ByteArray} {i : Nat} {c : UInt8} {bs : List UInt8} (h : Has s i (c :: bs)) : (∃ hi : i < s.size, s[i]'hi = c) ∧ Has s (i + 1) bs := by
  have hl := h.le (by simp)
  simp only [List.length_cons] at hl
  obtain ⟨rest, h⟩ := h
  have hi : i < s.size := by omega
  refine ⟨⟨hi, ?_⟩, rest, ?_⟩
  · have h1 := congrArg (fun l => l[0]?) h
    simp only [List.getElem?_drop, Nat.add_zero, List.cons_append, List.getElem?_cons_zero] at h1
    have h2 : s.data.toList[i]? = some (s[i]'hi) := by
      rw [List.getElem?_eq_getElem (by simpa using hi)]; rfl
    rw [h2] at h1
    injection h1
  · rw [← List.drop_drop, h]; rfl
theorem Has.app {s : ByteArray} {i : Nat} {a b : List UInt8} (h : Has s i (a ++ b)) : Has s i a ∧ Has s (i + a.length) b := by
  obtain ⟨rest, h⟩ := h
  refine ⟨⟨b ++ rest, by rw [h, List.append_assoc]⟩, rest, ?_⟩
  rw [← List.drop_drop, h, List.append_assoc, List.drop_left]
theorem Has.all (bs : List UInt8) : Has ⟨bs.toArray⟩ 0 bs := ⟨[], by simp⟩
/-- at place i stands no digit -/
def Nd (s : ByteArray) (i : Nat) : Prop := ∀ hi : i < s.size, (s[i]'hi).toNat < 48 ∨ 57 < (s[i]'hi).toNat
theorem Nd.of {s : ByteArray} {i : Nat} {c : UInt8} {bs : List UInt8} (h : Has s i (c :: bs)) (hc : c.toNat < 48 ∨ 57 < c.toNat) : Nd s i := fun hi => by
  obtain ⟨⟨_, e⟩, _⟩ := h.cons
  rw [e]; exact hc
theorem Nd.out {s : ByteArray} {i : Nat} (h : s.size ≤ i) : Nd s i := fun hi => absurd hi (by omega)

/-- texts, each behind the other, a comma between, a sign at the end -/
def ser (c : UInt8) : List (List UInt8) → List UInt8
  | [] => []
  | [b] => b ++ [c]
  | b :: bs => b ++ 44 :: ser c bs
theorem ser_one (c : UInt8) (b : List UInt8) : ser c [b] = b ++ [c] := by simp [ser]
theorem ser_more (c : UInt8) (b d : List UInt8) (bs : List (List UInt8)) : ser c (b :: d :: bs) = b ++ 44 :: ser c (d :: bs) := by simp [ser]

/-- kinds with one operand, with two in round brackets, with three or four: their signs -/
def PreK (k : Int) (c : UInt8) : Prop := (k = 8 ∧ c = 43) ∨ (k = 11 ∧ c = 33) ∨ (k = 15 ∧ c = 94) ∨ (k = 16 ∧ c = 95)
def RndK (k : Int) (c : UInt8) : Prop := (k = 3 ∧ c = 62) ∨ (k = 13 ∧ c = 42) ∨ (k = 5 ∧ c = 32)
def BlkK (k : Int) (m : Nat) (o : List UInt8) (c : UInt8) : Prop := (k = 9 ∧ m = 4 ∧ o = [60] ∧ c = 62) ∨ (k = 10 ∧ m = 3 ∧ o = [123] ∧ c = 125) ∨ (k = 14 ∧ m = 3 ∧ o = [124] ∧ c = 124) ∨ (k = 12 ∧ m = 3 ∧ o = [64, 60] ∧ c = 62)

/-- a term of at most this depth, whose numbers have one digit, and its text -/
inductive Tx : Nat → Tm → List UInt8 → Prop
  | var (d : Nat) (n : Int) (c : UInt8) (h : 0 ≤ n ∧ n ≤ 9 ∧ (c.toNat : Int) = 48 + n) : Tx (d + 1) (.mk 1 n []) [35, c]
  | sort (d : Nat) (n : Int) (c : UInt8) (h : 0 ≤ n ∧ n ≤ 3 ∧ (c.toNat : Int) = 48 + n) : Tx (d + 1) (.mk 2 n []) [42, c]
  | nat (d : Nat) : Tx (d + 1) (.mk 6 0 []) [78]
  | zero (d : Nat) : Tx (d + 1) (.mk 7 0 []) [48]
  | pre (d : Nat) (k : Int) (c : UInt8) (t : Tm) (b : List UInt8) (h : PreK k c) (ht : Tx d t b) : Tx (d + 1) (.mk k 0 [t]) (c :: b)
  | rnd (d : Nat) (k : Int) (c : UInt8) (t u : Tm) (x y : List UInt8) (h : RndK k c) (ht : Tx d t x) (hu : Tx d u y) : Tx (d + 1) (.mk k 0 [t, u]) (40 :: (x ++ c :: (y ++ [41])))
  | lam (d : Nat) (t u : Tm) (x y : List UInt8) (ht : Tx d t x) (hu : Tx d u y) : Tx (d + 1) (.mk 4 0 [t, u]) (91 :: (x ++ 93 :: y))
  | blk (d : Nat) (k : Int) (m : Nat) (o : List UInt8) (c : UInt8) (ts : List Tm) (xs : List (List UInt8)) (h : BlkK k m o c) (hm : ts.length = m) (hx : xs.length = m) (ht : ∀ (j : Nat) (t : Tm) (x : List UInt8), ts[j]? = some t → xs[j]? = some x → Tx d t x) : Tx (d + 1) (.mk k 0 ts) (o ++ ser c xs)

theorem tx3 {d : Nat} {k : Int} {o : List UInt8} {c : UInt8} {t u v : Tm} {x y z : List UInt8} (h : BlkK k 3 o c) (ht : Tx d t x) (hu : Tx d u y) (hv : Tx d v z) : Tx (d + 1) (.mk k 0 [t, u, v]) (o ++ ser c [x, y, z]) :=
  .blk d k 3 o c [t, u, v] [x, y, z] h rfl rfl fun j a b h1 h2 => by
    match j, h1, h2 with
    | 0, h1, h2 => cases h1; cases h2; exact ht
    | 1, h1, h2 => cases h1; cases h2; exact hu
    | 2, h1, h2 => cases h1; cases h2; exact hv
theorem tx4 {d : Nat} {k : Int} {o : List UInt8} {c : UInt8} {t u v a : Tm} {x y z b : List UInt8} (h : BlkK k 4 o c) (ht : Tx d t x) (hu : Tx d u y) (hv : Tx d v z) (ha : Tx d a b) : Tx (d + 1) (.mk k 0 [t, u, v, a]) (o ++ ser c [x, y, z, b]) :=
  .blk d k 4 o c [t, u, v, a] [x, y, z, b] h rfl rfl fun j t' x' h1 h2 => by
    match j, h1, h2 with
    | 0, h1, h2 => cases h1; cases h2; exact ht
    | 1, h1, h2 => cases h1; cases h2; exact hu
    | 2, h1, h2 => cases h1; cases h2; exact hv
    | 3, h1, h2 => cases h1; cases h2; exact ha
theorem Tx.ne {d : Nat} {t : Tm} {b : List UInt8} (h : Tx d t b) : b ≠ [] := by
  cases h <;> simp
  rename_i h _ _ _
  rcases h with ⟨_, _, rfl, _⟩ | ⟨_, _, rfl, _⟩ | ⟨_, _, rfl, _⟩ | ⟨_, _, rfl, _⟩ <;> simp
theorem Tx.mono {d : Nat} {t : Tm} {b : List UInt8} (h : Tx d t b) : ∀ {d' : Nat}, d ≤ d' → Tx d' t b := by
  induction h with
  | var d n c h => intro d' hd; obtain ⟨e, rfl⟩ : ∃ e, d' = e + 1 := ⟨d' - 1, by omega⟩; exact .var e n c h
  | sort d n c h => intro d' hd; obtain ⟨e, rfl⟩ : ∃ e, d' = e + 1 := ⟨d' - 1, by omega⟩; exact .sort e n c h
  | nat d => intro d' hd; obtain ⟨e, rfl⟩ : ∃ e, d' = e + 1 := ⟨d' - 1, by omega⟩; exact .nat e
  | zero d => intro d' hd; obtain ⟨e, rfl⟩ : ∃ e, d' = e + 1 := ⟨d' - 1, by omega⟩; exact .zero e
  | pre d k c t b h ht ih => intro d' hd; obtain ⟨e, rfl⟩ : ∃ e, d' = e + 1 := ⟨d' - 1, by omega⟩; exact .pre e k c t b h (ih (by omega))
  | rnd d k c t u x y h ht hu i1 i2 => intro d' hd; obtain ⟨e, rfl⟩ : ∃ e, d' = e + 1 := ⟨d' - 1, by omega⟩; exact .rnd e k c t u x y h (i1 (by omega)) (i2 (by omega))
  | lam d t u x y ht hu i1 i2 => intro d' hd; obtain ⟨e, rfl⟩ : ∃ e, d' = e + 1 := ⟨d' - 1, by omega⟩; exact .lam e t u x y (i1 (by omega)) (i2 (by omega))
  | blk d k m o c ts xs h hm hx ht ih => intro d' hd; obtain ⟨e, rfl⟩ : ∃ e, d' = e + 1 := ⟨d' - 1, by omega⟩; exact .blk e k m o c ts xs h hm hx (fun j t x h1 h2 => ih j t x h1 h2 (by omega))
end Go.Proofs.YtjpgdfndlmipcaaDoor

namespace Go.Proofs.YtjpgdfndlmipcaaDoor
open Go.RowKit
set_option linter.unusedSimpArgs false
set_option linter.unusedVariables false

set_option maxHeartbeats 2000000 in
set_option maxRecDepth 100000 in
theorem l19Num_one (s : ByteArray) (c : Nat) (w : World) (hs : s.size = 1) (hc : ∀ h : 0 < s.size, (s[0]'h).toNat = c) (h1 : 48 ≤ c) (h2 : c ≤ 57) :
    Calls Tryd.prog 79 #[.string s] w fun e w' => e = .returned (.tuple #[.int .i64 ((c : Int) - 48), .bool true]) ∧ w = w' := by
  have h0 : 0 < s.size := by omega
  have e0 := hc h0
  have q45 : ((c : Int) == 45) = false := beq_eq_false_iff_ne.2 (by omega)
  have hsl : (s.size : Int) ≤ 1 := by omega
  have hsg : (1 : Int) ≤ (s.size : Int) := by omega
  have enter : Hid True → Calls Tryd.prog 79 #[.string s] w fun e w' => e = .returned (.tuple #[.int .i64 ((c : Int) - 48), .bool true]) ∧ w = w' := by
    intro _
    by_cases h48 : c = 48
    · have q48 : ((c : Int) == 48) = true := by rw [h48]; rfl
      clear h48 hc
      go_enter Tryd.func79, Tryd.ntmps79
      go_wp2
      go_loop [5, 6] (fun v i => ∃ k : Nat, k ≤ 1 ∧ i = .int .i64 k ∧ v = .int .i64 (if k = 0 then 0 else (c : Int) - 48)) (fun _ i => 1 - (intOf i).toNat)
      case atStart => exact ⟨0, by omega, rfl, rfl⟩
      case round =>
        obtain ⟨k, hk, rfl, rfl⟩ := hrel
        by_cases hk0 : k = 0
        · subst hk0
          have d1 : decide ((c : Int) < 48) = false := decide_eq_false (by omega)
          have d2 : decide ((57 : Int) < (c : Int)) = false := decide_eq_false (by omega)
          have u8 : IntKind.u8.wrap ((c : Int) - 48) = (c : Int) - 48 := IntWalk.u8_in _ (by omega)
          go_wp2
          go_round
          case rel => exact ⟨1, by omega, rfl, by simp⟩
          case measure => simp [intOf]
        · obtain rfl : k = 1 := by omega
          go_wp2
          go_ret2
          exact ⟨rfl, rfl⟩
    · have q48 : ((c : Int) == 48) = false := beq_eq_false_iff_ne.2 (by omega)
      clear h48 hc
      go_enter Tryd.func79, Tryd.ntmps79
      go_wp2
      go_loop [5, 6] (fun v i => ∃ k : Nat, k ≤ 1 ∧ i = .int .i64 k ∧ v = .int .i64 (if k = 0 then 0 else (c : Int) - 48)) (fun _ i => 1 - (intOf i).toNat)
      case atStart => exact ⟨0, by omega, rfl, rfl⟩
      case round =>
        obtain ⟨k, hk, rfl, rfl⟩ := hrel
        by_cases hk0 : k = 0
        · subst hk0
          have d1 : decide ((c : Int) < 48) = false := decide_eq_false (by omega)
          have d2 : decide ((57 : Int) < (c : Int)) = false := decide_eq_false (by omega)
          have u8 : IntKind.u8.wrap ((c : Int) - 48) = (c : Int) - 48 := IntWalk.u8_in _ (by omega)
          go_wp2
          go_round
          case rel => exact ⟨1, by omega, rfl, by simp⟩
          case measure => simp [intOf]
        · obtain rfl : k = 1 := by omega
          go_wp2
          go_ret2
          exact ⟨rfl, rfl⟩
  exact enter trivial

theorem cut_one (s : ByteArray) (i : Nat) (hi : i < s.size) : (s.extract i (i + 1)).size = 1 ∧ ∀ h : 0 < (s.extract i (i + 1)).size, (s.extract i (i + 1))[0]'h = s[i]'hi := by
  refine ⟨by rw [ByteArray.size_extract]; omega, fun h => ?_⟩
  rw [ByteArray.getElem_extract]
  simp
set_option maxHeartbeats 2000000 in
set_option maxRecDepth 100000 in
theorem l1Number_one (s : ByteArray) (i c : Nat) (dg : Int) (w : World) (hd : dg = 1 ∨ dg = 2) (hs : s.size ≤ 1000000) (hi : i < s.size) (hc : (s[i]'hi).toNat = c) (h1 : 48 ≤ c) (h2 : c ≤ 57) (hn : dg = 2 → Nd s (i + 1)) :
    Calls Tryd.prog 60 #[.string s, .int .i64 i, .int .i64 dg] w fun e w' => e = .returned (.tuple #[.int .i64 ((c : Int) - 48), .int .i64 ((i + 1 : Nat) : Int)]) ∧ w = w' := by
  obtain ⟨x1, x2⟩ := cut_one s i hi
  have hnum := hide (fun (w : World) => l19Num_one (s.extract i (i + 1)) c w x1 (fun h => by rw [x2 h, hc]) h1 h2)
  have d1 : decide ((48 : Int) ≤ (c : Int)) = true := decide_eq_true (by omega)
  have d2 : decide ((c : Int) ≤ 57) = true := decide_eq_true (by omega)
  have hn' := hide hn
  have hc' := hide hc
  have hd' := hide hd
  clear x1 x2 hn hd
  have hdl : 1 ≤ dg ∧ dg ≤ 2 := by rcases hd'.out with h | h <;> omega
  go_enter Tryd.func60, Tryd.ntmps60
  go_wp2
  go_loop [8] (fun v => ∃ k : Nat, k ≤ 1 ∧ v = .int .i64 (i + k : Nat)) (fun v => i + 1 - (intOf v).toNat)
  case atStart => exact ⟨0, by omega, rfl⟩
  case round =>
    obtain ⟨k, hk, rfl⟩ := hrel
    by_cases hk0 : k = 0
    · subst hk0
      go_wp2
      go_round
      case rel => exact ⟨1, by omega, rfl⟩
      case measure => simp [intOf]
    · obtain rfl : k = 1 := by omega
      clear hk hk0
      by_cases hl : i + 1 < s.size
      · rcases hd'.out with rfl | rfl
        · go_wp2_with (go_at_call 79; refine (hnum.out _).mono ?_; rintro e w1 ⟨rfl, rfl⟩)
          go_ret2
          exact ⟨rfl, rfl⟩
        · have hnd := hn'.out rfl hl
          obtain ⟨c2, hc2⟩ : ∃ c2, (s[i + 1]'hl).toNat = c2 := ⟨_, rfl⟩
          rw [hc2] at hnd
          by_cases h5 : c2 < 48
          · have e1 : decide ((48 : Int) ≤ (c2 : Int)) = false := decide_eq_false (by omega)
            go_wp2_with (go_at_call 79; refine (hnum.out _).mono ?_; rintro e w1 ⟨rfl, rfl⟩)
            go_ret2
            exact ⟨rfl, rfl⟩
          · have e1 : decide ((48 : Int) ≤ (c2 : Int)) = true := decide_eq_true (by omega)
            have e2 : decide ((c2 : Int) ≤ 57) = false := decide_eq_false (by omega)
            go_wp2_with (go_at_call 79; refine (hnum.out _).mono ?_; rintro e w1 ⟨rfl, rfl⟩)
            go_ret2
            exact ⟨rfl, rfl⟩
      · go_wp2_with (go_at_call 79; refine (hnum.out _).mono ?_; rintro e w1 ⟨rfl, rfl⟩)
        go_ret2
        exact ⟨rfl, rfl⟩
end Go.Proofs.YtjpgdfndlmipcaaDoor

namespace Go.Proofs.YtjpgdfndlmipcaaDoor.Cd
open Go.RowKit
set_option linter.unusedSimpArgs false
set_option linter.unusedVariables false

/-- how many operands a kind has -/
def arity (k : Int) : Int :=
  if k = 1 then 0 else if k = 4 then 0 else if k = 10 then 0 else if k = 2 then 1 else if k = 5 then 1 else if k = 8 then 1 else if k = 9 then 1 else
  if k = 3 then 2 else if k = 7 then 2 else if k = 6 then 3 else -1
/-- the greatest N of a kind -/
def mostN (k : Int) : Int := if k = 1 then 20 else 0

set_option maxRecDepth 100000 in
set_option maxHeartbeats 1000000 in
theorem l1Kids_any (k : Int) (w : World) : Calls Tryd.prog 38 #[.int .i64 k] w fun e w' => e = .returned (.int .i64 (arity k)) ∧ w = w' := by
  go_enter Tryd.func38, Tryd.ntmps38
  go_wp2
  all_goals go_ret
  all_goals refine ⟨ret_int ?_, rfl⟩
  all_goals simp_all [arity]

set_option maxRecDepth 100000 in
set_option maxHeartbeats 2000000 in
theorem operands_any (k : Int) (w : World) : Calls Tryd.prog 36 #[.int .i64 k] w fun e w' => e = .returned (.int .i64 (arity k)) ∧ Below w.heap.size w w' := by
  by_cases hk : 1 ≤ k ∧ k ≤ 10
  · have hc : k = 1 ∨ k = 2 ∨ k = 3 ∨ k = 4 ∨ k = 5 ∨ k = 6 ∨ k = 7 ∨ k = 8 ∨ k = 9 ∨ k = 10 := by omega
    have hx : (#[Value.int .i64 0, Value.int .i64 1, Value.int .i64 2, Value.int .i64 0, Value.int .i64 1, Value.int .i64 3, Value.int .i64 2, Value.int .i64 1, Value.int .i64 1, Value.int .i64 0] : Array Value)[k.toNat - 1]? = some (.int .i64 (arity k)) := by
      rcases hc with rfl | rfl | rfl | rfl | rfl | rfl | rfl | rfl | rfl | rfl <;> rfl
    obtain ⟨h1, h2⟩ := hk
    have hb : (decide (1 ≤ k) && decide (k ≤ 10)) = true := by simp [h1, h2]
    clear hc
    go_enter Tryd.func36, Tryd.ntmps36
    go_wp2_with (go_at_call 37; refine (within_any _ _ _ _).mono ?_; rintro e w' ⟨rfl, rfl⟩)
    go_ret
    exact ⟨rfl, (Below.refl _ _).alloc (Nat.le_refl _) _⟩
  · have hb : (decide (1 ≤ k) && decide (k ≤ 10)) = false := by
      rw [Bool.and_eq_false_iff, decide_eq_false_iff_not, decide_eq_false_iff_not]; omega
    have hH := hide hk
    clear hk
    go_enter Tryd.func36, Tryd.ntmps36
    go_wp2_with (go_at_call 37; refine (within_any _ _ _ _).mono ?_; rintro e w' ⟨rfl, rfl⟩)
    go_ret
    exact ⟨ret_int (by have := hH.out; unfold arity; repeat (rw [if_neg (by omega)])), Below.refl _ _⟩
end Go.Proofs.YtjpgdfndlmipcaaDoor.Cd

namespace Go.Proofs.YtjpgdfndlmipcaaDoor.Cd
open Go.RowKit
set_option linter.unusedSimpArgs false
set_option linter.unusedVariables false

/-- well formed, down to a depth -/
def shape : Nat → Tm → Bool
  | 0, _ => false
  | d + 1, .mk k n ks => arity k == (ks.length : Int) && decide (0 ≤ n) && decide (n ≤ mostN k) && ks.all (shape d)

theorem shape_split (d : Nat) (k n : Int) (ks : List Tm) : shape (d + 1) (.mk k n ks) = true ↔ arity k = (ks.length : Int) ∧ 0 ≤ n ∧ n ≤ mostN k ∧ ∀ t, t ∈ ks → shape d t = true := by
  simp only [shape, Bool.and_eq_true, beq_iff_eq, decide_eq_true_eq, List.all_eq_true, and_assoc]
theorem shape_no (d : Nat) (k n : Int) (ks : List Tm) (h : ¬ (arity k = (ks.length : Int) ∧ 0 ≤ n ∧ n ≤ mostN k)) : shape (d + 1) (.mk k n ks) = false := by
  cases e : shape (d + 1) (.mk k n ks) with
  | false => rfl
  | true => have := (shape_split d k n ks).1 e; exact absurd ⟨this.1, this.2.1, this.2.2.1⟩ h

set_option maxRecDepth 100000 in
set_option maxHeartbeats 4000000 in
theorem l1Shape_any (d : Nat) : ∀ (k n : Int) (ks : List Tm) (A : Option Addr) (c : Nat) (w : World), d ≤ 1000 → ks.length ≤ 9223372036854775807 → Rd w A 0 ks →
    Calls Tryd.prog 23 #[.agg #[.int .i64 k, .int .i64 n, .slice A ks.length c], .int .i64 d] w fun e w' => e = .returned (.bool (shape d (.mk k n ks))) ∧ Below w.heap.size w w' := by
  induction d with
  | zero =>
    intro k n ks A c w hd hl hr
    go_enter Tryd.func23, Tryd.ntmps23
    go_wp2_with fail
    refine name_world ?_
    intro wx hwx
    have hb0 : Below w.heap.size w wx := by rw [hwx]; exact (Below.refl _ _).alloc (Nat.le_refl _) _
    clear hwx
    refine wp_region_class (fun w' => Below wx.heap.size wx w') (by kernel_rfl) (by kernel_rfl) (Below.refl _ _).drew ?_
    repeat (first | ((refine quiet_skip (a' := ?_) ?_ ?_ ?_); (rotate_left); (· (simp [Region.wanted, yielded, Go.undef]; done)); (· (simp only [Act.put, List.setIfInBounds_toArray, List.set_cons_zero, List.set_cons_succ]; exact rfl))) | ((refine quiet_one (v := ?_) (a' := ?_) ?_ ?_ ?_ ?_); (rotate_left 2); (· (simp [Region.wanted, yielded, Go.undef]; done)); (· (intro w' hS'; go_simp; try (with_reducible rfl))); (· (simp only [Act.put, List.setIfInBounds_toArray, List.set_cons_zero, List.set_cons_succ]; exact rfl))))
    refine quiet_nil ?_
    intro w2 hb2
    go_wp2_with fail
    go_ret
    exact ⟨rfl, hb0.trans (hb2.mono hb0.size)⟩
  | succ d ih =>
    intro k n ks A c w hd hl hr
    have hz := hide (shape_split d k n ks)
    rw [show ((d + 1 : Nat) : Int) = (d : Int) + 1 from by omega]
    have q0 : decide ((d : Int) + 1 < 1) = false := by simp; omega
    by_cases h1 : arity k = (ks.length : Int)
    · have q1 : (arity k != (ks.length : Int)) = false := by simpa using h1
      by_cases h2 : 0 ≤ n
      · have q2 : decide (n < 0) = false := by simp; omega
        by_cases hk : k = 1
        · have q4 : (k != 1) = false := by simpa using hk
          by_cases h3 : n ≤ 20
          · have q3 : decide (20 < n) = false := by simp; omega
            have H := hide (show arity k = (ks.length : Int) ∧ 0 ≤ n ∧ n ≤ mostN k from ⟨h1, h2, by simp [mostN, hk]; omega⟩)
            clear h1 hk
            go_enter Tryd.func23, Tryd.ntmps23
            go_wp2_with fail
            refine name_world ?_
            intro wx hwx
            have hb0 : Below w.heap.size w wx := by rw [hwx]; exact (Below.refl _ _).alloc (Nat.le_refl _) _
            have hB : Blk wx w.heap.size #[.int .i64 k, .int .i64 n, .slice A ks.length c] := by rw [hwx]; exact Blk.new _ _ _
            have hrx : Rd wx A 0 ks := by rw [hwx]; exact hr.alloc _
            have r0 := hB.rule (i := 0) rfl
            have r1 := hB.rule (i := 1) rfl
            have r2 := hB.rule (i := 2) rfl
            clear hwx
            refine wp_region_class (fun w' => Below wx.heap.size wx w') (by kernel_rfl) (by kernel_rfl) (Below.refl _ _).drew ?_
            repeat (first | ((refine quiet_skip (a' := ?_) ?_ ?_ ?_); (rotate_left); (· (simp [Region.wanted, yielded, Go.undef]; done)); (· (simp only [Act.put, List.setIfInBounds_toArray, List.set_cons_zero, List.set_cons_succ]; exact rfl))) | ((refine quiet_one (v := ?_) (a' := ?_) ?_ ?_ ?_ ?_); (rotate_left 2); (· (simp [Region.wanted, yielded, Go.undef]; done)); (· (intro w' hS'; go_simp; try (with_reducible rfl))); (· (simp only [Act.put, List.setIfInBounds_toArray, List.set_cons_zero, List.set_cons_succ]; exact rfl))) | ((refine quiet_same (v := ?_) (a' := ?_) 38 ?_ ?_ ?_ ?_ ?_ ?_); (rotate_left 3); (· (simp [Region.wanted, yielded, Go.undef]; done)); (· (intro w' hS'; go_simp; try (with_reducible rfl))); (· (intro w' hS'; exact l1Kids_any _ _)); (· (simp only [Act.put, List.setIfInBounds_toArray, List.set_cons_zero, List.set_cons_succ]; exact rfl))))
            refine quiet_nil ?_
            intro w2 hb2
            replace hB := hB.keep hb2
            replace hrx := hrx.below hb2
            replace hb0 := hb0.trans (hb2.mono hb0.size)
            clear r0 r1 r2 hb2
            go_wp2_with fail
            go_loopw [5] (fun i wr => ∃ j : Nat, j ≤ ks.length ∧ i = .int .i64 j ∧ Hid (∀ t, t ∈ ks.take j → shape d t = true) ∧ Below w2.heap.size w2 wr) (fun i _ => ks.length - (intOf i).toNat)
            case atStart => exact ⟨0, Nat.zero_le _, rfl, hide (by simp), Below.refl _ _⟩
            case round =>
              obtain ⟨j, hj, rfl, hall, hb⟩ := hrel
              replace hB := hB.keep hb
              have c2 := hB.at_ (i := 2) rfl
              by_cases hlt : j < ks.length
              · obtain ⟨b, off, k1, n1, ks1, A1, c1, rfl, hkj, hc1, hc2, hc3, hl1, hr1⟩ := (hrx.below hb).at_ hlt
                have H3 := hide hkj
                clear hkj
                go_wp2_with (go_at_call 23; refine (ih k1 n1 ks1 A1 c1 _ (by omega) hl1 hr1).mono ?_; rintro e w3 ⟨rfl, hb3⟩)
                · go_ret
                  have hne : (!shape d (.mk k1 n1 ks1)) = true := by assumption
                  refine ⟨ret_bool ?_, hb0.trans ((hb.trans (hb3.mono hb.size)).mono hb0.size)⟩
                  cases e : shape (d + 1) (.mk k n ks) with
                  | false => rfl
                  | true =>
                    have := (hz.out.1 e).2.2.2 ks[j] (List.getElem_mem hlt)
                    rw [H3.out] at this
                    rw [this] at hne
                    cases hne
                · have hne : (!shape d (.mk k1 n1 ks1)) = false := by assumption
                  go_roundw
                  case rel =>
                    refine ⟨j + 1, by omega, by go_num, hide ?_, hb.trans (hb3.mono hb.size)⟩
                    rw [List.take_succ_eq_append_getElem hlt, H3.out]
                    intro t ht
                    rcases List.mem_append.1 ht with ht | ht
                    · exact hall.out t ht
                    · simp only [List.mem_singleton] at ht
                      subst ht
                      simpa using hne
                  case measure => simp [intOf]; omega
              · go_wp2_with fail
                go_ret
                have hjl : j = ks.length := by omega
                have hall' := hall.out
                rw [hjl, List.take_length] at hall'
                exact ⟨ret_bool (hz.out.2 ⟨H.out.1, H.out.2.1, H.out.2.2, hall'⟩).symm, hb0.trans (hb.mono hb0.size)⟩
          · have q3 : decide (20 < n) = true := by simp; omega
            have H := hide (show ¬ n ≤ mostN k from by simp [mostN, hk]; omega)
            clear h1 hk
            go_enter Tryd.func23, Tryd.ntmps23
            go_wp2_with fail
            refine name_world ?_
            intro wx hwx
            have hb0 : Below w.heap.size w wx := by rw [hwx]; exact (Below.refl _ _).alloc (Nat.le_refl _) _
            have hB : Blk wx w.heap.size #[.int .i64 k, .int .i64 n, .slice A ks.length c] := by rw [hwx]; exact Blk.new _ _ _
            have hrx : Rd wx A 0 ks := by rw [hwx]; exact hr.alloc _
            have r0 := hB.rule (i := 0) rfl
            have r1 := hB.rule (i := 1) rfl
            have r2 := hB.rule (i := 2) rfl
            clear hwx
            refine wp_region_class (fun w' => Below wx.heap.size wx w') (by kernel_rfl) (by kernel_rfl) (Below.refl _ _).drew ?_
            repeat (first | ((refine quiet_skip (a' := ?_) ?_ ?_ ?_); (rotate_left); (· (simp [Region.wanted, yielded, Go.undef]; done)); (· (simp only [Act.put, List.setIfInBounds_toArray, List.set_cons_zero, List.set_cons_succ]; exact rfl))) | ((refine quiet_one (v := ?_) (a' := ?_) ?_ ?_ ?_ ?_); (rotate_left 2); (· (simp [Region.wanted, yielded, Go.undef]; done)); (· (intro w' hS'; go_simp; try (with_reducible rfl))); (· (simp only [Act.put, List.setIfInBounds_toArray, List.set_cons_zero, List.set_cons_succ]; exact rfl))) | ((refine quiet_same (v := ?_) (a' := ?_) 38 ?_ ?_ ?_ ?_ ?_ ?_); (rotate_left 3); (· (simp [Region.wanted, yielded, Go.undef]; done)); (· (intro w' hS'; go_simp; try (with_reducible rfl))); (· (intro w' hS'; exact l1Kids_any _ _)); (· (simp only [Act.put, List.setIfInBounds_toArray, List.set_cons_zero, List.set_cons_succ]; exact rfl))))
            refine quiet_nil ?_
            intro w2 hb2
            replace hB := hB.keep hb2
            replace hrx := hrx.below hb2
            replace hb0 := hb0.trans (hb2.mono hb0.size)
            clear r0 r1 r2 hb2
            go_wp2_with fail
            go_ret
            exact ⟨ret_bool (shape_no _ _ _ _ (by have := H.out; omega)).symm, hb0⟩
        · have q4 : (k != 1) = true := by simpa using hk
          by_cases h3 : n ≤ 0
          · have q5 : decide (0 < n) = false := by simp; omega
            have q3 : decide (20 < n) = false := by simp; omega
            have H := hide (show arity k = (ks.length : Int) ∧ 0 ≤ n ∧ n ≤ mostN k from ⟨h1, h2, by simp [mostN, hk]; omega⟩)
            clear h1 hk
            go_enter Tryd.func23, Tryd.ntmps23
            go_wp2_with fail
            refine name_world ?_
            intro wx hwx
            have hb0 : Below w.heap.size w wx := by rw [hwx]; exact (Below.refl _ _).alloc (Nat.le_refl _) _
            have hB : Blk wx w.heap.size #[.int .i64 k, .int .i64 n, .slice A ks.length c] := by rw [hwx]; exact Blk.new _ _ _
            have hrx : Rd wx A 0 ks := by rw [hwx]; exact hr.alloc _
            have r0 := hB.rule (i := 0) rfl
            have r1 := hB.rule (i := 1) rfl
            have r2 := hB.rule (i := 2) rfl
            clear hwx
            refine wp_region_class (fun w' => Below wx.heap.size wx w') (by kernel_rfl) (by kernel_rfl) (Below.refl _ _).drew ?_
            repeat (first | ((refine quiet_skip (a' := ?_) ?_ ?_ ?_); (rotate_left); (· (simp [Region.wanted, yielded, Go.undef]; done)); (· (simp only [Act.put, List.setIfInBounds_toArray, List.set_cons_zero, List.set_cons_succ]; exact rfl))) | ((refine quiet_one (v := ?_) (a' := ?_) ?_ ?_ ?_ ?_); (rotate_left 2); (· (simp [Region.wanted, yielded, Go.undef]; done)); (· (intro w' hS'; go_simp; try (with_reducible rfl))); (· (simp only [Act.put, List.setIfInBounds_toArray, List.set_cons_zero, List.set_cons_succ]; exact rfl))) | ((refine quiet_same (v := ?_) (a' := ?_) 38 ?_ ?_ ?_ ?_ ?_ ?_); (rotate_left 3); (· (simp [Region.wanted, yielded, Go.undef]; done)); (· (intro w' hS'; go_simp; try (with_reducible rfl))); (· (intro w' hS'; exact l1Kids_any _ _)); (· (simp only [Act.put, List.setIfInBounds_toArray, List.set_cons_zero, List.set_cons_succ]; exact rfl))))
            refine quiet_nil ?_
            intro w2 hb2
            replace hB := hB.keep hb2
            replace hrx := hrx.below hb2
            replace hb0 := hb0.trans (hb2.mono hb0.size)
            clear r0 r1 r2 hb2
            go_wp2_with fail
            go_loopw [5] (fun i wr => ∃ j : Nat, j ≤ ks.length ∧ i = .int .i64 j ∧ Hid (∀ t, t ∈ ks.take j → shape d t = true) ∧ Below w2.heap.size w2 wr) (fun i _ => ks.length - (intOf i).toNat)
            case atStart => exact ⟨0, Nat.zero_le _, rfl, hide (by simp), Below.refl _ _⟩
            case round =>
              obtain ⟨j, hj, rfl, hall, hb⟩ := hrel
              replace hB := hB.keep hb
              have c2 := hB.at_ (i := 2) rfl
              by_cases hlt : j < ks.length
              · obtain ⟨b, off, k1, n1, ks1, A1, c1, rfl, hkj, hc1, hc2, hc3, hl1, hr1⟩ := (hrx.below hb).at_ hlt
                have H3 := hide hkj
                clear hkj
                go_wp2_with (go_at_call 23; refine (ih k1 n1 ks1 A1 c1 _ (by omega) hl1 hr1).mono ?_; rintro e w3 ⟨rfl, hb3⟩)
                · go_ret
                  have hne : (!shape d (.mk k1 n1 ks1)) = true := by assumption
                  refine ⟨ret_bool ?_, hb0.trans ((hb.trans (hb3.mono hb.size)).mono hb0.size)⟩
                  cases e : shape (d + 1) (.mk k n ks) with
                  | false => rfl
                  | true =>
                    have := (hz.out.1 e).2.2.2 ks[j] (List.getElem_mem hlt)
                    rw [H3.out] at this
                    rw [this] at hne
                    cases hne
                · have hne : (!shape d (.mk k1 n1 ks1)) = false := by assumption
                  go_roundw
                  case rel =>
                    refine ⟨j + 1, by omega, by go_num, hide ?_, hb.trans (hb3.mono hb.size)⟩
                    rw [List.take_succ_eq_append_getElem hlt, H3.out]
                    intro t ht
                    rcases List.mem_append.1 ht with ht | ht
                    · exact hall.out t ht
                    · simp only [List.mem_singleton] at ht
                      subst ht
                      simpa using hne
                  case measure => simp [intOf]; omega
              · go_wp2_with fail
                go_ret
                have hjl : j = ks.length := by omega
                have hall' := hall.out
                rw [hjl, List.take_length] at hall'
                exact ⟨ret_bool (hz.out.2 ⟨H.out.1, H.out.2.1, H.out.2.2, hall'⟩).symm, hb0.trans (hb.mono hb0.size)⟩
          · have q5 : decide (0 < n) = true := by simp; omega
            have H := hide (show ¬ n ≤ mostN k from by simp [mostN, hk]; omega)
            clear h1 hk
            go_enter Tryd.func23, Tryd.ntmps23
            go_wp2_with fail
            refine name_world ?_
            intro wx hwx
            have hb0 : Below w.heap.size w wx := by rw [hwx]; exact (Below.refl _ _).alloc (Nat.le_refl _) _
            have hB : Blk wx w.heap.size #[.int .i64 k, .int .i64 n, .slice A ks.length c] := by rw [hwx]; exact Blk.new _ _ _
            have hrx : Rd wx A 0 ks := by rw [hwx]; exact hr.alloc _
            have r0 := hB.rule (i := 0) rfl
            have r1 := hB.rule (i := 1) rfl
            have r2 := hB.rule (i := 2) rfl
            clear hwx
            refine wp_region_class (fun w' => Below wx.heap.size wx w') (by kernel_rfl) (by kernel_rfl) (Below.refl _ _).drew ?_
            repeat (first | ((refine quiet_skip (a' := ?_) ?_ ?_ ?_); (rotate_left); (· (simp [Region.wanted, yielded, Go.undef]; done)); (· (simp only [Act.put, List.setIfInBounds_toArray, List.set_cons_zero, List.set_cons_succ]; exact rfl))) | ((refine quiet_one (v := ?_) (a' := ?_) ?_ ?_ ?_ ?_); (rotate_left 2); (· (simp [Region.wanted, yielded, Go.undef]; done)); (· (intro w' hS'; go_simp; try (with_reducible rfl))); (· (simp only [Act.put, List.setIfInBounds_toArray, List.set_cons_zero, List.set_cons_succ]; exact rfl))) | ((refine quiet_same (v := ?_) (a' := ?_) 38 ?_ ?_ ?_ ?_ ?_ ?_); (rotate_left 3); (· (simp [Region.wanted, yielded, Go.undef]; done)); (· (intro w' hS'; go_simp; try (with_reducible rfl))); (· (intro w' hS'; exact l1Kids_any _ _)); (· (simp only [Act.put, List.setIfInBounds_toArray, List.set_cons_zero, List.set_cons_succ]; exact rfl))))
            refine quiet_nil ?_
            intro w2 hb2
            replace hB := hB.keep hb2
            replace hrx := hrx.below hb2
            replace hb0 := hb0.trans (hb2.mono hb0.size)
            clear r0 r1 r2 hb2
            go_wp2_with fail
            go_ret
            exact ⟨ret_bool (shape_no _ _ _ _ (by have := H.out; omega)).symm, hb0⟩
      · have q2 : decide (n < 0) = true := by simp; omega
        have H := hide h2
        clear h1
        go_enter Tryd.func23, Tryd.ntmps23
        go_wp2_with fail
        refine name_world ?_
        intro wx hwx
        have hb0 : Below w.heap.size w wx := by rw [hwx]; exact (Below.refl _ _).alloc (Nat.le_refl _) _
        have hB : Blk wx w.heap.size #[.int .i64 k, .int .i64 n, .slice A ks.length c] := by rw [hwx]; exact Blk.new _ _ _
        have hrx : Rd wx A 0 ks := by rw [hwx]; exact hr.alloc _
        have r0 := hB.rule (i := 0) rfl
        have r1 := hB.rule (i := 1) rfl
        have r2 := hB.rule (i := 2) rfl
        clear hwx
        refine wp_region_class (fun w' => Below wx.heap.size wx w') (by kernel_rfl) (by kernel_rfl) (Below.refl _ _).drew ?_
        repeat (first | ((refine quiet_skip (a' := ?_) ?_ ?_ ?_); (rotate_left); (· (simp [Region.wanted, yielded, Go.undef]; done)); (· (simp only [Act.put, List.setIfInBounds_toArray, List.set_cons_zero, List.set_cons_succ]; exact rfl))) | ((refine quiet_one (v := ?_) (a' := ?_) ?_ ?_ ?_ ?_); (rotate_left 2); (· (simp [Region.wanted, yielded, Go.undef]; done)); (· (intro w' hS'; go_simp; try (with_reducible rfl))); (· (simp only [Act.put, List.setIfInBounds_toArray, List.set_cons_zero, List.set_cons_succ]; exact rfl))) | ((refine quiet_same (v := ?_) (a' := ?_) 38 ?_ ?_ ?_ ?_ ?_ ?_); (rotate_left 3); (· (simp [Region.wanted, yielded, Go.undef]; done)); (· (intro w' hS'; go_simp; try (with_reducible rfl))); (· (intro w' hS'; exact l1Kids_any _ _)); (· (simp only [Act.put, List.setIfInBounds_toArray, List.set_cons_zero, List.set_cons_succ]; exact rfl))))
        refine quiet_nil ?_
        intro w2 hb2
        replace hB := hB.keep hb2
        replace hrx := hrx.below hb2
        replace hb0 := hb0.trans (hb2.mono hb0.size)
        clear r0 r1 r2 hb2
        go_wp2_with fail
        go_ret
        exact ⟨ret_bool (shape_no _ _ _ _ (by have := H.out; omega)).symm, hb0⟩
    · have q1 : (arity k != (ks.length : Int)) = true := by simpa using h1
      have H := hide h1
      clear h1
      go_enter Tryd.func23, Tryd.ntmps23
      go_wp2_with fail
      refine name_world ?_
      intro wx hwx
      have hb0 : Below w.heap.size w wx := by rw [hwx]; exact (Below.refl _ _).alloc (Nat.le_refl _) _
      have hB : Blk wx w.heap.size #[.int .i64 k, .int .i64 n, .slice A ks.length c] := by rw [hwx]; exact Blk.new _ _ _
      have hrx : Rd wx A 0 ks := by rw [hwx]; exact hr.alloc _
      have r0 := hB.rule (i := 0) rfl
      have r1 := hB.rule (i := 1) rfl
      have r2 := hB.rule (i := 2) rfl
      clear hwx
      refine wp_region_class (fun w' => Below wx.heap.size wx w') (by kernel_rfl) (by kernel_rfl) (Below.refl _ _).drew ?_
      repeat (first | ((refine quiet_skip (a' := ?_) ?_ ?_ ?_); (rotate_left); (· (simp [Region.wanted, yielded, Go.undef]; done)); (· (simp only [Act.put, List.setIfInBounds_toArray, List.set_cons_zero, List.set_cons_succ]; exact rfl))) | ((refine quiet_one (v := ?_) (a' := ?_) ?_ ?_ ?_ ?_); (rotate_left 2); (· (simp [Region.wanted, yielded, Go.undef]; done)); (· (intro w' hS'; go_simp; try (with_reducible rfl))); (· (simp only [Act.put, List.setIfInBounds_toArray, List.set_cons_zero, List.set_cons_succ]; exact rfl))) | ((refine quiet_same (v := ?_) (a' := ?_) 38 ?_ ?_ ?_ ?_ ?_ ?_); (rotate_left 3); (· (simp [Region.wanted, yielded, Go.undef]; done)); (· (intro w' hS'; go_simp; try (with_reducible rfl))); (· (intro w' hS'; exact l1Kids_any _ _)); (· (simp only [Act.put, List.setIfInBounds_toArray, List.set_cons_zero, List.set_cons_succ]; exact rfl))))
      refine quiet_nil ?_
      intro w2 hb2
      replace hB := hB.keep hb2
      replace hrx := hrx.below hb2
      replace hb0 := hb0.trans (hb2.mono hb0.size)
      clear r0 r1 r2 hb2
      go_wp2_with fail
      go_ret
      exact ⟨ret_bool (shape_no _ _ _ _ (by have := H.out; omega)).symm, hb0⟩
end Go.Proofs.YtjpgdfndlmipcaaDoor.Cd

namespace Go.Proofs.YtjpgdfndlmipcaaDoor.Cd
open Go.RowKit
set_option linter.unusedSimpArgs false
set_option linter.unusedVariables false

/-- a count that stops early -/
def CountR (m : Nat) (most r : Int) : Prop := 1 ≤ r ∧ r ≤ m ∧ (r = m ∨ most < r)
def CountPost (m : Nat) (most : Int) (w : World) (e : Ending) (w' : World) : Prop := ∃ r : Int, e = .returned (.int .i64 r) ∧ CountR m most r ∧ Below w.heap.size w w'

theorem sizes_take (ks : List Tm) (j : Nat) (hj : j < ks.length) : sizes (ks.take (j + 1)) = sizes (ks.take j) + ks[j].size := by
  rw [List.take_succ_eq_append_getElem hj, sizes_append]; simp [sizes]
theorem sizes_take_le (ks : List Tm) (j : Nat) : sizes (ks.take j) ≤ sizes ks := by
  have := sizes_append (ks.take j) (ks.drop j); rw [List.take_append_drop] at this; omega

set_option maxRecDepth 100000 in
set_option maxHeartbeats 1000000 in
theorem l1Count_any (N : Nat) : ∀ (k n : Int) (ks : List Tm) (A : Option Addr) (c : Nat) (most : Int) (w : World), sizes ks < N → sizes ks ≤ 1099511627776 → -1099511627776 ≤ most → most ≤ 1099511627776 → Rd w A 0 ks →
    Calls Tryd.prog 24 #[.agg #[.int .i64 k, .int .i64 n, .slice A ks.length c], .int .i64 most] w (CountPost (sizes ks + 1) most w) := by
  induction N with
  | zero => intro k n ks A c most w hN; exact absurd hN (Nat.not_lt_zero _)
  | succ N ih =>
  intro k n ks A c most w hN hM hlo hhi hr
  have hlen := length_le_sizes ks
  go_enter Tryd.func24, Tryd.ntmps24
  go_wp2_with fail
  go_loopw [5, 6] (fun a i wr => ∃ (j : Nat) (acc : Int), j ≤ ks.length ∧ i = .int .i64 j ∧ a = .int .i64 acc ∧ 1 ≤ acc ∧ acc ≤ 1 + sizes (ks.take j) ∧ Hid (acc = 1 + sizes (ks.take j) ∨ most < acc) ∧ Blk wr w.heap.size #[.int .i64 k, .int .i64 n, .slice A ks.length c] ∧ Below w.heap.size w wr)
    (fun _ i _ => ks.length - (intOf i).toNat)
  case atStart => exact ⟨0, 1, Nat.zero_le _, rfl, rfl, by omega, by simp [sizes], hide (by simp [sizes]), Blk.new _ _ _, (Below.refl _ _).alloc (Nat.le_refl _) _⟩
  case round =>
    obtain ⟨j, acc, hj, rfl, rfl, ha1, ha2, ha3, hB, hb⟩ := hrel
    have c2 := hB.at_ (i := 2) rfl
    have hsl := sizes_take_le ks j
    by_cases hlt : j < ks.length
    · by_cases hm : acc ≤ most
      · obtain ⟨b, off, k1, n1, ks1, A1, c1, rfl, hkj, hc1, hc2, hc3, hl1, hr1⟩ := (hr.below hb).at_ hlt
        have hst := sizes_take ks j hlt
        have hsz := sizes_le (List.getElem_mem hlt)
        rw [hkj] at hsz hst
        simp only [Tm.size] at hsz hst
        have H3 := hide hst
        clear hkj hst
        go_wp2_with (go_at_call 24; refine (ih k1 n1 ks1 A1 c1 _ _ (by omega) (by omega) (by omega) (by omega) hr1).mono ?_; rintro e w3 ⟨r, rfl, ⟨hr1, hr2, hr3⟩, hb3⟩; have hr3' := hide hr3; clear hr3)
        go_roundw
        case rel =>
          refine ⟨j + 1, acc + r, by omega, by go_num, rfl, by omega, by rw [H3.out]; have := ha3.out; omega, hide ?_, hB.keep hb3, hb.trans (hb3.mono hb.size)⟩
          rw [H3.out]
          have h1 := ha3.out
          have h2 := hr3'.out
          omega
        case measure => simp [intOf]; omega
      · go_wp2_with fail
        go_ret
        exact ⟨acc, rfl, ⟨ha1, by omega, Or.inr (by omega)⟩, hb⟩
    · go_wp2_with fail
      go_ret
      have h1 := ha3.out
      have hjl : j = ks.length := by omega
      rw [hjl, List.take_length] at h1 ha2
      exact ⟨acc, rfl, ⟨ha1, by omega, by omega⟩, hb⟩

/-- a valid term -/
def validT (t : Tm) : Bool := shape 30 t && decide (t.size ≤ 400)

set_option maxRecDepth 100000 in
set_option maxHeartbeats 1000000 in
theorem sTermValid_any (k n : Int) (ks : List Tm) (A : Option Addr) (c : Nat) (w : World) (hM : sizes ks ≤ 1099511627775) (hr : Rd w A 0 ks) :
    Calls Tryd.prog 12 #[.agg #[.int .i64 k, .int .i64 n, .slice A ks.length c]] w fun e w' => e = .returned (.bool (validT (.mk k n ks))) ∧ Below w.heap.size w w' := by
  have hlen := length_le_sizes ks
  cases hs : shape 30 (.mk k n ks) with
  | false =>
    have hv : validT (.mk k n ks) = false := by simp [validT, hs]
    rw [hv]
    go_enter Tryd.func12, Tryd.ntmps12
    go_wp2_with (go_at_call 23; refine (l1Shape_any 30 k n ks A c _ (by omega) (by omega) (hr.alloc _)).mono ?_; rintro e w1 ⟨rfl, hb1⟩; obtain ⟨hc, hf⟩ := bcell hb1)
    go_ret
    exact ⟨rfl, ((Below.refl _ _).alloc (Nat.le_refl _) _).trans (hb1.mono (by simp))⟩
  | true =>
    have hv : validT (.mk k n ks) = decide (sizes ks + 1 ≤ 400) := by simp [validT, hs, Tm.size]
    rw [hv]
    go_enter Tryd.func12, Tryd.ntmps12
    go_wp2_with (first | (go_at_call 23; refine (l1Shape_any 30 k n ks A c _ (by omega) (by omega) (hr.alloc _)).mono ?_; rintro e w1 ⟨rfl, hb1⟩; obtain ⟨hc, hf⟩ := bcell hb1) | (go_at_call 24; refine (l1Count_any (sizes ks + 1) k n ks A c 400 _ (by omega) (by omega) (by omega) (by omega) ((hr.alloc _).below hb1)).mono ?_; rintro e w2 ⟨r, rfl, ⟨hr1, hr2, hr3⟩, hb2⟩; have hr3' := hide hr3; clear hr3))
    go_ret
    have h3 := hr3'.out
    exact ⟨ret_bool (by rw [decide_eq_decide]; omega), ((Below.refl _ _).alloc (Nat.le_refl _) _).trans ((hb1.trans (hb2.mono hb1.size)).mono (by simp))⟩
end Go.Proofs.YtjpgdfndlmipcaaDoor.Cd
