/-
  Texts that are common to the laws: Pick, Num, Copy, Draw, ArgY. No condition.
-/
import Derived.Test.YtodkenpmhhbppaaK1
import Derived.Test.YtodkenpmhhbppaaK2
import Derived.IntWalk
import Derived.Laws.BitsAllLaws
import Derived.Laws.BitsLemmas
import Derived.WalkSpells
import Derived.WalkLawsBesides
import Derived.Test.YtodkenpmhhbppaaChecked
import Derived.ChangeSlices
import Derived.ProofKit
import Derived.OpenShut
import Derived.JoinedCond
import Derived.Carry
import Derived.Below
import Derived.ChangeSame

namespace Go.Proofs.Ytodkenpmhhbppaa
open Go.RowKit
set_option linter.unusedSimpArgs false
set_option linter.unusedVariables false

/-- the reader at block r: its bytes lie elsewhere, all below B; so many numbers have been asked for -/
def Rdr (B : Nat) (w : World) (r p : Nat) : Prop :=
  ∃ (A : Option Addr) (bs : List Int) (c : Nat), Blk w r #[.slice A bs.length c, .int .i64 p] ∧ bs.length ≤ 2000 ∧ r < B ∧
    ∀ j (hj : j < bs.length), ∃ b off, A = some ⟨b, off, none⟩ ∧ w.cell? ⟨b, off + j, none⟩ = some (.int .u8 bs[j]) ∧ 0 ≤ bs[j] ∧ bs[j] ≤ 255 ∧ b ≠ r ∧ b < B
theorem Rdr.keep {B r p : Nat} {w w' : World} (h : Rdr B w r p) (hk : ∀ b, b < B → w'.heap[b]? = w.heap[b]?) : Rdr B w' r p := by
  obtain ⟨A, bs, c, ⟨t, h1⟩, h2, h3, h4⟩ := h
  refine ⟨A, bs, c, ⟨t, (hk r h3).trans h1⟩, h2, h3, fun j hj => ?_⟩
  obtain ⟨b, off, e, h5, h6, h7, h8, h9⟩ := h4 j hj
  exact ⟨b, off, e, (World.cell?_of_block (w := w) (a := ⟨b, off + j, none⟩) (hk b h9)).trans h5, h6, h7, h8, h9⟩
theorem Rdr.below {B B' r p : Nat} {w w' : World} (h : Rdr B w r p) (hb : Below B' w w') (hB : B ≤ B') : Rdr B w' r p := h.keep fun b hl => hb.block b (by omega)
theorem Rdr.alloc {B r p : Nat} {w : World} (h : Rdr B w r p) (hB : B ≤ w.heap.size) (o : Obj) : Rdr B (w.alloc o) r p := h.keep fun b hl => Below.heap_alloc w o b (by omega)
theorem Rdr.drew {B r p : Nat} {w : World} (h : Rdr B w r p) : Rdr B w.drew r p := h
theorem Rdr.setCell {B r p : Nat} {w : World} (h : Rdr B w r p) {a : Addr} (ha : B ≤ a.block) (u : Value) : Rdr B (w.setCell a u) r p := h.keep fun b hl => Below.heap_setCell w a u b (by omega)
theorem Rdr.step {B r p : Nat} {w : World} (h : Rdr B w r p) (q : Nat) : Rdr B (w.setCell ⟨r, 1, none⟩ (.int .i64 q)) r q := by
  obtain ⟨A, bs, c, h1, h2, h3, h4⟩ := h
  refine ⟨A, bs, c, h1.set_ 1 _, h2, h3, fun j hj => ?_⟩
  obtain ⟨b, off, e, h5, h6, h7, h8, h9⟩ := h4 j hj
  exact ⟨b, off, e, (World.cell?_of_block (w := w) (a := ⟨b, off + j, none⟩) (Below.heap_setCell w _ _ b h8)).trans h5, h6, h7, h8, h9⟩

/-- what asking for a number below n gives -/
def Picked (B : Nat) (w : World) (r p : Nat) (n : Int) (e : Ending) (w' : World) : Prop :=
  ∃ m : Nat, e = .returned (.int .i64 m) ∧ (1 ≤ n → (m : Int) < n) ∧ (n < 1 → m = 0) ∧ Rdr B w' r (p + 1) ∧ w.grownBy w' (some r)

theorem ofInt_i64 (a : Nat) (ha : a < 9223372036854775808) : (BitVec.ofInt 64 (a : Int)).toNat = a := by
  rw [BitVec.ofInt_natCast, BitVec.toNat_ofNat]; exact Nat.mod_eq_of_lt (by omega)
theorem i64_xor_nat (a b : Nat) (ha : a < 9223372036854775808) (hb : b < 9223372036854775808) : bits .xor .i64 (a : Int) (b : Int) = ((a ^^^ b : Nat) : Int) := by
  have hx : a ^^^ b < 2 ^ 63 := Nat.xor_lt_two_pow (by omega) (by omega)
  show IntKind.i64.wrap ((BitVec.ofInt 64 (a : Int) ^^^ BitVec.ofInt 64 (b : Int)).toNat : Int) = _
  rw [BitVec.toNat_xor, ofInt_i64 a ha, ofInt_i64 b hb, IntKind.wrap_i64]
  omega

theorem mix_sum (x1 x2 : Int) (p dv : Nat) (h1 : 0 ≤ x1) (h2 : x1 ≤ 255) (h3 : 0 ≤ x2) (h4 : x2 ≤ 255) (h5 : p ≤ 1000000000) (h6 : dv ≤ p) :
    wrap64 (x1 * 131 + x2 * 1117 + (p : Int) * 29 + wrap64 (wrap64 (dv : Int) * 53)) = x1 * 131 + x2 * 1117 + (p : Int) * 29 + (dv : Int) * 53 ∧ 0 ≤ x1 * 131 + x2 * 1117 + (p : Int) * 29 + (dv : Int) * 53 ∧ x1 * 131 + x2 * 1117 + (p : Int) * 29 + (dv : Int) * 53 ≤ ((200000000000 : Nat) : Int) := by
  have e1 : wrap64 (dv : Int) = dv := IntWalk.wrap64_in _ ⟨by omega, by omega⟩
  have e2 : wrap64 ((dv : Int) * 53) = (dv : Int) * 53 := IntWalk.wrap64_in _ ⟨by omega, by omega⟩
  rw [e1, e2]
  exact ⟨IntWalk.wrap64_in _ ⟨by omega, by omega⟩, by omega, by omega⟩
theorem div_wrap (m : Nat) (h : m ≤ 200000000000) : wrap64 ((m : Int) / 64) = (m : Int) / 64 := IntWalk.wrap64_in _ ⟨by omega, by omega⟩

set_option maxHeartbeats 4000000 in
set_option maxRecDepth 100000 in
theorem pick_any (B r p : Nat) (n : Int) (w : World) (hp : p ≤ 1000000000) (hn : n ≤ 1000000000) (hB : B ≤ w.heap.size) (hr : Rdr B w r p) :
    Calls Try.prog 52 #[.pointer (some ⟨r, 0, none⟩), .int .i64 n] w (Picked B w r p n) := by
  have hst := hr.step (p + 1)
  obtain ⟨A, bs, c, h1, h2, h3, h4⟩ := hr
  have b0 := h1.at_ (i := 0) rfl
  have b1 := h1.at_ (i := 1) rfl
  have e1 := h1.frozen 1
  have b2 := (h1.set_ 1 (.int .i64 (p + 1 : Nat))).at_ (i := 0) rfl
  have b3 := (h1.set_ 1 (.int .i64 (p + 1 : Nat))).at_ (i := 1) rfl
  have hg : w.grownBy (w.setCell ⟨r, 1, none⟩ (.int .i64 (p + 1 : Nat))) (some r) := only_setCell (World.grownBy.refl _ _) (.inl rfl) _
  by_cases hn1 : n < 1
  · go_enter Try.func52, Try.ntmps52
    go_wp2_with fail
    go_ret
    exact ⟨0, rfl, by omega, fun _ => rfl, hst, hg⟩
  · by_cases hl : bs.length = 0
    · have hq : ((bs.length : Int) == 0) = true := by simp [hl]
      have hl' := hide hl
      clear hl
      go_enter Try.func52, Try.ntmps52
      go_wp2_with fail
      go_ret
      exact ⟨0, rfl, fun h => by simp; omega, fun _ => rfl, hst, hg⟩
    · have hq : ((bs.length : Int) == 0) = false := beq_eq_false_iff_ne.2 (by omega)
      by_cases hk : p < bs.length
      · obtain ⟨b, off, rfl, h5, h6, h7, h8, h9⟩ := h4 p hk
        generalize bs[p] = x at *
        have h5' : (w.setCell ⟨r, 1, none⟩ (.int .i64 (p + 1 : Nat))).cell? ⟨b, off + p, none⟩ = some (.int .u8 x) := (World.cell?_of_block (w := w) (a := ⟨b, off + p, none⟩) (Below.heap_setCell w _ _ b h8)).trans h5
        go_enter Try.func52, Try.ntmps52
        go_wp2_with fail
        go_ret
        refine ⟨(x % n).toNat, ?_, fun h => ?_, fun h => (by omega), hst, hg⟩
        · rw [Int.toNat_of_nonneg (Int.emod_nonneg _ (by omega))]; rfl
        · rw [Int.toNat_of_nonneg (Int.emod_nonneg _ (by omega))]; exact Int.emod_lt_of_pos _ (by omega)
      · have hlp : 0 < bs.length := by omega
        have hj1 := Nat.mod_lt p hlp
        have t1 : (p : Int).tmod (bs.length : Int) = ((p % bs.length : Nat) : Int) := by rw [Int.tmod_eq_emod_of_nonneg (by omega)]; rfl
        generalize p % bs.length = j1 at hj1 t1
        have t2 : IntKind.i64.wrap ((p : Int) * 7) = ((p * 7 : Nat) : Int) := by rw [IntWalk.i64_in _ (by omega)]; omega
        obtain ⟨q7, hq7⟩ : ∃ q7, p * 7 = q7 := ⟨_, rfl⟩
        rw [hq7] at t2
        have t3 : IntKind.i64.wrap ((q7 : Int) + 3) = ((q7 + 3 : Nat) : Int) := by rw [IntWalk.i64_in _ (by omega)]; omega
        obtain ⟨q8, hq8⟩ : ∃ q8, q7 + 3 = q8 := ⟨_, rfl⟩
        rw [hq8] at t3
        have hj2 := Nat.mod_lt q8 hlp
        have t4 : (q8 : Int).tmod (bs.length : Int) = ((q8 % bs.length : Nat) : Int) := by rw [Int.tmod_eq_emod_of_nonneg (by omega)]; rfl
        generalize q8 % bs.length = j2 at hj2 t4
        obtain ⟨ba, offa, rfl, a5, a6, a7, a8, a9⟩ := h4 j1 hj1
        obtain ⟨bb, offb, hA, c5, c6, c7, c8, c9⟩ := h4 j2 hj2
        injection hA with hA
        injection hA with hA1 hA2
        subst hA1 hA2
        generalize bs[j1] = x1 at *
        generalize bs[j2] = x2 at *
        have a5' : (w.setCell ⟨r, 1, none⟩ (.int .i64 (p + 1 : Nat))).cell? ⟨ba, offa + j1, none⟩ = some (.int .u8 x1) := (World.cell?_of_block (w := w) (a := ⟨ba, offa + j1, none⟩) (Below.heap_setCell w _ _ ba a8)).trans a5
        have c5' : (w.setCell ⟨r, 1, none⟩ (.int .i64 (p + 1 : Nat))).cell? ⟨ba, offa + j2, none⟩ = some (.int .u8 x2) := (World.cell?_of_block (w := w) (a := ⟨ba, offa + j2, none⟩) (Below.heap_setCell w _ _ ba a8)).trans c5
        have hdv := Nat.div_le_self p bs.length
        have t10 : (p : Int).tdiv (bs.length : Int) = ((p / bs.length : Nat) : Int) := by rw [Int.tdiv_eq_ediv_of_nonneg (by omega)]; rfl
        generalize p / bs.length = dv at hdv t10
        obtain ⟨hX, hX0, hX1⟩ := mix_sum x1 x2 p dv a6 a7 c6 c7 hp hdv
        obtain ⟨m8, hm8⟩ : ∃ m8 : Nat, x1 * 131 + x2 * 1117 + (p : Int) * 29 + (dv : Int) * 53 = (m8 : Int) := ⟨(x1 * 131 + x2 * 1117 + (p : Int) * 29 + (dv : Int) * 53).toNat, (Int.toNat_of_nonneg hX0).symm⟩
        rw [hm8] at hX hX0 hX1
        have hb8 : m8 ≤ 200000000000 := Int.ofNat_le.1 hX1
        clear hX0 hX1
        have t14 : wrap64 ((m8 : Int) / 64) = (m8 : Int) / 64 := div_wrap m8 hb8
        have hb9 : m8 / 64 ≤ m8 := Nat.div_le_self _ _
        have t13 : bits .xor .i64 (m8 : Int) ((m8 : Int) / 64) = ((m8 ^^^ (m8 / 64) : Nat) : Int) := by
          have := i64_xor_nat m8 (m8 / 64) (by omega) (by omega)
          rw [← this]; rfl
        generalize m8 ^^^ (m8 / 64) = m9 at t13
        have hX' := hide hX
        have T13 := hide t13
        have T14 := hide t14
        clear t13 t14
        clear hm8 hq8 hq7 h4 h1 hdv hX
        go_enter Try.func52, Try.ntmps52
        go_wp2_with fail
        refine name_world ?_
        intro wx hwx
        have r0 : wx.cell? ⟨r, 0, none⟩ = some (.slice (some ⟨ba, offa, none⟩) bs.length c) := by rw [hwx]; exact b2
        have r1 : wx.cell? ⟨ba, offa + j1, none⟩ = some (.int .u8 x1) := by rw [hwx]; exact a5'
        have r2 : wx.cell? ⟨ba, offa + j2, none⟩ = some (.int .u8 x2) := by rw [hwx]; exact c5'
        have hgx : w.grownBy wx (some r) := by rw [hwx]; exact hg
        have hsx : Rdr B wx r (p + 1) := by rw [hwx]; exact hst
        replace r0 := rule_of r0
        replace r1 := rule_of r1
        replace r2 := rule_of r2
        clear hwx hg hst a5' c5' b2 b3
        refine wp_region_firstY (fun w' => Below wx.heap.size wx w') [0, 1, 2, 3, 4, 5, 6, 7, 8, 9, 10, 11, 12, 13, 14, 15, 16, 17, 18, 19, 20, 21, 22, 23, 24, 25, 26, 27, 28, 29, 30, 31, 32, 33, 34, 35, 36, 37, 38, 39, 40, 41, 42, 43, 44, 45] [] [] [_, _, _, _, _, _, _, _, _, _, _, _, _, _, _, _, _, _, _, _, _, _, _, _, _, _, _, _, _, _, _, _, _, _, _, _, _, _, _, _, _, _, _, _, _, _] [] [] (by kernel_rfl) (by kernel_rfl) rfl rfl rfl (fun _ _ d _ _ h => by cases d <;> exact h) (Below.refl _ _).drew ?_
        repeat (first | ((refine takeY_skip (a' := ?_) ?_ ?_ ?_); (rotate_left); (· (simp [Region.wanted, yielded]; done)); (· (simp only [List.getElem_toArray, List.getElem_cons_zero, List.getElem_cons_succ, Act.put, List.setIfInBounds_toArray, List.set_cons_zero, List.set_cons_succ]; exact rfl))) | ((refine takeY_step (v := ?_) (a' := ?_) ?_ ?_ ?_ ?_); (rotate_left 2); (· (simp [Region.wanted, yielded]; done)); (· (intro w' hS'; go_simp; try (with_reducible rfl))); (· (simp only [List.getElem_toArray, List.getElem_cons_zero, List.getElem_cons_succ, Act.put, List.setIfInBounds_toArray, List.set_cons_zero, List.set_cons_succ]; exact rfl))))
        refine takeY_nil (then_nil ?_)
        have hX := hX'.out
        go_wp2_with fail
        go_ret
        refine ⟨(m9 % n.toNat : Nat), ?_, fun h => ?_, fun h => (by omega), hsx, only_drew hgx⟩
        · have hc : ((m9 % n.toNat : Nat) : Int) = (m9 : Int) % n := by
            rw [Int.natCast_emod, Int.toNat_of_nonneg (by omega)]
          rw [hc]
          show Ending.returned (.int .i64 ((bits .xor .i64 (m8 : Int) (wrap64 ((m8 : Int) / 64))).tmod n)) = _
          rw [T14.out, T13.out, Int.tmod_eq_emod_of_nonneg (by omega)]
        · have h5 := Nat.mod_lt m9 (show 0 < n.toNat by omega)
          omega

/-- bytes that can be read -/
def RdY (w : World) (A : Option Addr) (bs : List Int) : Prop := ∀ j (hj : j < bs.length), ∃ b off, A = some ⟨b, off, none⟩ ∧ w.cell? ⟨b, off + j, none⟩ = some (.int .u8 bs[j]) ∧ 0 ≤ bs[j] ∧ bs[j] ≤ 255
theorem RdY.take {w : World} {A : Option Addr} {bs : List Int} (h : RdY w A bs) (n : Nat) : RdY w A (bs.take n) := fun j hj => by
  rw [List.length_take] at hj
  obtain ⟨b, off, e, h1, h2, h3⟩ := h j (by omega)
  exact ⟨b, off, e, by rw [List.getElem_take]; exact h1, by rw [List.getElem_take]; exact h2, by rw [List.getElem_take]; exact h3⟩
theorem RdY.keeps {w w' : World} {A : Option Addr} {bs : List Int} (h : RdY w A bs) (hk : Keeps w w') : RdY w' A bs := fun j hj => by
  obtain ⟨b, off, e, h1, h2, h3⟩ := h j hj
  exact ⟨b, off, e, hk _ _ h1, h2, h3⟩
theorem Rdr.new {w : World} {A : Option Addr} {bs : List Int} {c : Nat} {t : TypeId} (h : RdY w A bs) (hl : bs.length ≤ 2000) : Rdr (w.heap.size + 1) (w.alloc (.cells #[.slice A bs.length c, .int .i64 0] t)) w.heap.size 0 :=
  ⟨A, bs, c, Blk.new_ _ _ _ rfl, hl, by omega, fun j hj => by
    obtain ⟨b, off, e, h1, h2, h3⟩ := h j hj
    have hb := World.block_lt_of_cell? _ _ h1
    have hb : b < w.heap.size := hb
    exact ⟨b, off, e, Keeps.alloc _ _ _ _ h1, h2, h3, by omega, by omega⟩⟩
/-- an open reader -/
def Opened (w : World) (e : Ending) (w' : World) : Prop := ∃ r, e = .returned (.pointer (some ⟨r, 0, none⟩)) ∧ w.heap.size ≤ r ∧ r < w'.heap.size ∧ Rdr w'.heap.size w' r 0 ∧ Below w.heap.size w w'
theorem Rdr.mono {B B' : Nat} {w : World} {r p : Nat} (h : Rdr B w r p) (hB : B ≤ B') : Rdr B' w r p := by
  obtain ⟨A, bs, c, h1, h2, h3, h4⟩ := h
  exact ⟨A, bs, c, h1, h2, by omega, fun j hj => by obtain ⟨b, off, e, h5, h6, h7, h8, h9⟩ := h4 j hj; exact ⟨b, off, e, h5, h6, h7, h8, by omega⟩⟩
set_option maxHeartbeats 2000000 in
set_option maxRecDepth 100000 in
theorem open_any (bs : List Int) (A : Option Addr) (c : Nat) (w : World) (hl : bs.length ≤ 9223372036854775807) (hc : bs.length ≤ c) (hr : RdY w A bs) : Calls Try.prog 50 #[.slice A bs.length c] w (Opened w) := by
  by_cases h2 : bs.length ≤ 2000
  · go_enter Try.func50, Try.ntmps50
    go_wp2_with fail
    go_ret
    exact ⟨w.heap.size, rfl, Nat.le_refl _, by simp, by simpa using Rdr.new hr h2, (Below.refl _ _).alloc (Nat.le_refl _) _⟩
  · have hr2 := hr.take 2000
    have hl2 : (bs.take 2000).length = 2000 := by rw [List.length_take]; omega
    have hc2 : 2000 ≤ c := by omega
    generalize bs.take 2000 = bs2 at hr2 hl2
    have hl2' := hide hl2
    clear hl2
    go_enter Try.func50, Try.ntmps50
    go_wp2_with fail
    go_ret
    refine ⟨w.heap.size, rfl, Nat.le_refl _, by simp, ?_, (Below.refl _ _).alloc (Nat.le_refl _) _⟩
    have := Rdr.new (c := c) (t := 101) hr2 (by have := hl2'.out; omega)
    rw [hl2'.out] at this
    simpa using this
end Go.Proofs.Ytodkenpmhhbppaa

namespace Go.Proofs.Ytodkenpmhhbppaa
open Go.RowKit
set_option linter.unusedSimpArgs false
set_option linter.unusedVariables false

def intc (xs : List Int) : Array Value := (xs.map (Value.int .i64)).toArray
theorem intc_get {xs : List Int} {j : Nat} (h : j < xs.length) : (intc xs)[j]? = some (.int .i64 xs[j]) := by simp [intc, List.getElem?_eq_getElem h]

/-- what the draw of an element gives -/
def Drawn (B : Nat) (w : World) (r p : Nat) (xs : List Int) (e : Ending) (w' : World) : Prop :=
  ∃ x, x ∈ xs ∧ e = .returned (.int .i64 x) ∧ Rdr B w' r (p + 1) ∧ w.grownBy w' (some r)

set_option maxHeartbeats 2000000 in
set_option maxRecDepth 100000 in
theorem num_any (xs : List Int) (B r p g : Nat) (w : World) (hx : 0 < xs.length) (hx2 : xs.length ≤ 1000) (hp : p ≤ 1000000000) (hB : B ≤ w.heap.size) (hr : Rdr B w r p) (hL : Blk w g (intc xs)) (hg : r ≠ g) :
    Calls Try.prog 76 #[.pointer (some ⟨r, 0, none⟩), .slice (some ⟨g, 0, none⟩) xs.length xs.length] w (Drawn B w r p xs) := by
  go_enter Try.func76, Try.ntmps76
  go_wp2_with (go_at_call 52; refine (pick_any B r p xs.length _ hp (by omega) hB hr).mono ?_; rintro e w1 ⟨m, rfl, hm, hm0, hr1, hg1⟩; have hm := hm (by omega); clear hm0; have hm' : m < xs.length := (by omega); have hc : w1.cell? ⟨g, m, none⟩ = some (.int .i64 xs[m]) := (hL.grown hg1 (by simpa using hg.symm)).at_ (intc_get hm'))
  go_ret
  exact ⟨xs[m], List.getElem_mem hm', rfl, hr1, hg1⟩
end Go.Proofs.Ytodkenpmhhbppaa

namespace Go.Proofs.Ytodkenpmhhbppaa
open Go.RowKit
set_option linter.unusedSimpArgs false
set_option linter.unusedVariables false

set_option maxHeartbeats 2000000 in
set_option maxRecDepth 100000 in
theorem sCopy_any (N : Nat) : ∀ (k n : Int) (ks : List Tm) (A : Option Addr) (c : Nat) (w : World), sizes ks < N → sizes ks ≤ 1000000000 → Rd w A 0 ks →
    Calls Try.prog 99 #[.agg #[.int .i64 k, .int .i64 n, .slice A ks.length c]] w (GotT w k n ks) := by
  induction N with
  | zero => intro k n ks A c w hN; exact absurd hN (Nat.not_lt_zero _)
  | succ N ih =>
  intro k n ks A c w hN hM hr
  have hlen := length_le_sizes ks
  go_enter Try.func99, Try.ntmps99
  go_wp2_with fail
  go_loopw [4] (fun i wr => ∃ (j : Nat) (v : Value), j ≤ ks.length ∧ i = .int .i64 j ∧ Part (w.heap.size + 3) wr v (ks.take j) ∧ Blk wr (w.heap.size + 1 + 1) #[.int .i64 k, .int .i64 n, v] ∧ Blk wr (w.heap.size + 1) #[.int .i64 0, .int .i64 0, .slice none 0 0] ∧ Blk wr w.heap.size #[.int .i64 k, .int .i64 n, .slice A ks.length c] ∧ Below w.heap.size w wr)
    (fun i _ => ks.length - (intOf i).toNat)
  case atStart => exact ⟨0, _, Nat.zero_le _, rfl, Part.nil, Blk.new_ _ _ _ (by simp), (Blk.new_ _ _ _ (by simp)).alloc _, ((Blk.new_ _ _ _ rfl).alloc _).alloc _, (((Below.refl _ _).alloc (by simp) _).alloc (by simp) _).alloc (by simp; omega) _⟩
  case round =>
    obtain ⟨j, v, hj, rfl, hp, hB3, hB2, hB1, hb⟩ := hrel
    have c12 := hB1.at_ (i := 2) rfl
    by_cases hlt : j < ks.length
    · obtain ⟨b, off, k', n', ks', A', c', rfl, hkj, hc1, hc2, hc3, hl', hr'⟩ := (hr.below hb).at_ hlt
      have hsz := sizes_le (List.getElem_mem hlt)
      rw [hkj] at hsz
      simp only [Tm.size] at hsz
      have H3 := hide hkj
      clear hkj
      have hz := hB3.lt
      go_wp2_with fail
      have x2 := hB3.rule (i := 2) rfl
      have b2 := hB1.rule (i := 2) rfl
      have y0 := rule_of hc1
      have y1 := rule_of hc2
      have y2 := rule_of hc3
      refine wp_region_firstY (fun w' => Below wr.heap.size wr w') [0, 1, 2, 3, 4, 5, 6] [7, 8] [9, 10, 11] [_, _, _, _, _, _, _] [_, _] [_, _, _] (by kernel_rfl) (by kernel_rfl) rfl rfl rfl (fun _ _ d _ _ h => by cases d <;> exact h) (Below.refl _ _).drew ?_
      repeat (first | ((refine takeY_skip (a' := ?_) ?_ ?_ ?_); (rotate_left); (· (simp [Region.wanted, yielded]; done)); (· (simp only [List.getElem_toArray, List.getElem_cons_zero, List.getElem_cons_succ, Act.put, List.setIfInBounds_toArray, List.set_cons_zero, List.set_cons_succ]; exact rfl))) | ((refine takeY_step (v := ?_) (a' := ?_) ?_ ?_ ?_ ?_); (rotate_left 2); (· (simp [Region.wanted, yielded]; done)); (· (intro w' hS'; go_simp; try (with_reducible rfl))); (· (simp only [List.getElem_toArray, List.getElem_cons_zero, List.getElem_cons_succ, Act.put, List.setIfInBounds_toArray, List.set_cons_zero, List.set_cons_succ]; exact rfl))))
      refine takeY_nil (then_cons ?_)
      go_wp2_with (go_at_call 99; refine (ih k' n' ks' A' c' _ (by omega) (by omega) hr'.drew).mono ?_; rintro e w1 ⟨A1, c1, rfl, hl1, hf1, hb1⟩)
      have hx1 : Below wr.heap.size wr w1 := (Below.refl _ _).drew.trans hb1
      refine mid_intro hx1 (then_cons ?_)
      go_wp2_with fail
      refine mid_intro (hx1.alloc hx1.size _) (then_nil ?_)
      refine wpList_append_built (B := w.heap.size + 3) (m := j) hp.drew hb1 (by simp; omega) hf1 hl1 (by rw [List.length_take]; omega) (by omega) rfl (.tmp 18) (.tmp 25) rfl rfl rfl ?_
      intro A2 c2 w2 hp2 hb2 hg2
      have q3 : Blk w2 (w.heap.size + 1 + 1) #[.int .i64 k, .int .i64 n, v] := (hB3.below hx1 (by omega)).below hb2 (by omega)
      have q2 : Blk w2 (w.heap.size + 1) #[.int .i64 0, .int .i64 0, .slice none 0 0] := (hB2.below hx1 (by omega)).below hb2 (by omega)
      have q1' : Blk w2 w.heap.size #[.int .i64 k, .int .i64 n, .slice (some ⟨b, off, none⟩) ks.length c] := (hB1.below hx1 (by omega)).below hb2 (by omega)
      have c3 : w2.cell? ⟨w.heap.size + 1 + 1, 2, none⟩ = some v := q3.at_ rfl
      have z3 := q3.frozen 2
      have hbf : Below w.heap.size w w2 := (hb.trans (hx1.mono (by omega))).trans (hb2.mono (by omega))
      clear x2 y0 y1 y2 b2
      go_wp2_with fail
      go_roundw
      case rel => exact ⟨j + 1, _, by omega, by go_num, by rw [List.take_succ_eq_append_getElem hlt, H3.out]; exact hp2.setCell (by simp) _, q3.set_ 2 _, q2.far (by simp) _, q1'.far (by simp; omega) _, hbf.setCell (by simp; omega) _⟩
      case measure => simp [intOf]; omega
    · have hjl : j = ks.length := by omega
      subst hjl
      rw [List.take_length] at hp
      obtain ⟨Ar, cr, rfl, hfr⟩ := hp.fresh
      have c0 : wr.cell? ⟨w.heap.size + 1 + 1, 0, none⟩ = some (.int .i64 k) := hB3.at_ rfl
      have c1 : wr.cell? ⟨w.heap.size + 1 + 1, 1, none⟩ = some (.int .i64 n) := hB3.at_ rfl
      have c2 : wr.cell? ⟨w.heap.size + 1 + 1, 2, none⟩ = some (.slice Ar ks.length cr) := hB3.at_ rfl
      have d0 : wr.cell? ⟨w.heap.size + 1, 0, none⟩ = some (.int .i64 0) := hB2.at_ rfl
      have d1 : wr.cell? ⟨w.heap.size + 1, 1, none⟩ = some (.int .i64 0) := hB2.at_ rfl
      have d2 : wr.cell? ⟨w.heap.size + 1, 2, none⟩ = some (.slice none 0 0) := hB2.at_ rfl
      have e0 := hB2.frozen 0
      have e1 := hB2.frozen 1
      have e2 := hB2.frozen 2
      go_wp2_with fail
      refine bodyPost_ret (v := .agg #[.int .i64 k, .int .i64 n, .slice Ar ks.length cr]) (by simp [results, Try.results99, go_sem, d0, d1, d2]) rfl ⟨Ar, cr, rfl, by omega, ?_, ?_⟩
      · exact (((hfr.setCell (by simp) _).setCell (by simp) _).setCell (by simp) _).mono (by omega)
      · exact ((hb.setCell (by simp) _).setCell (by simp) _).setCell (by simp) _

end Go.Proofs.Ytodkenpmhhbppaa

namespace Go.Proofs.Ytodkenpmhhbppaa
open Go.RowKit
set_option linter.unusedSimpArgs false
set_option linter.unusedVariables false

/-- how many numbers are asked for at most, and how large the term is at most, by the depth -/
def KD : Nat → Nat | 0 => 3 | d + 1 => 3 + 4 * KD d
def SD : Nat → Nat | 0 => 1 | d + 1 => 1 + 4 * SD d
theorem arity_le (k : Int) : arity k ≤ 4 ∧ -1 ≤ arity k := by unfold arity; repeat' split
                                                              all_goals omega
/-- a term that has been drawn -/
def DrawnT (B : Nat) (w : World) (r p q s : Nat) (e : Ending) (w' : World) : Prop :=
  ∃ (k n : Int) (ks : List Tm) (A : Option Addr) (c p' : Nat), e = .returned (.agg #[.int .i64 k, .int .i64 n, .slice A ks.length c]) ∧ ks.length ≤ 9223372036854775807 ∧ sizes ks + 1 ≤ s ∧ p' ≤ p + q ∧ Fresh w.heap.size w' A ks ∧ Rdr B w' r p' ∧ w.grownBy w' (some r)
def DrawOk (d : Nat) : Prop := ∀ (B r p : Nat) (w : World), p + KD d ≤ 1000000000 → B ≤ w.heap.size → Rdr B w r p →
  Calls Try.prog 75 #[.pointer (some ⟨r, 0, none⟩), .int .i64 d] w (DrawnT B w r p (KD d) (SD d))
theorem Rdr.lt {B r p : Nat} {w : World} (h : Rdr B w r p) : r < B := by obtain ⟨_, _, _, _, _, h, _⟩ := h; exact h
theorem Rdr.alloc' {B r p : Nat} {w : World} (h : Rdr B w r p) (hB : B ≤ w.heap.size) (o : Obj) : Rdr B (w.alloc o) r p := h.alloc hB o

theorem kd_ge (d : Nat) : 3 ≤ KD d := by cases d <;> simp [KD]
theorem kd_big (d : Nat) : d ≤ KD d := by
  induction d with
  | zero => simp [KD]
  | succ d ih => rw [KD]; omega
theorem sd_pos (d : Nat) : 1 ≤ SD d := by cases d <;> simp [SD]
theorem low_kinds {x : Int} (h : x ∈ ([1, 7, 6, 2, 1] : List Int)) : arity x = 0 := by
  simp only [List.mem_cons, List.not_mem_nil, or_false] at h
  rcases h with rfl | rfl | rfl | rfl | rfl <;> decide
theorem high_kinds {x : Int} (h : x ∈ ([1, 5, 4, 8, 9, 3, 6, 7, 11, 15, 14, 10, 12, 13, 16, 2] : List Int)) : 0 ≤ arity x := by
  simp only [List.mem_cons, List.not_mem_nil, or_false] at h
  rcases h with rfl | rfl | rfl | rfl | rfl | rfl | rfl | rfl | rfl | rfl | rfl | rfl | rfl | rfl | rfl | rfl <;> decide
set_option maxHeartbeats 4000000 in
set_option maxRecDepth 100000 in
theorem draw_low (d : Nat) (hd : d < 2) : DrawOk d := by
  intro B r p w hp hB hr
  have hrl := hr.lt
  have hkd := kd_ge d
  have hsd := sd_pos d
  have hd2 : (d : Int) < 2 := by omega
  go_enter Try.func75, Try.ntmps75
  go_wp2_with (first | (go_at_call 76; refine (num_any [0, 1, 0, 2, 1, 3] B r (p + 1 + 1) (w2.heap.size + 1) _ (by decide) (by decide) (by omega) (by simp; omega) ((hr2.alloc (by omega) _).alloc (by simp; omega) _) (Blk.new_ _ 3 _ (by simp)) (by omega)).mono ?_; rintro e w3 ⟨nn, hn, rfl, hr3, hg3⟩; have hB63 : Blk w3 w2.heap.size #[.int .i64 x, .int .i64 0, .slice none 0 0] := ((Blk.new_ w2 25 #[.int .i64 x, .int .i64 0, .slice none 0 0] rfl).alloc _).grown hg3 (by simp; omega); have hZ3 := ((hZ2.alloc _).alloc _).grown hg3 (by simp; omega); have g3 : w.grownBy w3 (some r) := grown_trans (only_alloc (only_alloc g2 _) _) hg3; have s3 : w2.heap.size + 1 + 1 ≤ w3.heap.size := (by have := hg3.size; simpa using this); have c1 := hB63.at_ (i := 1) rfl; have f1 := hB63.frozen 1) | (go_at_call 118; refine (l1Most_any _ _).mono ?_; rintro e w9 ⟨rfl, rfl⟩) | (go_at_call 76; refine (num_any [1, 7, 6, 2, 1] B r (p + 1) w1.heap.size _ (by decide) (by decide) (by omega) (by simp; omega) (hr1.alloc (by omega) _) (Blk.new_ _ 3 _ rfl) (by omega)).mono ?_; rintro e w2 ⟨x, hx, rfl, hr2, hg2⟩; have hax := low_kinds hx; have hZ2 := (hZ1.alloc _).grown hg2 (by simp; omega); have g2 : w.grownBy w2 (some r) := grown_trans (only_alloc g1 _) hg2; have s2 : w1.heap.size + 1 ≤ w2.heap.size := (by have := hg2.size; simpa using this)) | (go_at_call 76; refine (num_any [1, 5, 4, 8, 9, 3, 6, 7, 11, 15, 14, 10, 12, 13, 16, 2] B r p (w.heap.size + 1) _ (by decide) (by decide) (by omega) (by simp; omega) ((hr.alloc (by omega) _).alloc (by simp; omega) _) (Blk.new_ _ 3 _ (by simp)) (by omega)).mono ?_; rintro e w1 ⟨x0, hx0, rfl, hr1, hg1⟩; have hax0 := high_kinds hx0; have hZ1 : Blk w1 w.heap.size #[.int .i64 0, .int .i64 0, .slice none 0 0] := (((Blk.new_ w 25 #[.int .i64 0, .int .i64 0, .slice none 0 0] rfl).alloc _)).grown hg1 (by simp; omega); have g1 : w.grownBy w1 (some r) := grown_trans (only_alloc (only_alloc (World.grownBy.refl _ _) _) _) hg1; have s1 : w.heap.size + 1 + 1 ≤ w1.heap.size := (by have := hg1.size; simpa using this)))
  · refine name_world ?_
    intro wz hwz
    have hB6 : Blk wz w2.heap.size #[.int .i64 x, .int .i64 nn, .slice none 0 0] := by rw [hwz]; exact hB63.set_ 1 _
    have hZ : Blk wz w.heap.size #[.int .i64 0, .int .i64 0, .slice none 0 0] := by rw [hwz]; exact hZ3.far (by simp; omega) _
    have hRz : Rdr B wz r (p + 1 + 1 + 1) := by rw [hwz]; exact hr3.setCell (by simp; omega) _
    have hgz : w.grownBy wz (some r) := by rw [hwz]; exact only_setCell g3 (.inr (by simp; omega)) _
    have hs6 : w2.heap.size < wz.heap.size := hB6.lt
    clear hwz
    go_loopw [7] (fun i wr => ∃ (j p' : Nat) (ts : List Tm) (v : Value), (j : Int) ≤ arity x ∧ i = .int .i64 j ∧ ts.length = j ∧ sizes ts ≤ j * 0 ∧ p' ≤ p + 3 + j * 0 ∧ Part (w2.heap.size + 1) wr v ts ∧ Blk wr w2.heap.size #[.int .i64 x, .int .i64 nn, v] ∧ Blk wr w.heap.size #[.int .i64 0, .int .i64 0, .slice none 0 0] ∧ Rdr B wr r p' ∧ w.grownBy wr (some r)) (fun i _ => (arity x - intOf i).toNat)
    case atStart => exact ⟨0, _, [], _, by omega, rfl, rfl, by simp [sizes], by omega, Part.nil, hB6, hZ, hRz, hgz⟩
    case round =>
      obtain ⟨j, p', ts, v, hj, rfl, htl0, hts, hp', hpt, hB3, hZr, hRr, hgr⟩ := hrel
      have htl := hide htl0
      clear htl0
      by_cases hlt : (j : Int) < arity x
      · exact absurd hlt (by omega)
      · have hje : (j : Int) = arity x := by omega
        obtain ⟨Ar, cr, rfl, hfr⟩ := hpt.fresh
        obtain ⟨c0, c1, c2⟩ := hB3.three
        obtain ⟨z0, z1, z2⟩ := hZr.three
        have e0 := hZr.frozen 0
        have e1 := hZr.frozen 1
        have e2 := hZr.frozen 2
        have hw0 : w.heap.size < wr.heap.size := hZr.lt
        have hne : r ≠ w.heap.size := by omega
        have hj4 : j ≤ 4 := by have := arity_le x; omega
        have hfin : Hid (sizes ts + 1 ≤ SD d ∧ p' ≤ p + KD d) := ⟨by omega, by omega⟩
        go_wp2_with (go_at_call 119; refine (l1Kids_any _ _).mono ?_; rintro e w9 ⟨rfl, rfl⟩)
        refine bodyPost_ret (v := .agg #[.int .i64 x, .int .i64 nn, .slice Ar ts.length cr]) (by simp [results, Try.results75, go_sem, z0, z1, z2]) rfl ⟨x, nn, ts, Ar, cr, p', rfl, by have := htl.out; omega, hfin.out.1, hfin.out.2, ?_, ?_, ?_⟩
        · exact (((hfr.setCell (by simp; omega) _).setCell (by simp; omega) _).setCell (by simp; omega) _).mono (by omega)
        · exact ((hRr.setCell (by simp; omega) _).setCell (by simp; omega) _).setCell (by simp; omega) _
        · exact only_setCell (only_setCell (only_setCell hgr (.inr (by simp)) _) (.inr (by simp)) _) (.inr (by simp)) _
  · refine name_world ?_
    intro wz hwz
    have hB6 : Blk wz w2.heap.size #[.int .i64 x, .int .i64 0, .slice none 0 0] := by rw [hwz]; exact Blk.new_ _ _ _ rfl
    have hZ : Blk wz w.heap.size #[.int .i64 0, .int .i64 0, .slice none 0 0] := by rw [hwz]; exact hZ2.alloc _
    have hRz : Rdr B wz r (p + 1 + 1) := by rw [hwz]; exact hr2.alloc (by omega) _
    have hgz : w.grownBy wz (some r) := by rw [hwz]; exact only_alloc g2 _
    have hs6 : w2.heap.size < wz.heap.size := hB6.lt
    clear hwz
    go_loopw [7] (fun i wr => ∃ (j p' : Nat) (ts : List Tm) (v : Value), (j : Int) ≤ arity x ∧ i = .int .i64 j ∧ ts.length = j ∧ sizes ts ≤ j * 0 ∧ p' ≤ p + 3 + j * 0 ∧ Part (w2.heap.size + 1) wr v ts ∧ Blk wr w2.heap.size #[.int .i64 x, .int .i64 0, v] ∧ Blk wr w.heap.size #[.int .i64 0, .int .i64 0, .slice none 0 0] ∧ Rdr B wr r p' ∧ w.grownBy wr (some r)) (fun i _ => (arity x - intOf i).toNat)
    case atStart => exact ⟨0, _, [], _, by omega, rfl, rfl, by simp [sizes], by omega, Part.nil, hB6, hZ, hRz, hgz⟩
    case round =>
      obtain ⟨j, p', ts, v, hj, rfl, htl0, hts, hp', hpt, hB3, hZr, hRr, hgr⟩ := hrel
      have htl := hide htl0
      clear htl0
      by_cases hlt : (j : Int) < arity x
      · exact absurd hlt (by omega)
      · have hje : (j : Int) = arity x := by omega
        obtain ⟨Ar, cr, rfl, hfr⟩ := hpt.fresh
        obtain ⟨c0, c1, c2⟩ := hB3.three
        obtain ⟨z0, z1, z2⟩ := hZr.three
        have e0 := hZr.frozen 0
        have e1 := hZr.frozen 1
        have e2 := hZr.frozen 2
        have hw0 : w.heap.size < wr.heap.size := hZr.lt
        have hne : r ≠ w.heap.size := by omega
        have hj4 : j ≤ 4 := by have := arity_le x; omega
        have hfin : Hid (sizes ts + 1 ≤ SD d ∧ p' ≤ p + KD d) := ⟨by omega, by omega⟩
        go_wp2_with (go_at_call 119; refine (l1Kids_any _ _).mono ?_; rintro e w9 ⟨rfl, rfl⟩)
        refine bodyPost_ret (v := .agg #[.int .i64 x, .int .i64 0, .slice Ar ts.length cr]) (by simp [results, Try.results75, go_sem, z0, z1, z2]) rfl ⟨x, 0, ts, Ar, cr, p', rfl, by have := htl.out; omega, hfin.out.1, hfin.out.2, ?_, ?_, ?_⟩
        · exact (((hfr.setCell (by simp; omega) _).setCell (by simp; omega) _).setCell (by simp; omega) _).mono (by omega)
        · exact ((hRr.setCell (by simp; omega) _).setCell (by simp; omega) _).setCell (by simp; omega) _
        · exact only_setCell (only_setCell (only_setCell hgr (.inr (by simp)) _) (.inr (by simp)) _) (.inr (by simp)) _

set_option maxHeartbeats 4000000 in
set_option maxRecDepth 100000 in
theorem draw_high (d : Nat) (hd : 1 ≤ d) (ih : DrawOk d) : DrawOk (d + 1) := by
  intro B r p w hp hB hr
  have ihx : ∀ (B r p : Nat) (w : World), p + KD d ≤ 1000000000 → B ≤ w.heap.size → Rdr B w r p → Calls Try.prog 75 #[.pointer (some ⟨r, 0, none⟩), .int .i64 d] w (DrawnT B w r p (KD d) (SD d)) := ih
  have hrl := hr.lt
  have hkd := kd_ge d
  have hkd1 : KD (d + 1) = 3 + 4 * KD d := rfl
  have hkd2 := hide hkd1
  rw [hkd1] at hp
  clear hkd1
  have hd2 : ¬ ((d : Int) + 1 < 2) := by omega
  have hd3 : d ≤ KD d := kd_big d
  have k1 : IntKind.i64.wrap ((d : Int) + 1 - 1) = d := by rw [IntWalk.i64_in _ (by omega)]; omega
  have k2 : IntKind.i64.wrap (d : Int) = d := IntWalk.i64_in _ (by omega)
  have k3 : wrap64 ((d : Int) + 1 - 1) = d := by rw [IntWalk.wrap64_in _ (by omega)]; omega
  have k4 : wrap64 (d : Int) = d := IntWalk.wrap64_in _ (by omega)
  go_enter Try.func75, Try.ntmps75
  go_wp2_with (first | (go_at_call 76; refine (num_any [0, 1, 0, 2, 1, 3] B r (p + 1) (w1.heap.size + 1) _ (by decide) (by decide) (by omega) (by simp; omega) ((hr1.alloc (by omega) _).alloc (by simp; omega) _) (Blk.new_ _ 3 _ (by simp)) (by omega)).mono ?_; rintro e w3 ⟨nn, hn, rfl, hr3, hg3⟩; have hB63 : Blk w3 w1.heap.size #[.int .i64 x, .int .i64 0, .slice none 0 0] := ((Blk.new_ w1 25 #[.int .i64 x, .int .i64 0, .slice none 0 0] rfl).alloc _).grown hg3 (by simp; omega); have hZ3 := ((hZ1.alloc _).alloc _).grown hg3 (by simp; omega); have g3 : w.grownBy w3 (some r) := grown_trans (only_alloc (only_alloc g1 _) _) hg3; have s3 : w1.heap.size + 1 + 1 ≤ w3.heap.size := (by have := hg3.size; simpa using this); have c1 := hB63.at_ (i := 1) rfl; have f1 := hB63.frozen 1) | (go_at_call 118; refine (l1Most_any _ _).mono ?_; rintro e w9 ⟨rfl, rfl⟩) | (go_at_call 76; refine (num_any [1, 5, 4, 8, 9, 3, 6, 7, 11, 15, 14, 10, 12, 13, 16, 2] B r p (w.heap.size + 1) _ (by decide) (by decide) (by omega) (by simp; omega) ((hr.alloc (by omega) _).alloc (by simp; omega) _) (Blk.new_ _ 3 _ (by simp)) (by omega)).mono ?_; rintro e w1 ⟨x, hx0, rfl, hr1, hg1⟩; have hax0 := high_kinds hx0; have hZ1 : Blk w1 w.heap.size #[.int .i64 0, .int .i64 0, .slice none 0 0] := (((Blk.new_ w 25 #[.int .i64 0, .int .i64 0, .slice none 0 0] rfl).alloc _)).grown hg1 (by simp; omega); have g1 : w.grownBy w1 (some r) := grown_trans (only_alloc (only_alloc (World.grownBy.refl _ _) _) _) hg1; have s1 : w.heap.size + 1 + 1 ≤ w1.heap.size := (by have := hg1.size; simpa using this)))
  · refine name_world ?_
    intro wz hwz
    have hB6 : Blk wz w1.heap.size #[.int .i64 x, .int .i64 nn, .slice none 0 0] := by rw [hwz]; exact hB63.set_ 1 _
    have hZ : Blk wz w.heap.size #[.int .i64 0, .int .i64 0, .slice none 0 0] := by rw [hwz]; exact hZ3.far (by simp; omega) _
    have hRz : Rdr B wz r (p + 1 + 1) := by rw [hwz]; exact hr3.setCell (by simp; omega) _
    have hgz : w.grownBy wz (some r) := by rw [hwz]; exact only_setCell g3 (.inr (by simp; omega)) _
    have hs6 : w1.heap.size < wz.heap.size := hB6.lt
    clear hwz
    go_loopw [7] (fun i wr => ∃ (j p' : Nat) (ts : List Tm) (v : Value), (j : Int) ≤ arity x ∧ i = .int .i64 j ∧ ts.length = j ∧ sizes ts ≤ j * SD d ∧ p' ≤ p + 3 + j * KD d ∧ Part (w1.heap.size + 1) wr v ts ∧ Blk wr w1.heap.size #[.int .i64 x, .int .i64 nn, v] ∧ Blk wr w.heap.size #[.int .i64 0, .int .i64 0, .slice none 0 0] ∧ Rdr B wr r p' ∧ w.grownBy wr (some r)) (fun i _ => (arity x - intOf i).toNat)
    case atStart => exact ⟨0, _, [], _, by omega, rfl, rfl, by simp [sizes], by omega, Part.nil, hB6, hZ, hRz, hgz⟩
    case round =>
      obtain ⟨j, p', ts, v, hj, rfl, htl0, hts, hp', hpt, hB3, hZr, hRr, hgr⟩ := hrel
      have htl := hide htl0
      clear htl0
      by_cases hlt : (j : Int) < arity x
      · have hun := hide hlt
        have hj5 : j ≤ 4 := by have := arity_le x; omega
        have hB3l := hB3.lt
        have c2 := hB3.at_ (i := 2) rfl
        go_wp2_with (go_at_call 119; refine (l1Kids_any _ _).mono ?_; rintro e w9 ⟨rfl, rfl⟩)
        have x2 := hB3.ruleG (g := r) (by omega) (i := 2) rfl
        have hsr := hgr.size
        refine wp_region_firstY (fun w' => wr.grownBy w' (some r)) [0, 1, 2, 3, 4] [5, 6] [7, 8, 9] [_, _, _, _, _] [_, _] [_, _, _] (by kernel_rfl) (by kernel_rfl) rfl rfl rfl (fun _ _ d _ _ h => by cases d <;> exact h) (only_drew (World.grownBy.refl _ _)) ?_
        repeat (first | ((refine takeY_skip (a' := ?_) ?_ ?_ ?_); (rotate_left); (· (simp [Region.wanted, yielded]; done)); (· (simp only [List.getElem_toArray, List.getElem_cons_zero, List.getElem_cons_succ, Act.put, List.setIfInBounds_toArray, List.set_cons_zero, List.set_cons_succ]; exact rfl))) | ((refine takeY_step (v := ?_) (a' := ?_) ?_ ?_ ?_ ?_); (rotate_left 2); (· (simp [Region.wanted, yielded]; done)); (· (intro w' hS'; go_simp; try (with_reducible rfl))); (· (simp only [List.getElem_toArray, List.getElem_cons_zero, List.getElem_cons_succ, Act.put, List.setIfInBounds_toArray, List.set_cons_zero, List.set_cons_succ]; exact rfl))))
        refine takeY_nil (then_cons ?_)
        go_wp2_with (go_at_call 75; (with_reducible refine (ihx B r p' _ (by have := Nat.mul_le_mul_right (KD d) (show j ≤ 3 by have := arity_le x; omega); omega) (by simp; omega) hRr.drew).mono ?_); rintro e wq ⟨kq, nq, ksq, Aq, cq, pq, rfl, hlq, hsq, hqq, hfq, hRq, hgq⟩)
        have hxq : wr.grownBy wq (some r) := grown_trans (only_drew (World.grownBy.refl _ _)) hgq
        have hwq : wr.heap.size ≤ wq.heap.size := hxq.size
        refine mid_intro hxq (then_cons ?_)
        go_wp2_with fail
        refine mid_intro (only_alloc hxq _) (then_nil ?_)
        refine wpList_append_builtG (B := w1.heap.size + 1) (m := j) hpt.drew (fun b h1 h2 => hgq.block b h2 (by simp; omega)) hwq (by simp; omega) hfq hlq htl.out (by have := arity_le x; omega) rfl (.tmp 32) (.tmp 37) rfl rfl rfl ?_
        intro A2 c2' w2 hp2 hb2 hg2
        have q3 : Blk w2 w1.heap.size #[.int .i64 x, .int .i64 nn, v] := (hB3.grown hxq (by simp; omega)).below hb2 (by omega)
        have q2 : Blk w2 w.heap.size #[.int .i64 0, .int .i64 0, .slice none 0 0] := (hZr.grown hxq (by simp; omega)).below hb2 (by omega)
        have qR := hRq.below hb2 (by omega)
        have d2 : w2.cell? ⟨w1.heap.size, 2, none⟩ = some v := q3.at_ rfl
        have z3 := q3.frozen 2
        have hgf : w.grownBy w2 (some r) := only_belowB (grown_trans hgr hxq) hb2 (by omega)
        clear x2 c2
        go_wp2_with fail
        go_roundw
        case rel =>
          refine ⟨j + 1, pq, ts ++ [.mk kq nq ksq], _, by omega, by go_num, by simp [htl.out], ?_, ?_, hp2.setCell (by simp) _, q3.set_ 2 _, q2.far (by simp; omega) _, qR.setCell (by simp; omega) _, only_setCell hgf (.inr (by simp; omega)) _⟩
          · rw [sizes_append]; simp only [sizes, Tm.size]; rw [Nat.succ_mul]; omega
          · rw [Nat.succ_mul]; omega
        case measure => simp [intOf]; omega
      · have hje : (j : Int) = arity x := by omega
        obtain ⟨Ar, cr, rfl, hfr⟩ := hpt.fresh
        obtain ⟨c0, c1, c2⟩ := hB3.three
        obtain ⟨z0, z1, z2⟩ := hZr.three
        have e0 := hZr.frozen 0
        have e1 := hZr.frozen 1
        have e2 := hZr.frozen 2
        have hw0 : w.heap.size < wr.heap.size := hZr.lt
        have hne : r ≠ w.heap.size := by omega
        have hj4 : j ≤ 4 := by have := arity_le x; omega
        have hfin : Hid (sizes ts + 1 ≤ SD (d + 1) ∧ p' ≤ p + KD (d + 1)) := ⟨by rw [SD]; have := Nat.mul_le_mul_right (SD d) hj4; omega, by rw [KD]; have := Nat.mul_le_mul_right (KD d) hj4; omega⟩
        go_wp2_with (go_at_call 119; refine (l1Kids_any _ _).mono ?_; rintro e w9 ⟨rfl, rfl⟩)
        refine bodyPost_ret (v := .agg #[.int .i64 x, .int .i64 nn, .slice Ar ts.length cr]) (by simp [results, Try.results75, go_sem, z0, z1, z2]) rfl ⟨x, nn, ts, Ar, cr, p', rfl, by have := htl.out; omega, hfin.out.1, hfin.out.2, ?_, ?_, ?_⟩
        · exact (((hfr.setCell (by simp; omega) _).setCell (by simp; omega) _).setCell (by simp; omega) _).mono (by omega)
        · exact ((hRr.setCell (by simp; omega) _).setCell (by simp; omega) _).setCell (by simp; omega) _
        · exact only_setCell (only_setCell (only_setCell hgr (.inr (by simp)) _) (.inr (by simp)) _) (.inr (by simp)) _
  · refine name_world ?_
    intro wz hwz
    have hB6 : Blk wz w1.heap.size #[.int .i64 x, .int .i64 0, .slice none 0 0] := by rw [hwz]; exact Blk.new_ _ _ _ rfl
    have hZ : Blk wz w.heap.size #[.int .i64 0, .int .i64 0, .slice none 0 0] := by rw [hwz]; exact hZ1.alloc _
    have hRz : Rdr B wz r (p + 1) := by rw [hwz]; exact hr1.alloc (by omega) _
    have hgz : w.grownBy wz (some r) := by rw [hwz]; exact only_alloc g1 _
    have hs6 : w1.heap.size < wz.heap.size := hB6.lt
    clear hwz
    go_loopw [7] (fun i wr => ∃ (j p' : Nat) (ts : List Tm) (v : Value), (j : Int) ≤ arity x ∧ i = .int .i64 j ∧ ts.length = j ∧ sizes ts ≤ j * SD d ∧ p' ≤ p + 3 + j * KD d ∧ Part (w1.heap.size + 1) wr v ts ∧ Blk wr w1.heap.size #[.int .i64 x, .int .i64 0, v] ∧ Blk wr w.heap.size #[.int .i64 0, .int .i64 0, .slice none 0 0] ∧ Rdr B wr r p' ∧ w.grownBy wr (some r)) (fun i _ => (arity x - intOf i).toNat)
    case atStart => exact ⟨0, _, [], _, by omega, rfl, rfl, by simp [sizes], by omega, Part.nil, hB6, hZ, hRz, hgz⟩
    case round =>
      obtain ⟨j, p', ts, v, hj, rfl, htl0, hts, hp', hpt, hB3, hZr, hRr, hgr⟩ := hrel
      have htl := hide htl0
      clear htl0
      by_cases hlt : (j : Int) < arity x
      · have hun := hide hlt
        have hj5 : j ≤ 4 := by have := arity_le x; omega
        have hB3l := hB3.lt
        have c2 := hB3.at_ (i := 2) rfl
        go_wp2_with (go_at_call 119; refine (l1Kids_any _ _).mono ?_; rintro e w9 ⟨rfl, rfl⟩)
        have x2 := hB3.ruleG (g := r) (by omega) (i := 2) rfl
        have hsr := hgr.size
        refine wp_region_firstY (fun w' => wr.grownBy w' (some r)) [0, 1, 2, 3, 4] [5, 6] [7, 8, 9] [_, _, _, _, _] [_, _] [_, _, _] (by kernel_rfl) (by kernel_rfl) rfl rfl rfl (fun _ _ d _ _ h => by cases d <;> exact h) (only_drew (World.grownBy.refl _ _)) ?_
        repeat (first | ((refine takeY_skip (a' := ?_) ?_ ?_ ?_); (rotate_left); (· (simp [Region.wanted, yielded]; done)); (· (simp only [List.getElem_toArray, List.getElem_cons_zero, List.getElem_cons_succ, Act.put, List.setIfInBounds_toArray, List.set_cons_zero, List.set_cons_succ]; exact rfl))) | ((refine takeY_step (v := ?_) (a' := ?_) ?_ ?_ ?_ ?_); (rotate_left 2); (· (simp [Region.wanted, yielded]; done)); (· (intro w' hS'; go_simp; try (with_reducible rfl))); (· (simp only [List.getElem_toArray, List.getElem_cons_zero, List.getElem_cons_succ, Act.put, List.setIfInBounds_toArray, List.set_cons_zero, List.set_cons_succ]; exact rfl))))
        refine takeY_nil (then_cons ?_)
        go_wp2_with (go_at_call 75; (with_reducible refine (ihx B r p' _ (by have := Nat.mul_le_mul_right (KD d) (show j ≤ 3 by have := arity_le x; omega); omega) (by simp; omega) hRr.drew).mono ?_); rintro e wq ⟨kq, nq, ksq, Aq, cq, pq, rfl, hlq, hsq, hqq, hfq, hRq, hgq⟩)
        have hxq : wr.grownBy wq (some r) := grown_trans (only_drew (World.grownBy.refl _ _)) hgq
        have hwq : wr.heap.size ≤ wq.heap.size := hxq.size
        refine mid_intro hxq (then_cons ?_)
        go_wp2_with fail
        refine mid_intro (only_alloc hxq _) (then_nil ?_)
        refine wpList_append_builtG (B := w1.heap.size + 1) (m := j) hpt.drew (fun b h1 h2 => hgq.block b h2 (by simp; omega)) hwq (by simp; omega) hfq hlq htl.out (by have := arity_le x; omega) rfl (.tmp 32) (.tmp 37) rfl rfl rfl ?_
        intro A2 c2' w2 hp2 hb2 hg2
        have q3 : Blk w2 w1.heap.size #[.int .i64 x, .int .i64 0, v] := (hB3.grown hxq (by simp; omega)).below hb2 (by omega)
        have q2 : Blk w2 w.heap.size #[.int .i64 0, .int .i64 0, .slice none 0 0] := (hZr.grown hxq (by simp; omega)).below hb2 (by omega)
        have qR := hRq.below hb2 (by omega)
        have d2 : w2.cell? ⟨w1.heap.size, 2, none⟩ = some v := q3.at_ rfl
        have z3 := q3.frozen 2
        have hgf : w.grownBy w2 (some r) := only_belowB (grown_trans hgr hxq) hb2 (by omega)
        clear x2 c2
        go_wp2_with fail
        go_roundw
        case rel =>
          refine ⟨j + 1, pq, ts ++ [.mk kq nq ksq], _, by omega, by go_num, by simp [htl.out], ?_, ?_, hp2.setCell (by simp) _, q3.set_ 2 _, q2.far (by simp; omega) _, qR.setCell (by simp; omega) _, only_setCell hgf (.inr (by simp; omega)) _⟩
          · rw [sizes_append]; simp only [sizes, Tm.size]; rw [Nat.succ_mul]; omega
          · rw [Nat.succ_mul]; omega
        case measure => simp [intOf]; omega
      · have hje : (j : Int) = arity x := by omega
        obtain ⟨Ar, cr, rfl, hfr⟩ := hpt.fresh
        obtain ⟨c0, c1, c2⟩ := hB3.three
        obtain ⟨z0, z1, z2⟩ := hZr.three
        have e0 := hZr.frozen 0
        have e1 := hZr.frozen 1
        have e2 := hZr.frozen 2
        have hw0 : w.heap.size < wr.heap.size := hZr.lt
        have hne : r ≠ w.heap.size := by omega
        have hj4 : j ≤ 4 := by have := arity_le x; omega
        have hfin : Hid (sizes ts + 1 ≤ SD (d + 1) ∧ p' ≤ p + KD (d + 1)) := ⟨by rw [SD]; have := Nat.mul_le_mul_right (SD d) hj4; omega, by rw [KD]; have := Nat.mul_le_mul_right (KD d) hj4; omega⟩
        go_wp2_with (go_at_call 119; refine (l1Kids_any _ _).mono ?_; rintro e w9 ⟨rfl, rfl⟩)
        refine bodyPost_ret (v := .agg #[.int .i64 x, .int .i64 0, .slice Ar ts.length cr]) (by simp [results, Try.results75, go_sem, z0, z1, z2]) rfl ⟨x, 0, ts, Ar, cr, p', rfl, by have := htl.out; omega, hfin.out.1, hfin.out.2, ?_, ?_, ?_⟩
        · exact (((hfr.setCell (by simp; omega) _).setCell (by simp; omega) _).setCell (by simp; omega) _).mono (by omega)
        · exact ((hRr.setCell (by simp; omega) _).setCell (by simp; omega) _).setCell (by simp; omega) _
        · exact only_setCell (only_setCell (only_setCell hgr (.inr (by simp)) _) (.inr (by simp)) _) (.inr (by simp)) _

theorem draw_any (d : Nat) : DrawOk d := by
  induction d with
  | zero => exact draw_low 0 (by omega)
  | succ d ih =>
    by_cases h : d = 0
    · subst h; exact draw_low 1 (by omega)
    · exact draw_high d (by omega) ih

end Go.Proofs.Ytodkenpmhhbppaa

namespace Go.Proofs.Ytodkenpmhhbppaa
open Go.ChangeShapes Go.WideShapes Go.ChangeAt Go.RowKit
set_option linter.unusedSimpArgs false
set_option linter.unusedVariables false

set_option maxRecDepth 100000 in
theorem open_code {H : Type} {enc : TypeId × Value → H} {W : World} {base : Nat} {spare : Nat → Bool} {held : Bool} {r : Reach} {b0 : Nat} {v : Value} {d : DataW H} {p : List MemPlace} (hv : Value.okWide Try.prog W r b0 22 v) (h : DataW.Trod enc Try.prog W base spare held 22 v d p) :
    ∃ (xs : List Int) (A : Option Addr) (c : Nat), v = .slice A xs.length c ∧ xs.length ≤ 9223372036854775807 ∧ xs.length ≤ c ∧ RdY W A xs := by
  obtain ⟨a, len, cap, rfl⟩ := Go.WideShapes.okWide_slice Try.underlying22 hv
  obtain ⟨fuel, hf⟩ := h
  have hmax : maxLen ≤ 9223372036854775807 := by decide
  rcases open_ints Try.underlying22 Try.underlying5 (by kernel_rfl) hf with ⟨hcs, _⟩ | ⟨a', len', cap', zs, hcs, _, hl, hm, hz, _, hcell, hwf⟩
  · injection hcs with hcs
    injection hcs with e1 e2 e3
    subst e1 e2 e3
    exact ⟨[], none, 0, rfl, by simp, by simp, fun j hj => absurd hj (Nat.not_lt_zero _)⟩
  · injection hcs with hcs
    injection hcs with e1 e2 e3
    subst e1 e2 e3
    have hzl : len ≤ zs.length := by rw [hz]; split <;> omega
    refine ⟨zs.take len, some a', cap, by rw [List.length_take, Nat.min_eq_left hzl], by rw [List.length_take]; omega, by rw [List.length_take]; omega, fun j hj => ?_⟩
    rw [List.length_take, Nat.min_eq_left hzl] at hj
    have h1 := hcell j (by omega)
    have h00 := hcell 0 (by omega)
    obtain ⟨b, off, spot⟩ := a'
    have hspot : spot = none := by
      have := World.cell?_spot h00
      simpa [Addr.add] using this
    subst hspot
    have e : (⟨b, off, none⟩ : Addr).add j = ⟨b, off + j, none⟩ := by unfold Addr.add; split <;> simp_all
    rw [e, List.getD_eq_getElem?_getD, List.getElem?_eq_getElem (by omega), Option.getD_some] at h1
    have hw := hwf zs[j] (List.getElem_mem _)
    have hw' : (decide ((0 : Int) ≤ zs[j]) && decide (zs[j] ≤ 255)) = true := hw
    simp only [Bool.and_eq_true, decide_eq_true_eq] at hw'
    exact ⟨b, off, rfl, by rw [h1, List.getElem_take], by rw [List.getElem_take]; exact hw'.1, by rw [List.getElem_take]; exact hw'.2⟩
section
variable {H : Type} {enc : TypeId × Value → H} {P : Program}
/-- the row's last step, where of the world behind the call 'Below' alone is known -/
theorem post_below {f : Func} {s : ChangeSpec} {apart fresh handsOn again : Bool} {W W' : World} {args : Array Value} {v : Value} {ds gs : List (DataW H)} {before pa pv : List MemPlace}
    (hW : DataW.Whole enc P f.params.toList s.vars apart W args.toList ds gs before)
    (hres : ∀ (b : Nat) (sp : Nat → Bool) (hd : Bool), DataW.TrodAll enc P W' b sp hd f.resultTypes.toList (v.resultList f.resultTypes.size) (s.fn H (ds ++ gs)).results [])
    (hargs : ∀ sp : Nat → Bool, (∀ p ∈ before, sp p.block = true) → DataW.TrodAll enc P W' 0 sp true f.params.toList args.toList (s.fn H (ds ++ gs)).args pa)
    (hvars : ∀ sp : Nat → Bool, (∀ p ∈ before, sp p.block = true) → DataW.TrodVars enc P W' sp s.vars (s.fn H (ds ++ gs)).vars pv)
    (hps : before = pa ++ pv) (hb : Below W.heap.size W W')
    (hok : ∀ (j : Nat) (t : TypeId) (r : Value), f.resultTypes[j]? = some t → (v.resultList f.resultTypes.size)[j]? = some r → Value.okWide P W' .any 0 t r) :
    s.post enc P f apart fresh handsOn again W args v W' := by
  have hlt : ∀ p ∈ before, p.block < W.heap.size := fun p hp => hW.lt p hp
  have hold : ∀ p ∈ before, (fun b => decide (b < W.heap.size)) p.block = true := fun p hp => by simpa using hlt p hp
  refine ⟨ds, gs, before, [], pa, pv, hW, hres _ _ _, hargs _ hold, hvars _ hold, World.keptBut_mono (fun p hp => ⟨hp, ?_⟩) (hb.frame (· ∈ before)), fun _ => ?_⟩
  · rw [hps, List.mem_append] at hp
    exact Or.inr hp
  · obtain ⟨_, _, _, _, _, hz, hn⟩ := hW
    refine ⟨hok, _, _, ([] ++ pa) ++ pv, ⟨[] ++ pa, pv, trodAll_append (hargs _ (fun _ _ => rfl)) (hres _ _ _), hvars _ (fun _ _ => rfl), rfl, ?_, ?_⟩, ?_⟩
    · intro b off hp
      have hin : MemPlace.cell b off ∈ before := by rw [hps]; simpa using hp
      rw [hb.frozen (hlt _ hin)]
      exact hz b off hin
    · intro ha
      have := hn ha
      rw [hps] at this
      simpa using this
    · intro p hp _
      rw [hps]
      simpa using hp
end
end Go.Proofs.Ytodkenpmhhbppaa
