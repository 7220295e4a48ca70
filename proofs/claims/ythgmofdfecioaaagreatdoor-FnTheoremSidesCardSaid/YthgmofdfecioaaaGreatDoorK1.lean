/-
  Texts of this claim, merged: contracts of the functions that the law reaches. No condition.
-/
import Derived.Test.YthgmofdfecioaaaGreatDoorRows
import Derived.WalkKit
import Derived.Laws.DeepStrings4
import Derived.Laws.Concat
import Derived.Maps.AppendAt
import Derived.Deep.AppendLies
import Derived.RegionTactic
import Derived.OwnWalk
import Derived.Laws.MakeOwn
import Derived.WalkSpells
import Derived.WalkLawsBesides
import Derived.IntWalk
import Derived.Outline
import Derived.OrdersHeld
import Derived.Deep.Quiet
import Derived.Tactics
import Derived.Tactics2

namespace Go.Proofs.YthgmofdfecioaaaGreatDoor
open Go.RowKit
set_option linter.unusedSimpArgs false
set_option linter.unusedVariables false

theorem hide {p : Prop} (h : p) : Hid p := h
theorem unhide {p : Prop} (h : Hid p) : p := h
theorem ret_int {k : IntKind} {a b : Int} (h : a = b) : Ending.returned (.int k a) = .returned (.int k b) := by rw [h]
theorem ret_bool {a b : Bool} (h : a = b) : Ending.returned (.bool a) = .returned (.bool b) := by rw [h]

/-- a term of Go's: kind, number, operands -/
inductive Tm where
  | mk (k n : Int) (ks : List Tm)

def Tm.k : Tm → Int | .mk k _ _ => k
def Tm.n : Tm → Int | .mk _ n _ => n
def Tm.ks : Tm → List Tm | .mk _ _ ks => ks
instance : Inhabited Tm := ⟨.mk 0 0 []⟩

theorem Tm.ind {p : Tm → Prop} (h : ∀ k n ks, (∀ t, t ∈ ks → p t) → p (.mk k n ks)) (t : Tm) : p t :=
  Tm.rec (motive_1 := p) (motive_2 := fun ks => ∀ t, t ∈ ks → p t) (fun k n ks ih => h k n ks ih) (fun _ ht => absurd ht List.not_mem_nil)
    (fun _ _ h1 h2 _ ht => (List.mem_cons.1 ht).elim (fun e => e ▸ h1) (fun e => h2 _ e)) t

theorem Tm.ind2 {p : Tm → Prop} {q : List Tm → Prop} (h1 : ∀ k n ks, q ks → p (.mk k n ks)) (h2 : q []) (h3 : ∀ t ts, p t → q ts → q (t :: ts)) : (∀ t, p t) ∧ (∀ ts, q ts) :=
  ⟨Tm.rec (motive_1 := p) (motive_2 := q) h1 h2 h3, Tm.rec_1 (motive_1 := p) (motive_2 := q) h1 h2 h3⟩

mutual
/-- how many nodes -/
def Tm.size : Tm → Nat | .mk _ _ ks => sizes ks + 1
def sizes : List Tm → Nat | [] => 0 | t :: ts => t.size + sizes ts
end

theorem sizes_le {ts : List Tm} {t : Tm} (h : t ∈ ts) : t.size ≤ sizes ts := by
  induction ts with
  | nil => cases h
  | cons x r ih =>
    rw [sizes]
    rcases List.mem_cons.1 h with rfl | h
    · omega
    · have := ih h; omega
theorem Tm.size_pos (t : Tm) : 0 < t.size := by cases t; rw [Tm.size]; omega
theorem length_le_sizes (ts : List Tm) : ts.length ≤ sizes ts := by
  induction ts with
  | nil => simp [sizes]
  | cons x r ih => rw [sizes, List.length_cons]; have := x.size_pos; omega
theorem sizes_append (a b : List Tm) : sizes (a ++ b) = sizes a + sizes b := by
  induction a with
  | nil => simp [sizes]
  | cons x r ih => simp only [List.cons_append, sizes, ih]; omega

mutual
/-- the term lies as element i of the row at b, off -/
def RdC (w : World) (b off i : Nat) : Tm → Prop
  | .mk k n ks => w.cell? ⟨b, off + i * 3, none⟩ = some (.int .i64 k) ∧ w.cell? ⟨b, off + i * 3 + 1, none⟩ = some (.int .i64 n) ∧
      ∃ A c, w.cell? ⟨b, off + i * 3 + 2, none⟩ = some (.slice A ks.length c) ∧ ks.length ≤ 9223372036854775807 ∧ Rd w A 0 ks
/-- the terms lie at the address, from element i on -/
def Rd (w : World) (A : Option Addr) (i : Nat) : List Tm → Prop
  | [] => True
  | t :: ts => (∃ b off, A = some ⟨b, off, none⟩ ∧ RdC w b off i t) ∧ Rd w A (i + 1) ts
end

/-- every cell that was there holds what it held -/
def Keeps (w w' : World) : Prop := ∀ a v, w.cell? a = some v → w'.cell? a = some v
theorem Keeps.refl (w : World) : Keeps w w := fun _ _ h => h
theorem Keeps.trans {a b c : World} (h : Keeps a b) (k : Keeps b c) : Keeps a c := fun x v e => k x v (h x v e)
theorem Keeps.of_below {w w' : World} (h : Below w.heap.size w w') : Keeps w w' := fun a _ e => (h.cell (World.block_lt_of_cell? w a e)).trans e
theorem Keeps.alloc (w : World) (o : Obj) : Keeps w (w.alloc o) := fun a _ e => (World.cell?_alloc_lt w o a (World.block_lt_of_cell? w a e)).trans e

theorem Rd.nil {w : World} {A : Option Addr} {i : Nat} : Rd w A i [] := by simp only [Rd]
theorem Rd.cons_iff {w : World} {A : Option Addr} {i : Nat} {t : Tm} {ts : List Tm} : Rd w A i (t :: ts) ↔ (∃ b off, A = some ⟨b, off, none⟩ ∧ RdC w b off i t) ∧ Rd w A (i + 1) ts := by
  simp only [Rd]
theorem RdC.iff {w : World} {b off i : Nat} {k n : Int} {ks : List Tm} : RdC w b off i (.mk k n ks) ↔
    w.cell? ⟨b, off + i * 3, none⟩ = some (.int .i64 k) ∧ w.cell? ⟨b, off + i * 3 + 1, none⟩ = some (.int .i64 n) ∧
      ∃ A c, w.cell? ⟨b, off + i * 3 + 2, none⟩ = some (.slice A ks.length c) ∧ ks.length ≤ 9223372036854775807 ∧ Rd w A 0 ks := by
  simp only [RdC]

theorem rd_keeps {w w' : World} (h : Keeps w w') : (∀ t b off i, RdC w b off i t → RdC w' b off i t) ∧ (∀ ks A i, Rd w A i ks → Rd w' A i ks) := by
  refine Tm.ind2 (fun k n ks ih b off i hh => ?_) (fun _ _ _ => Rd.nil) (fun t ts h1 h2 A i hh => ?_)
  · rw [RdC.iff] at hh ⊢
    obtain ⟨h1, h2, A, c, h3, h4, h5⟩ := hh
    exact ⟨h _ _ h1, h _ _ h2, A, c, h _ _ h3, h4, ih _ _ h5⟩
  · rw [Rd.cons_iff] at hh ⊢
    obtain ⟨⟨b, off, hA, hc⟩, hr⟩ := hh
    exact ⟨⟨b, off, hA, h1 _ _ _ hc⟩, h2 _ _ hr⟩
theorem Rd.keeps {w w' : World} {A : Option Addr} {i : Nat} {ks : List Tm} (hr : Rd w A i ks) (h : Keeps w w') : Rd w' A i ks := (rd_keeps h).2 _ _ _ hr
theorem Rd.below {w w' : World} {A : Option Addr} {i : Nat} {ks : List Tm} (hr : Rd w A i ks) (h : Below w.heap.size w w') : Rd w' A i ks := hr.keeps (.of_below h)
theorem Rd.alloc {w : World} {A : Option Addr} {i : Nat} {ks : List Tm} (hr : Rd w A i ks) (o : Obj) : Rd (w.alloc o) A i ks := hr.keeps (.alloc w o)
theorem Rd.drew {w : World} {A : Option Addr} {i : Nat} {ks : List Tm} (hr : Rd w A i ks) : Rd w.drew A i ks := hr.keeps fun _ _ h => h

/-- element j, asked for -/
theorem Rd.get {w : World} {A : Option Addr} {ks : List Tm} : ∀ {i : Nat}, Rd w A i ks → ∀ {j : Nat} (hj : j < ks.length), ∃ b off, A = some ⟨b, off, none⟩ ∧ RdC w b off (i + j) ks[j] := by
  induction ks with
  | nil => intro i _ j hj; simp at hj
  | cons t ts ih =>
    intro i hr j hj
    rw [Rd.cons_iff] at hr
    cases j with
    | zero => simpa using hr.1
    | succ j =>
      obtain ⟨b, off, hA, hc⟩ := ih hr.2 (j := j) (by simpa using hj)
      exact ⟨b, off, hA, by rw [show i + (j + 1) = i + 1 + j from by omega]; simpa using hc⟩
theorem Rd.of_get {w : World} {A : Option Addr} {ks : List Tm} : ∀ {i : Nat}, (∀ j (hj : j < ks.length), ∃ b off, A = some ⟨b, off, none⟩ ∧ RdC w b off (i + j) ks[j]) → Rd w A i ks := by
  induction ks with
  | nil => intro i _; exact Rd.nil
  | cons t ts ih =>
    intro i h
    refine Rd.cons_iff.2 ⟨(by obtain ⟨b, off, hA, hc⟩ := h 0 (by simp); exact ⟨b, off, hA, hc⟩), ih fun j hj => ?_⟩
    obtain ⟨b, off, hA, hc⟩ := h (j + 1) (by simpa using hj)
    exact ⟨b, off, hA, by rw [show i + 1 + j = i + (j + 1) from by omega]; simpa using hc⟩

/-- a block that is known whole -/
def Blk (w : World) (g : Nat) (cs : Array Value) : Prop := ∃ t, w.heap[g]? = some (.cells cs t (0, 0))
section
variable {w w' : World} {g : Nat} {cs : Array Value}
theorem Blk.lt (h : Blk w g cs) : g < w.heap.size := by obtain ⟨t, h⟩ := h; exact (Array.getElem?_eq_some_iff.1 h).1
theorem Blk.cell (h : Blk w g cs) (i : Nat) : w.cell? ⟨g, i, none⟩ = cs[i]? := by obtain ⟨t, h⟩ := h; exact cell_of_row w g i cs t (0, 0) h
theorem Blk.frozen (h : Blk w g cs) (i : Nat) : w.frozen? ⟨g, i, none⟩ = false := by
  obtain ⟨t, h⟩ := h
  simp [World.frozen?, h]
theorem Blk.new (w : World) (t : TypeId) (cs : Array Value) : Blk (w.alloc (.cells cs t)) w.heap.size cs := ⟨t, heap_alloc_new w _⟩
theorem Blk.new_ {n : Nat} (w : World) (t : TypeId) (cs : Array Value) (h : n = w.heap.size) : Blk (w.alloc (.cells cs t)) n cs := by subst h; exact ⟨t, heap_alloc_new w _⟩
theorem Blk.drew (h : Blk w g cs) : Blk w.drew g cs := h
theorem Blk.alloc (h : Blk w g cs) (o : Obj) : Blk (w.alloc o) g cs := by have hl := h.lt; obtain ⟨t, h⟩ := h; exact ⟨t, (Below.heap_alloc w o g hl).trans h⟩
theorem Blk.set_ (h : Blk w g cs) (i : Nat) (u : Value) : Blk (w.setCell ⟨g, i, none⟩ u) g (cs.setIfInBounds i u) := by
  obtain ⟨t, h⟩ := h
  refine ⟨t, ?_⟩
  simp [World.setCell, Array.getElem?_modify, h]
theorem Blk.far (h : Blk w g cs) {p : Addr} (hp : g ≠ p.block) (u : Value) : Blk (w.setCell p u) g cs := by obtain ⟨t, h⟩ := h; exact ⟨t, (Below.heap_setCell w p u g hp).trans h⟩
theorem Blk.below {B : Nat} (h : Blk w g cs) (hb : Below B w w') (hg : g < B) : Blk w' g cs := by obtain ⟨t, h⟩ := h; exact ⟨t, (hb.block g hg).trans h⟩
theorem Blk.keep (h : Blk w g cs) (hb : Below w.heap.size w w') : Blk w' g cs := h.below hb h.lt
theorem Blk.grown {row : Option Nat} (h : Blk w g cs) (hb : w.grownBy w' row) (hg : some g ≠ row) : Blk w' g cs := by have hl := h.lt; obtain ⟨t, h⟩ := h; exact ⟨t, (hb.block g hl hg).trans h⟩
theorem Blk.at_ (h : Blk w g cs) {i : Nat} {v : Value} (hi : cs[i]? = some v) : w.cell? ⟨g, i, none⟩ = some v := (h.cell i).trans hi
theorem Blk.rule {wx : World} (h : Blk wx g cs) {i : Nat} {v : Value} (hi : cs[i]? = some v) : ∀ w' : World, Below wx.heap.size wx w' → w'.cell? ⟨g, i, none⟩ = some v :=
  fun _ hb => (hb.cell h.lt).trans (h.at_ hi)
theorem rule_of {wx : World} {b o : Nat} {v : Value} (h : wx.cell? ⟨b, o, none⟩ = some v) : ∀ w' : World, Below wx.heap.size wx w' → w'.cell? ⟨b, o, none⟩ = some v :=
  fun _ hb => (hb.cell (World.block_lt_of_cell? wx _ h)).trans h
theorem bcell {W w1 : World} (hb : Below W.heap.size W w1) : (∀ b o, b < W.heap.size → w1.cell? ⟨b, o, none⟩ = W.cell? ⟨b, o, none⟩) ∧ (∀ b o, b < W.heap.size → w1.frozen? ⟨b, o, none⟩ = W.frozen? ⟨b, o, none⟩) :=
  ⟨fun b o h => hb.cell (p := ⟨b, o, none⟩) h, fun b o h => hb.frozen (p := ⟨b, o, none⟩) h⟩
end
/-- the world under a name -/
theorem name_world {P : Program} {c : Code} {Q : Exit → Act → World → Prop} {a : Act} {w : World} (h : ∀ wx, wx = w → c.wp P Q a wx) : c.wp P Q a w := h w rfl

/-- element j, laid out -/
theorem Rd.at_ {w : World} {A : Option Addr} {ks : List Tm} (hr : Rd w A 0 ks) {j : Nat} (hj : j < ks.length) :
    ∃ b off k n ks' A' c, A = some ⟨b, off, none⟩ ∧ ks[j] = .mk k n ks' ∧ w.cell? ⟨b, off + j * 3, none⟩ = some (.int .i64 k) ∧ w.cell? ⟨b, off + j * 3 + 1, none⟩ = some (.int .i64 n) ∧
      w.cell? ⟨b, off + j * 3 + 2, none⟩ = some (.slice A' ks'.length c) ∧ ks'.length ≤ 9223372036854775807 ∧ Rd w A' 0 ks' := by
  obtain ⟨b, off, hA, hc⟩ := hr.get hj
  rw [Nat.zero_add] at hc
  generalize ks[j] = t at hc ⊢
  obtain ⟨k, n, ks'⟩ := t
  obtain ⟨h1, h2, A', c, h3, h4, h5⟩ := RdC.iff.1 hc
  exact ⟨b, off, k, n, ks', A', c, hA, rfl, h1, h2, h3, h4, h5⟩

mutual
/-- the same, all in blocks of which p holds -/
def RdPC (p : Nat → Prop) (w : World) (b off i : Nat) : Tm → Prop
  | .mk k n ks => p b ∧ w.cell? ⟨b, off + i * 3, none⟩ = some (.int .i64 k) ∧ w.cell? ⟨b, off + i * 3 + 1, none⟩ = some (.int .i64 n) ∧
      ∃ A c, w.cell? ⟨b, off + i * 3 + 2, none⟩ = some (.slice A ks.length c) ∧ ks.length ≤ 9223372036854775807 ∧ RdP p w A 0 ks
def RdP (p : Nat → Prop) (w : World) (A : Option Addr) (i : Nat) : List Tm → Prop
  | [] => True
  | t :: ts => (∃ b off, A = some ⟨b, off, none⟩ ∧ RdPC p w b off i t) ∧ RdP p w A (i + 1) ts
end
section
variable {p q : Nat → Prop} {w w' : World} {A : Option Addr} {i : Nat} {ks : List Tm}
theorem RdP.nil : RdP p w A i [] := by simp only [RdP]
theorem RdP.cons_iff {t : Tm} {ts : List Tm} : RdP p w A i (t :: ts) ↔ (∃ b off, A = some ⟨b, off, none⟩ ∧ RdPC p w b off i t) ∧ RdP p w A (i + 1) ts := by
  simp only [RdP]
theorem RdPC.iff {b off : Nat} {k n : Int} : RdPC p w b off i (.mk k n ks) ↔
    p b ∧ w.cell? ⟨b, off + i * 3, none⟩ = some (.int .i64 k) ∧ w.cell? ⟨b, off + i * 3 + 1, none⟩ = some (.int .i64 n) ∧
      ∃ A c, w.cell? ⟨b, off + i * 3 + 2, none⟩ = some (.slice A ks.length c) ∧ ks.length ≤ 9223372036854775807 ∧ RdP p w A 0 ks := by
  simp only [RdPC]
theorem rdp_keeps (hq : ∀ b, p b → q b) (h : ∀ b o v, p b → w.cell? ⟨b, o, none⟩ = some v → w'.cell? ⟨b, o, none⟩ = some v) : (∀ t b off i, RdPC p w b off i t → RdPC q w' b off i t) ∧ (∀ ks A i, RdP p w A i ks → RdP q w' A i ks) := by
  refine Tm.ind2 (fun k n ks ih b off i hh => ?_) (fun _ _ _ => RdP.nil) (fun t ts h1 h2 A i hh => ?_)
  · rw [RdPC.iff] at hh ⊢
    obtain ⟨hp, h1, h2, A, c, h3, h4, h5⟩ := hh
    exact ⟨hq _ hp, h _ _ _ hp h1, h _ _ _ hp h2, A, c, h _ _ _ hp h3, h4, ih _ _ h5⟩
  · rw [RdP.cons_iff] at hh ⊢
    obtain ⟨⟨b, off, hA, hc⟩, hr⟩ := hh
    exact ⟨⟨b, off, hA, h1 _ _ _ hc⟩, h2 _ _ hr⟩
theorem RdP.keeps (hr : RdP p w A i ks) (h : ∀ b o v, p b → w.cell? ⟨b, o, none⟩ = some v → w'.cell? ⟨b, o, none⟩ = some v) : RdP p w' A i ks := (rdp_keeps (fun _ h => h) h).2 _ _ _ hr
theorem RdP.keepsAll (hr : RdP p w A i ks) (h : Keeps w w') : RdP p w' A i ks := hr.keeps fun _ _ _ _ e => h _ _ e
theorem RdP.below (hr : RdP p w A i ks) (h : Below w.heap.size w w') : RdP p w' A i ks := hr.keepsAll (.of_below h)
theorem RdP.alloc (hr : RdP p w A i ks) (o : Obj) : RdP p (w.alloc o) A i ks := hr.keepsAll (.alloc w o)
theorem RdP.drew (hr : RdP p w A i ks) : RdP p w.drew A i ks := hr.keeps fun _ _ _ _ e => e
theorem RdP.mono (hr : RdP p w A i ks) (hq : ∀ b, p b → q b) : RdP q w A i ks := (rdp_keeps hq (fun _ _ _ _ e => e)).2 _ _ _ hr
theorem RdP.blocks (hr : RdP p w A i ks) (h : ∀ b, p b → b < w.heap.size → w'.heap[b]? = w.heap[b]?) : RdP p w' A i ks :=
  hr.keeps fun b o v hb e => (World.cell?_of_block (w := w) (a := ⟨b, o, none⟩) (h b hb (World.block_lt_of_cell? w _ e))).trans e
theorem RdP.grown {row : Option Nat} (hr : RdP p w A i ks) (h : w.grownBy w' row) (hp : ∀ b, p b → some b ≠ row) : RdP p w' A i ks := hr.blocks fun b hb hl => h.block b hl (hp b hb)
theorem RdP.setCell (hr : RdP p w A i ks) {a : Addr} (hp : ¬ p a.block) (u : Value) : RdP p (w.setCell a u) A i ks := hr.blocks fun b hb _ => Below.heap_setCell w a u b (fun e => hp (e ▸ hb))
theorem rdp_rd : (∀ t b off i, RdPC p w b off i t → RdC w b off i t) ∧ (∀ ks A i, RdP p w A i ks → Rd w A i ks) := by
  refine Tm.ind2 (fun k n ks ih b off i hh => ?_) (fun _ _ _ => Rd.nil) (fun t ts h1 h2 A i hh => ?_)
  · obtain ⟨hp, h1, h2, A, c, h3, h4, h5⟩ := RdPC.iff.1 hh
    exact RdC.iff.2 ⟨h1, h2, A, c, h3, h4, ih _ _ h5⟩
  · obtain ⟨⟨b, off, hA, hc⟩, hr⟩ := RdP.cons_iff.1 hh
    exact Rd.cons_iff.2 ⟨⟨b, off, hA, h1 _ _ _ hc⟩, h2 _ _ hr⟩
theorem RdP.rd (h : RdP p w A i ks) : Rd w A i ks := rdp_rd.2 _ _ _ h
theorem rd_rdp : (∀ t b off i, RdC w b off i t → RdPC (· < w.heap.size) w b off i t) ∧ (∀ ks A i, Rd w A i ks → RdP (· < w.heap.size) w A i ks) := by
  refine Tm.ind2 (fun k n ks ih b off i hh => ?_) (fun _ _ _ => RdP.nil) (fun t ts h1 h2 A i hh => ?_)
  · obtain ⟨h1, h2, A, c, h3, h4, h5⟩ := RdC.iff.1 hh
    exact RdPC.iff.2 ⟨World.block_lt_of_cell? w _ h1, h1, h2, A, c, h3, h4, ih _ _ h5⟩
  · obtain ⟨⟨b, off, hA, hc⟩, hr⟩ := Rd.cons_iff.1 hh
    exact RdP.cons_iff.2 ⟨⟨b, off, hA, h1 _ _ _ hc⟩, h2 _ _ hr⟩
/-- what lies in memory lies in blocks that are there -/
theorem Rd.rdp (h : Rd w A i ks) : RdP (· < w.heap.size) w A i ks := rd_rdp.2 _ _ _ h
theorem RdP.get : ∀ {i : Nat}, RdP p w A i ks → ∀ {j : Nat} (hj : j < ks.length), ∃ b off, A = some ⟨b, off, none⟩ ∧ RdPC p w b off (i + j) ks[j] := by
  induction ks with
  | nil => intro i _ j hj; simp at hj
  | cons t ts ih =>
    intro i hr j hj
    rw [RdP.cons_iff] at hr
    cases j with
    | zero => simpa using hr.1
    | succ j =>
      obtain ⟨b, off, hA, hc⟩ := ih hr.2 (j := j) (by simpa using hj)
      exact ⟨b, off, hA, by rw [show i + (j + 1) = i + 1 + j from by omega]; simpa using hc⟩
theorem RdP.at_ (hr : RdP p w A 0 ks) {j : Nat} (hj : j < ks.length) :
    ∃ b off k n ks' A' c, A = some ⟨b, off, none⟩ ∧ ks[j] = .mk k n ks' ∧ w.cell? ⟨b, off + j * 3, none⟩ = some (.int .i64 k) ∧ w.cell? ⟨b, off + j * 3 + 1, none⟩ = some (.int .i64 n) ∧
      w.cell? ⟨b, off + j * 3 + 2, none⟩ = some (.slice A' ks'.length c) ∧ ks'.length ≤ 9223372036854775807 ∧ RdP p w A' 0 ks' := by
  obtain ⟨b, off, hA, hc⟩ := hr.get hj
  rw [Nat.zero_add] at hc
  generalize ks[j] = t at hc ⊢
  obtain ⟨k, n, ks'⟩ := t
  obtain ⟨hp, h1, h2, A', c, h3, h4, h5⟩ := RdPC.iff.1 hc
  exact ⟨b, off, k, n, ks', A', c, hA, rfl, h1, h2, h3, h4, h5⟩
end

theorem only_alloc {a w : World} {row : Option Nat} (h : a.grownBy w row) (o : Obj) : a.grownBy (w.alloc o) row :=
  ⟨h.os, h.tape, h.output, Nat.le_trans h.size (by simp), fun i hi hne => (Below.heap_alloc w o i (Nat.lt_of_lt_of_le hi h.size)).trans (h.block i hi hne)⟩
theorem only_drew {a w : World} {row : Option Nat} (h : a.grownBy w row) : a.grownBy w.drew row := ⟨h.os, h.tape, h.output, h.size, h.block⟩
theorem only_trans {a w w' : World} {row : Option Nat} (h : a.grownBy w row) (k : w.grownBy w' row) : a.grownBy w' row :=
  ⟨k.os.trans h.os, k.tape.trans h.tape, k.output.trans h.output, Nat.le_trans h.size k.size, fun i hi hne => (k.block i (Nat.lt_of_lt_of_le hi h.size) hne).trans (h.block i hi hne)⟩
theorem only_below {a w w' : World} {row : Option Nat} (h : a.grownBy w row) (k : Below w.heap.size w w') : a.grownBy w' row :=
  ⟨k.os.trans h.os, k.tape.trans h.tape, k.output.trans h.output, Nat.le_trans h.size k.size, fun i hi hne => (k.block i (Nat.lt_of_lt_of_le hi h.size)).trans (h.block i hi hne)⟩
theorem only_setCell {a w : World} {g : Nat} (h : a.grownBy w (some g)) {p : Addr} (hp : p.block = g ∨ a.heap.size ≤ p.block) (u : Value) : a.grownBy (w.setCell p u) (some g) :=
  ⟨h.os, h.tape, h.output, by simpa [World.setCell] using h.size, fun i hi hne => (Below.heap_setCell w p u i (by
    rintro rfl
    rcases hp with hp | hp
    · exact hne (by rw [hp])
    · omega)).trans (h.block i hi hne)⟩

end Go.Proofs.YthgmofdfecioaaaGreatDoor

namespace Go.Proofs.YthgmofdfecioaaaGreatDoor
open Go.RowKit
set_option linter.unusedSimpArgs false
set_option linter.unusedVariables false

/-- from place i on the string reads as these bytes, and then as it may -/
def Has (s : ByteArray) (i : Nat) (bs : List UInt8) : Prop := ∃ rest, s.data.toList.drop i = bs ++ rest
theorem Has.le {s : ByteArray} {i : Nat} {bs : List UInt8} (h : Has s i bs) (hb : bs ≠ []) : i + bs.length ≤ s.size := by
  obtain ⟨rest, h⟩ := h
  have h1 := congrArg List.length h
  have h2 : 0 < bs.length := List.length_pos_iff.2 hb
  simp only [List.length_drop, List.length_append, Array.length_toList] at h1
  have h3 : s.data.size = s.size := rfl
  omega
theorem Has.cons {s : ByteArray} {i : Nat} {c : UInt8} {bs : List UInt8} (h : Has s i (c :: bs)) : (∃ hi : i < s.size, s[i]'hi = c) ∧ Has s (i + 1) bs := by
  have hl := h.le (by simp)
  simp only [List.length_cons] at hl
  obtain ⟨rest, h⟩ := h
  have hi : i < s.size := by omega
  refine ⟨⟨hi, ?_⟩, rest, ?_⟩
  · have h1 := congrArg (fun l => l[0]?) h
    simp only [List.getElem?_drop, Nat.add_zero, List.cons_append, List.getElem?_cons_zero] at h1
    have h2 : s.data.toList[i]? = some (s[i]'hi) := by
      rw [List.getElem?_eq_getElem (by simpa using hi)]; rfl
    rw [h2] at h1
    injection h1
  · rw [← List.drop_drop, h]; rfl
theorem Has.app {s : ByteArray} {i : Nat} {a b : List UInt8} (h : Has s i (a ++ b)) : Has s i a ∧ Has s (i + a.length) b := by
  obtain ⟨rest, h⟩ := h
  refine ⟨⟨b ++ rest, by rw [h, List.append_assoc]⟩, rest, ?_⟩
  rw [← List.drop_drop, h, List.append_assoc, List.drop_left]
theorem Has.all (bs : List UInt8) : Has ⟨bs.toArray⟩ 0 bs := ⟨[], by simp⟩
/-- at place i stands no digit -/
def Nd (s : ByteArray) (i : Nat) : Prop := ∀ hi : i < s.size, (s[i]'hi).toNat < 48 ∨ 57 < (s[i]'hi).toNat
theorem Nd.of {s : ByteArray} {i : Nat} {c : UInt8} {bs : List UInt8} (h : Has s i (c :: bs)) (hc : c.toNat < 48 ∨ 57 < c.toNat) : Nd s i := fun hi => by
  obtain ⟨⟨_, e⟩, _⟩ := h.cons
  rw [e]; exact hc
theorem Nd.out {s : ByteArray} {i : Nat} (h : s.size ≤ i) : Nd s i := fun hi => absurd hi (by omega)

/-- texts, each behind the other, a comma between, a sign at the end -/
def ser (c : UInt8) : List (List UInt8) → List UInt8
  | [] => []
  | [b] => b ++ [c]
  | b :: bs => b ++ 44 :: ser c bs
theorem ser_one (c : UInt8) (b : List UInt8) : ser c [b] = b ++ [c] := by simp [ser]
theorem ser_more (c : UInt8) (b d : List UInt8) (bs : List (List UInt8)) : ser c (b :: d :: bs) = b ++ 44 :: ser c (d :: bs) := by simp [ser]

/-- kinds with one operand, with two in round brackets, with three or four: their signs -/
def PreK (k : Int) (c : UInt8) : Prop := (k = 8 ∧ c = 43) ∨ (k = 11 ∧ c = 33) ∨ (k = 15 ∧ c = 94) ∨ (k = 16 ∧ c = 95)
def RndK (k : Int) (c : UInt8) : Prop := (k = 3 ∧ c = 62) ∨ (k = 13 ∧ c = 42) ∨ (k = 5 ∧ c = 32)
def BlkK (k : Int) (m : Nat) (o : List UInt8) (c : UInt8) : Prop := (k = 9 ∧ m = 4 ∧ o = [60] ∧ c = 62) ∨ (k = 10 ∧ m = 3 ∧ o = [123] ∧ c = 125) ∨ (k = 14 ∧ m = 3 ∧ o = [124] ∧ c = 124) ∨ (k = 12 ∧ m = 3 ∧ o = [64, 60] ∧ c = 62)

/-- a term of at most this depth, whose numbers have one digit, and its text -/
inductive Tx : Nat → Tm → List UInt8 → Prop
  | var (d : Nat) (n : Int) (c : UInt8) (h : 0 ≤ n ∧ n ≤ 9 ∧ (c.toNat : Int) = 48 + n) : Tx (d + 1) (.mk 1 n []) [35, c]
  | sort (d : Nat) (n : Int) (c : UInt8) (h : 0 ≤ n ∧ n ≤ 3 ∧ (c.toNat : Int) = 48 + n) : Tx (d + 1) (.mk 2 n []) [42, c]
  | nat (d : Nat) : Tx (d + 1) (.mk 6 0 []) [78]
  | zero (d : Nat) : Tx (d + 1) (.mk 7 0 []) [48]
  | pre (d : Nat) (k : Int) (c : UInt8) (t : Tm) (b : List UInt8) (h : PreK k c) (ht : Tx d t b) : Tx (d + 1) (.mk k 0 [t]) (c :: b)
  | rnd (d : Nat) (k : Int) (c : UInt8) (t u : Tm) (x y : List UInt8) (h : RndK k c) (ht : Tx d t x) (hu : Tx d u y) : Tx (d + 1) (.mk k 0 [t, u]) (40 :: (x ++ c :: (y ++ [41])))
  | lam (d : Nat) (t u : Tm) (x y : List UInt8) (ht : Tx d t x) (hu : Tx d u y) : Tx (d + 1) (.mk 4 0 [t, u]) (91 :: (x ++ 93 :: y))
  | blk (d : Nat) (k : Int) (m : Nat) (o : List UInt8) (c : UInt8) (ts : List Tm) (xs : List (List UInt8)) (h : BlkK k m o c) (hm : ts.length = m) (hx : xs.length = m) (ht : ∀ (j : Nat) (t : Tm) (x : List UInt8), ts[j]? = some t → xs[j]? = some x → Tx d t x) : Tx (d + 1) (.mk k 0 ts) (o ++ ser c xs)

theorem tx3 {d : Nat} {k : Int} {o : List UInt8} {c : UInt8} {t u v : Tm} {x y z : List UInt8} (h : BlkK k 3 o c) (ht : Tx d t x) (hu : Tx d u y) (hv : Tx d v z) : Tx (d + 1) (.mk k 0 [t, u, v]) (o ++ ser c [x, y, z]) :=
  .blk d k 3 o c [t, u, v] [x, y, z] h rfl rfl fun j a b h1 h2 => by
    match j, h1, h2 with
    | 0, h1, h2 => cases h1; cases h2; exact ht
    | 1, h1, h2 => cases h1; cases h2; exact hu
    | 2, h1, h2 => cases h1; cases h2; exact hv
theorem tx4 {d : Nat} {k : Int} {o : List UInt8} {c : UInt8} {t u v a : Tm} {x y z b : List UInt8} (h : BlkK k 4 o c) (ht : Tx d t x) (hu : Tx d u y) (hv : Tx d v z) (ha : Tx d a b) : Tx (d + 1) (.mk k 0 [t, u, v, a]) (o ++ ser c [x, y, z, b]) :=
  .blk d k 4 o c [t, u, v, a] [x, y, z, b] h rfl rfl fun j t' x' h1 h2 => by
    match j, h1, h2 with
    | 0, h1, h2 => cases h1; cases h2; exact ht
    | 1, h1, h2 => cases h1; cases h2; exact hu
    | 2, h1, h2 => cases h1; cases h2; exact hv
    | 3, h1, h2 => cases h1; cases h2; exact ha
theorem Tx.ne {d : Nat} {t : Tm} {b : List UInt8} (h : Tx d t b) : b ≠ [] := by
  cases h <;> simp
  rename_i h _ _ _
  rcases h with ⟨_, _, rfl, _⟩ | ⟨_, _, rfl, _⟩ | ⟨_, _, rfl, _⟩ | ⟨_, _, rfl, _⟩ <;> simp
theorem Tx.mono {d : Nat} {t : Tm} {b : List UInt8} (h : Tx d t b) : ∀ {d' : Nat}, d ≤ d' → Tx d' t b := by
  induction h with
  | var d n c h => intro d' hd; obtain ⟨e, rfl⟩ : ∃ e, d' = e + 1 := ⟨d' - 1, by omega⟩; exact .var e n c h
  | sort d n c h => intro d' hd; obtain ⟨e, rfl⟩ : ∃ e, d' = e + 1 := ⟨d' - 1, by omega⟩; exact .sort e n c h
  | nat d => intro d' hd; obtain ⟨e, rfl⟩ : ∃ e, d' = e + 1 := ⟨d' - 1, by omega⟩; exact .nat e
  | zero d => intro d' hd; obtain ⟨e, rfl⟩ : ∃ e, d' = e + 1 := ⟨d' - 1, by omega⟩; exact .zero e
  | pre d k c t b h ht ih => intro d' hd; obtain ⟨e, rfl⟩ : ∃ e, d' = e + 1 := ⟨d' - 1, by omega⟩; exact .pre e k c t b h (ih (by omega))
  | rnd d k c t u x y h ht hu i1 i2 => intro d' hd; obtain ⟨e, rfl⟩ : ∃ e, d' = e + 1 := ⟨d' - 1, by omega⟩; exact .rnd e k c t u x y h (i1 (by omega)) (i2 (by omega))
  | lam d t u x y ht hu i1 i2 => intro d' hd; obtain ⟨e, rfl⟩ : ∃ e, d' = e + 1 := ⟨d' - 1, by omega⟩; exact .lam e t u x y (i1 (by omega)) (i2 (by omega))
  | blk d k m o c ts xs h hm hx ht ih => intro d' hd; obtain ⟨e, rfl⟩ : ∃ e, d' = e + 1 := ⟨d' - 1, by omega⟩; exact .blk e k m o c ts xs h hm hx (fun j t x h1 h2 => ih j t x h1 h2 (by omega))
end Go.Proofs.YthgmofdfecioaaaGreatDoor

namespace Go.Proofs.YthgmofdfecioaaaGreatDoor
open Go.RowKit
set_option linter.unusedSimpArgs false
set_option linter.unusedVariables false

/-- the shapes of the sixteen kinds, a dot for each operand -/
def shpX : List (List UInt8) := [[35], [42], [40, 46, 62, 46, 41], [91, 46, 93, 46], [40, 46, 32, 46, 41], [78], [48], [43, 46], [60, 46, 44, 46, 44, 46, 44, 46, 62], [123, 46, 44, 46, 44, 46, 125], [33, 46], [64, 60, 46, 44, 46, 44, 46, 62], [40, 46, 42, 46, 41], [124, 46, 44, 46, 44, 46, 124], [94, 46], [95, 46]]
/-- what stands around the operands -/
def prt : Nat → List (List UInt8)
  | 3 => [[40], [62], [41]]
  | 4 => [[91], [93], []]
  | 5 => [[40], [32], [41]]
  | 6 => [[78]]
  | 7 => [[48]]
  | 8 => [[43], []]
  | 9 => [[60], [44], [44], [44], [62]]
  | 10 => [[123], [44], [44], [125]]
  | 11 => [[33], []]
  | 12 => [[64, 60], [44], [44], [62]]
  | 13 => [[40], [42], [41]]
  | 14 => [[124], [44], [44], [124]]
  | 15 => [[94], []]
  | 16 => [[95], []]
  | _ => []
/-- behind a part: an operand's text, the next part, and so on -/
def rem : List (List UInt8) → List (List UInt8) → List UInt8
  | x :: xs, p :: ps => x ++ (p ++ rem xs ps)
  | _, _ => []
def inter : List (List UInt8) → List (List UInt8) → List UInt8
  | p :: ps, xs => p ++ rem xs ps
  | [], _ => []
theorem rem_nil {ps : List (List UInt8)} : rem [] ps = [] := by cases ps <;> rfl
theorem rem_drop {xs ps : List (List UInt8)} {j : Nat} {x p : List UInt8} (hx : xs[j]? = some x) (hp : ps[j]? = some p) : rem (xs.drop j) (ps.drop j) = x ++ (p ++ rem (xs.drop (j + 1)) (ps.drop (j + 1))) := by
  obtain ⟨h1, rfl⟩ := List.getElem?_eq_some_iff.1 hx
  obtain ⟨h2, rfl⟩ := List.getElem?_eq_some_iff.1 hp
  rw [List.drop_eq_getElem_cons h1, List.drop_eq_getElem_cons h2, rem]

inductive Tu : Nat → Tm → List UInt8 → Prop
  | num (d k : Nat) (n : Int) (c : UInt8) (h : (k = 1 ∧ n ≤ 9 ∨ k = 2 ∧ n ≤ 3) ∧ 0 ≤ n ∧ (c.toNat : Int) = 48 + n) : Tu (d + 1) (.mk k n []) ((shpX[k - 1]?).getD [] ++ [c])
  | node (d k : Nat) (ts : List Tm) (xs : List (List UInt8)) (hk : 3 ≤ k ∧ k ≤ 16) (hl : (prt k).length = ts.length + 1) (hx : xs.length = ts.length)
      (ht : ∀ (j : Nat) (t : Tm) (x : List UInt8), ts[j]? = some t → xs[j]? = some x → Tu d t x) : Tu (d + 1) (.mk k 0 ts) (inter (prt k) xs)
theorem two_at {α β : Type} {q : α → β → Prop} {t u : α} {x y : β} (h1 : q t x) (h2 : q u y) : ∀ (j : Nat) (a : α) (b : β), [t, u][j]? = some a → [x, y][j]? = some b → q a b
  | 0, a, b, ha, hb => by cases ha; cases hb; exact h1
  | 1, a, b, ha, hb => by cases ha; cases hb; exact h2
  | j + 2, a, b, ha, hb => by simp at ha
theorem one_at {α β : Type} {q : α → β → Prop} {t : α} {x : β} (h1 : q t x) : ∀ (j : Nat) (a : α) (b : β), [t][j]? = some a → [x][j]? = some b → q a b
  | 0, a, b, ha, hb => by cases ha; cases hb; exact h1
  | j + 1, a, b, ha, hb => by simp at ha
theorem none_at {α β : Type} {q : α → β → Prop} {l : List β} : ∀ (j : Nat) (a : α) (b : β), ([] : List α)[j]? = some a → l[j]? = some b → q a b := fun j a b ha => by simp at ha
theorem Tx.tu {d : Nat} {t : Tm} {b : List UInt8} (h : Tx d t b) : Tu d t b := by
  induction h with
  | var d n c h => exact .num d 1 n c ⟨.inl ⟨rfl, h.2.1⟩, h.1, h.2.2⟩
  | sort d n c h => exact .num d 2 n c ⟨.inr ⟨rfl, h.2.1⟩, h.1, h.2.2⟩
  | nat d => exact .node d 6 [] [] ⟨by decide, by decide⟩ rfl rfl none_at
  | zero d => exact .node d 7 [] [] ⟨by decide, by decide⟩ rfl rfl none_at
  | pre d k c t b h ht ih =>
    rcases h with ⟨rfl, rfl⟩ | ⟨rfl, rfl⟩ | ⟨rfl, rfl⟩ | ⟨rfl, rfl⟩
    · have := Tu.node d 8 [t] [b] ⟨by decide, by decide⟩ rfl rfl (one_at ih); simpa [inter, prt, rem] using this
    · have := Tu.node d 11 [t] [b] ⟨by decide, by decide⟩ rfl rfl (one_at ih); simpa [inter, prt, rem] using this
    · have := Tu.node d 15 [t] [b] ⟨by decide, by decide⟩ rfl rfl (one_at ih); simpa [inter, prt, rem] using this
    · have := Tu.node d 16 [t] [b] ⟨by decide, by decide⟩ rfl rfl (one_at ih); simpa [inter, prt, rem] using this
  | rnd d k c t u x y h ht hu i1 i2 =>
    rcases h with ⟨rfl, rfl⟩ | ⟨rfl, rfl⟩ | ⟨rfl, rfl⟩
    · have := Tu.node d 3 [t, u] [x, y] ⟨by decide, by decide⟩ rfl rfl (two_at i1 i2); simpa [inter, prt, rem] using this
    · have := Tu.node d 13 [t, u] [x, y] ⟨by decide, by decide⟩ rfl rfl (two_at i1 i2); simpa [inter, prt, rem] using this
    · have := Tu.node d 5 [t, u] [x, y] ⟨by decide, by decide⟩ rfl rfl (two_at i1 i2); simpa [inter, prt, rem] using this
  | lam d t u x y ht hu i1 i2 => have := Tu.node d 4 [t, u] [x, y] ⟨by decide, by decide⟩ rfl rfl (two_at i1 i2); simpa [inter, prt, rem] using this
  | blk d k m o c ts xs h hm hx ht ih =>
    rcases h with ⟨rfl, rfl, rfl, rfl⟩ | ⟨rfl, rfl, rfl, rfl⟩ | ⟨rfl, rfl, rfl, rfl⟩ | ⟨rfl, rfl, rfl, rfl⟩
    · have := Tu.node d 9 ts xs ⟨by decide, by decide⟩ (by rw [hm]; rfl) (by omega) ih
      match xs, hx with
      | [a, b, c, e], _ => simpa [inter, prt, rem, ser] using this
    · have := Tu.node d 10 ts xs ⟨by decide, by decide⟩ (by rw [hm]; rfl) (by omega) ih
      match xs, hx with
      | [a, b, c], _ => simpa [inter, prt, rem, ser] using this
    · have := Tu.node d 14 ts xs ⟨by decide, by decide⟩ (by rw [hm]; rfl) (by omega) ih
      match xs, hx with
      | [a, b, c], _ => simpa [inter, prt, rem, ser] using this
    · have := Tu.node d 12 ts xs ⟨by decide, by decide⟩ (by rw [hm]; rfl) (by omega) ih
      match xs, hx with
      | [a, b, c], _ => simpa [inter, prt, rem, ser] using this

/-- the kind that a first sign tells -/
def kind0 (k : Nat) : Nat := if k = 5 ∨ k = 13 then 3 else k
theorem prt_kinds {k : Nat} (hk : 3 ≤ k ∧ k ≤ 16) : k = 3 ∨ k = 4 ∨ k = 5 ∨ k = 6 ∨ k = 7 ∨ k = 8 ∨ k = 9 ∨ k = 10 ∨ k = 11 ∨ k = 12 ∨ k = 13 ∨ k = 14 ∨ k = 15 ∨ k = 16 := by omega
/-- a part behind an operand begins with no digit; the empty one is the last -/
theorem prt_sign {k j : Nat} {p : List UInt8} (hk : 3 ≤ k ∧ k ≤ 16) (hp : (prt k)[j + 1]? = some p) : (p = [] ∧ (prt k).length = j + 2) ∨ ∃ c q, p = c :: q ∧ (c.toNat < 48 ∨ 57 < c.toNat) := by
  rcases prt_kinds hk with rfl | rfl | rfl | rfl | rfl | rfl | rfl | rfl | rfl | rfl | rfl | rfl | rfl | rfl <;>
  · simp only [prt] at hp ⊢
    rcases j with _ | _ | _ | _ | j <;> simp at hp <;> subst hp <;> first | (exact .inl ⟨rfl, rfl⟩) | (exact .inr ⟨_, _, rfl, by decide⟩)
end Go.Proofs.YthgmofdfecioaaaGreatDoor

namespace Go.Proofs.YthgmofdfecioaaaGreatDoor
open Go.RowKit
set_option linter.unusedSimpArgs false
set_option linter.unusedVariables false

mutual
/-- three cells that hold a term; the blocks of its operands, in order -/
def OwT (w : World) : Tm → List Value → List Nat → Prop
  | .mk k n ks, xs, fp => ∃ A c, xs = [.int .i64 k, .int .i64 n, .slice A ks.length c] ∧ ks.length ≤ 9223372036854775807 ∧
      ((ks = [] ∧ fp = []) ∨ ∃ g cur e f, ks ≠ [] ∧ A = some ⟨g, 0, none⟩ ∧ w.heap[g]? = some (.cells cur e (0, 0)) ∧ fp = g :: f ∧ OwX w ks (cur.toList.take (ks.length * 3)) f)
/-- cells that hold terms, one behind the other -/
def OwX (w : World) : List Tm → List Value → List Nat → Prop
  | [], xs, fp => xs = [] ∧ fp = []
  | t :: ts, xs, fp => ∃ x1 x2 f1 f2, xs = x1 ++ x2 ∧ fp = f1 ++ f2 ∧ OwT w t x1 f1 ∧ OwX w ts x2 f2
end

/-- a slice's address, whose block holds the terms -/
def Ow (w : World) (A : Option Addr) (ks : List Tm) (fp : List Nat) : Prop :=
  (ks = [] ∧ fp = []) ∨ ∃ g cur e f, ks ≠ [] ∧ A = some ⟨g, 0, none⟩ ∧ w.heap[g]? = some (.cells cur e (0, 0)) ∧ fp = g :: f ∧ OwX w ks (cur.toList.take (ks.length * 3)) f

theorem OwT.iff {w : World} {k n : Int} {ks : List Tm} {xs : List Value} {fp : List Nat} : OwT w (.mk k n ks) xs fp ↔
    ∃ A c, xs = [.int .i64 k, .int .i64 n, .slice A ks.length c] ∧ ks.length ≤ 9223372036854775807 ∧ Ow w A ks fp := by
  simp only [OwT, Ow]
theorem OwX.nil_iff {w : World} {xs : List Value} {fp : List Nat} : OwX w [] xs fp ↔ xs = [] ∧ fp = [] := by simp only [OwX]
theorem OwX.cons_iff {w : World} {t : Tm} {ts : List Tm} {xs : List Value} {fp : List Nat} : OwX w (t :: ts) xs fp ↔
    ∃ x1 x2 f1 f2, xs = x1 ++ x2 ∧ fp = f1 ++ f2 ∧ OwT w t x1 f1 ∧ OwX w ts x2 f2 := by simp only [OwX]
theorem OwX.nil {w : World} : OwX w [] [] [] := OwX.nil_iff.2 ⟨rfl, rfl⟩
theorem OwT.length {w : World} {t : Tm} {xs : List Value} {fp : List Nat} (h : OwT w t xs fp) : xs.length = 3 := by
  cases t
  obtain ⟨A, c, rfl, _⟩ := OwT.iff.1 h
  rfl
theorem OwX.length {w : World} {ts : List Tm} : ∀ {xs : List Value} {fp : List Nat}, OwX w ts xs fp → xs.length = ts.length * 3 := by
  induction ts with
  | nil => intro xs fp h; rw [(OwX.nil_iff.1 h).1]; rfl
  | cons t ts ih =>
    intro xs fp h
    obtain ⟨x1, x2, f1, f2, rfl, rfl, h1, h2⟩ := OwX.cons_iff.1 h
    rw [List.length_append, h1.length, ih h2, List.length_cons]; omega
theorem OwX.append {w : World} {ts us : List Tm} : ∀ {xs ys : List Value} {f g : List Nat}, OwX w ts xs f → OwX w us ys g → OwX w (ts ++ us) (xs ++ ys) (f ++ g) := by
  induction ts with
  | nil => intro xs ys f g h k; obtain ⟨rfl, rfl⟩ := OwX.nil_iff.1 h; exact k
  | cons t ts ih =>
    intro xs ys f g h k
    obtain ⟨x1, x2, f1, f2, rfl, rfl, h1, h2⟩ := OwX.cons_iff.1 h
    rw [List.cons_append]
    exact OwX.cons_iff.2 ⟨x1, x2 ++ ys, f1, f2 ++ g, by rw [List.append_assoc], by rw [List.append_assoc], h1, ih h2 k⟩
theorem OwX.one {w : World} {t : Tm} {xs : List Value} {f : List Nat} (h : OwT w t xs f) : OwX w [t] xs f :=
  OwX.cons_iff.2 ⟨xs, [], f, [], by simp, by simp, h, OwX.nil⟩

theorem OwT.oneCell {w : World} {t : Tm} {xs : List Value} {fp : List Nat} (h : OwT w t xs fp) : ∀ u, u ∈ xs → u.oneCell' = true := by
  cases t
  obtain ⟨A, c, rfl, _⟩ := OwT.iff.1 h
  intro u hu
  simp only [List.mem_cons, List.not_mem_nil, or_false] at hu
  rcases hu with rfl | rfl | rfl <;> rfl

theorem own_frame {w w' : World} : (∀ t xs fp, OwT w t xs fp → (∀ b, b ∈ fp → w'.heap[b]? = w.heap[b]?) → OwT w' t xs fp) ∧ (∀ ts xs fp, OwX w ts xs fp → (∀ b, b ∈ fp → w'.heap[b]? = w.heap[b]?) → OwX w' ts xs fp) := by
  refine Tm.ind2 (fun k n ks ih xs fp h hk => ?_) (fun xs fp h _ => OwX.nil_iff.2 (OwX.nil_iff.1 h)) (fun t ts h1 h2 xs fp h hk => ?_)
  · obtain ⟨A, c, rfl, hl, h⟩ := OwT.iff.1 h
    refine OwT.iff.2 ⟨A, c, rfl, hl, ?_⟩
    rcases h with ⟨rfl, rfl⟩ | ⟨g, cur, e, f, hne, rfl, hg, rfl, hx⟩
    · exact .inl ⟨rfl, rfl⟩
    · exact .inr ⟨g, cur, e, f, hne, rfl, (hk g (by simp)).trans hg, rfl, ih _ _ hx fun b hb => hk b (by simp [hb])⟩
  · obtain ⟨x1, x2, f1, f2, rfl, rfl, ht, hx⟩ := OwX.cons_iff.1 h
    exact OwX.cons_iff.2 ⟨x1, x2, f1, f2, rfl, rfl, h1 _ _ ht fun b hb => hk b (by simp [hb]), h2 _ _ hx fun b hb => hk b (by simp [hb])⟩
theorem OwX.frame {w w' : World} {ts : List Tm} {xs : List Value} {fp : List Nat} (h : OwX w ts xs fp) (hk : ∀ b, b ∈ fp → w'.heap[b]? = w.heap[b]?) : OwX w' ts xs fp := own_frame.2 _ _ _ h hk
theorem OwT.frame {w w' : World} {t : Tm} {xs : List Value} {fp : List Nat} (h : OwT w t xs fp) (hk : ∀ b, b ∈ fp → w'.heap[b]? = w.heap[b]?) : OwT w' t xs fp := own_frame.1 _ _ _ h hk
theorem Ow.frame {w w' : World} {A : Option Addr} {ks : List Tm} {fp : List Nat} (h : Ow w A ks fp) (hk : ∀ b, b ∈ fp → w'.heap[b]? = w.heap[b]?) : Ow w' A ks fp := by
  rcases h with ⟨rfl, rfl⟩ | ⟨g, cur, e, f, hne, rfl, hg, rfl, hx⟩
  · exact .inl ⟨rfl, rfl⟩
  · exact .inr ⟨g, cur, e, f, hne, rfl, (hk g (by simp)).trans hg, rfl, hx.frame fun b hb => hk b (by simp [hb])⟩

theorem own_lt {w : World} : (∀ t xs fp, OwT w t xs fp → ∀ b, b ∈ fp → b < w.heap.size) ∧ (∀ ts xs fp, OwX w ts xs fp → ∀ b, b ∈ fp → b < w.heap.size) := by
  refine Tm.ind2 (fun k n ks ih xs fp h b hb => ?_) (fun xs fp h b hb => ?_) (fun t ts h1 h2 xs fp h b hb => ?_)
  · obtain ⟨A, c, rfl, hl, h⟩ := OwT.iff.1 h
    rcases h with ⟨rfl, rfl⟩ | ⟨g, cur, e, f, hne, rfl, hg, rfl, hx⟩
    · simp at hb
    · rcases List.mem_cons.1 hb with rfl | hb
      · exact (Array.getElem?_eq_some_iff.1 hg).1
      · exact ih _ _ hx b hb
  · rw [(OwX.nil_iff.1 h).2] at hb; simp at hb
  · obtain ⟨x1, x2, f1, f2, rfl, rfl, ht, hx⟩ := OwX.cons_iff.1 h
    rcases List.mem_append.1 hb with hb | hb
    · exact h1 _ _ ht b hb
    · exact h2 _ _ hx b hb
theorem OwX.lt {w : World} {ts : List Tm} {xs : List Value} {fp : List Nat} (h : OwX w ts xs fp) : ∀ b, b ∈ fp → b < w.heap.size := own_lt.2 _ _ _ h
theorem OwT.lt {w : World} {t : Tm} {xs : List Value} {fp : List Nat} (h : OwT w t xs fp) : ∀ b, b ∈ fp → b < w.heap.size := own_lt.1 _ _ _ h
theorem Ow.lt {w : World} {A : Option Addr} {ks : List Tm} {fp : List Nat} (h : Ow w A ks fp) : ∀ b, b ∈ fp → b < w.heap.size := by
  intro b hb
  rcases h with ⟨rfl, rfl⟩ | ⟨g, cur, e, f, hne, rfl, hg, rfl, hx⟩
  · simp at hb
  · rcases List.mem_cons.1 hb with rfl | hb
    · exact (Array.getElem?_eq_some_iff.1 hg).1
    · exact hx.lt b hb

theorem own_rd {w : World} : (∀ t xs fp, OwT w t xs fp → ∀ g off i, (∀ j u, xs[j]? = some u → w.cell? ⟨g, off + i * 3 + j, none⟩ = some u) → RdC w g off i t) ∧
    (∀ ts xs fp, OwX w ts xs fp → ∀ g off i, (∀ j u, xs[j]? = some u → w.cell? ⟨g, off + i * 3 + j, none⟩ = some u) → Rd w (some ⟨g, off, none⟩) i ts) := by
  refine Tm.ind2 (fun k n ks ih xs fp h g off i hc => ?_) (fun xs fp h g off i hc => Rd.nil) (fun t ts h1 h2 xs fp h g off i hc => ?_)
  · obtain ⟨A, c, rfl, hl, h⟩ := OwT.iff.1 h
    refine RdC.iff.2 ⟨hc 0 _ rfl, hc 1 _ rfl, A, c, hc 2 _ rfl, hl, ?_⟩
    rcases h with ⟨rfl, rfl⟩ | ⟨g', cur, e, f, hne, rfl, hg, rfl, hx⟩
    · exact Rd.nil
    · refine ih _ _ hx g' 0 0 fun j u hu => ?_
      have e0 : 0 + 0 * 3 + j = j := by omega
      rw [e0, cell_of_row w g' j cur e (0, 0) hg]
      rw [List.getElem?_take] at hu
      split at hu
      · simpa using hu
      · cases hu
  · obtain ⟨x1, x2, f1, f2, rfl, rfl, ht, hx⟩ := OwX.cons_iff.1 h
    have hl := ht.length
    refine Rd.cons_iff.2 ⟨⟨g, off, rfl, h1 _ _ ht g off i fun j u hu => hc j u ?_⟩, h2 _ _ hx g off (i + 1) fun j u hu => ?_⟩
    · rw [List.getElem?_append_left (by have := (List.getElem?_eq_some_iff.1 hu).1; omega)]; exact hu
    · have := hc (3 + j) u (by rw [List.getElem?_append_right (by omega), hl]; simpa using hu)
      rw [show off + (i + 1) * 3 + j = off + i * 3 + (3 + j) from by omega]; exact this
theorem Ow.rd {w : World} {A : Option Addr} {ks : List Tm} {fp : List Nat} (h : Ow w A ks fp) : Rd w A 0 ks := by
  rcases h with ⟨rfl, rfl⟩ | ⟨g, cur, e, f, hne, rfl, hg, rfl, hx⟩
  · exact Rd.nil
  · refine own_rd.2 _ _ _ hx g 0 0 fun j u hu => ?_
    have e0 : 0 + 0 * 3 + j = j := by omega
    rw [e0, cell_of_row w g j cur e (0, 0) hg]
    rw [List.getElem?_take] at hu
    split at hu
    · simpa using hu
    · cases hu

/-- the terms lie in blocks of their own, all from B on -/
def Fresh (B : Nat) (w : World) (A : Option Addr) (ks : List Tm) : Prop := ∃ fp, Ow w A ks fp ∧ fp.Nodup ∧ ∀ b, b ∈ fp → B ≤ b
theorem Fresh.rd {B : Nat} {w : World} {A : Option Addr} {ks : List Tm} (h : Fresh B w A ks) : Rd w A 0 ks := by
  obtain ⟨fp, h, _⟩ := h; exact h.rd
theorem Fresh.nil {B : Nat} {w : World} {A : Option Addr} : Fresh B w A [] := ⟨[], .inl ⟨rfl, rfl⟩, List.nodup_nil, by simp⟩
theorem Fresh.mono {B B' : Nat} {w : World} {A : Option Addr} {ks : List Tm} (h : Fresh B w A ks) (hB : B' ≤ B) : Fresh B' w A ks := by
  obtain ⟨fp, h, hn, hb⟩ := h; exact ⟨fp, h, hn, fun b hx => Nat.le_trans hB (hb b hx)⟩
theorem Fresh.keep {B : Nat} {w w' : World} {A : Option Addr} {ks : List Tm} (h : Fresh B w A ks) (hk : ∀ b, B ≤ b → b < w.heap.size → w'.heap[b]? = w.heap[b]?) : Fresh B w' A ks := by
  obtain ⟨fp, h, hn, hb⟩ := h; exact ⟨fp, h.frame fun b hx => hk b (hb b hx) (h.lt b hx), hn, hb⟩
theorem Fresh.below {B : Nat} {w w' : World} {A : Option Addr} {ks : List Tm} (h : Fresh B w A ks) (hk : Below w.heap.size w w') : Fresh B w' A ks := h.keep fun b _ hb => hk.block b hb
theorem Fresh.alloc {B : Nat} {w : World} {A : Option Addr} {ks : List Tm} (h : Fresh B w A ks) (o : Obj) : Fresh B (w.alloc o) A ks := h.keep fun b _ hb => Below.heap_alloc w o b hb
theorem Fresh.drew {B : Nat} {w : World} {A : Option Addr} {ks : List Tm} (h : Fresh B w A ks) : Fresh B w.drew A ks := h.keep fun _ _ _ => rfl
theorem Fresh.setCell {B : Nat} {w : World} {A : Option Addr} {ks : List Tm} (h : Fresh B w A ks) {a : Addr} (ha : a.block < B) (u : Value) : Fresh B (w.setCell a u) A ks :=
  h.keep fun b hb _ => Below.heap_setCell w a u b (by omega)

theorem run_make_rowN {P : Program} (t e : TypeId) (i : TypeInfo) (z : Value) (ht : P.underlying t = some (.slice e)) (hi : P.info? e = some i) (hz : i.zero = some z)
    (kl kc : IntKind) (n c : Nat) (hnc : n ≤ c) (hbytes : i.bytes * c ≤ 281474976710656) (h63 : c ≤ 9223372036854775807) (w : World) :
    (Instr.makeSlice t (.int kl (n : Int)) (.int kc (c : Int))).run P w = .ok (.slice (some ⟨w.heap.size, 0, none⟩) n c) (w.alloc (.cells (madeCells z.cells (c * i.size)) e)) := by
  have hb : (i.bytes : Int) * (c : Int) ≤ 281474976710656 := by
    have h : ((i.bytes * c : Nat) : Int) ≤ 281474976710656 := by omega
    rwa [Int.natCast_mul] at h
  have hr := run_make (P := P) w t e i z ht hi hz kl kc n c (by omega) (by omega) hb (by omega)
  simp only [Int.toNat_natCast] at hr
  exact hr

/-- a row that is being filled: of its n places the first hold the terms -/
def Fill (w : World) (g n : Nat) (ts : List Tm) : Prop :=
  ∃ cur f, w.heap[g]? = some (.cells cur 27 (0, 0)) ∧ cur.size = n * 3 ∧ OwX w ts (cur.toList.take (ts.length * 3)) f ∧ f.Nodup ∧ ∀ b, b ∈ f → g < b
theorem Fill.start {w : World} {n : Nat} {cur : Array Value} (h : cur.size = n * 3) : Fill (w.alloc (.cells cur 27)) w.heap.size n [] :=
  ⟨cur, [], heap_alloc_new w _, h, by simpa using OwX.nil, List.nodup_nil, by simp⟩
theorem Fill.below {w w' : World} {g n : Nat} {ts : List Tm} (h : Fill w g n ts) (hb : Below w.heap.size w w') : Fill w' g n ts := by
  obtain ⟨cur, f, h1, h2, h3, h4, h5⟩ := h
  exact ⟨cur, f, (hb.block g (Array.getElem?_eq_some_iff.1 h1).1).trans h1, h2, h3.frame fun b hbf => hb.block b (h3.lt b hbf), h4, h5⟩
theorem Fill.lt {w : World} {g n : Nat} {ts : List Tm} (h : Fill w g n ts) : g < w.heap.size := by
  obtain ⟨cur, f, h1, _⟩ := h
  exact (Array.getElem?_eq_some_iff.1 h1).1
theorem Fill.cell {w : World} {g n : Nat} {ts : List Tm} (h : Fill w g n ts) {j : Nat} (hj : j < n * 3) : ∃ u, w.cell? ⟨g, j, none⟩ = some u := by
  obtain ⟨cur, f, h1, h2, _⟩ := h
  exact ⟨cur[j]'(by omega), by rw [cell_of_row w g j cur _ (0, 0) h1]; exact Array.getElem?_eq_getElem (by omega)⟩
theorem Fill.frozen {w : World} {g n : Nat} {ts : List Tm} (h : Fill w g n ts) (j : Nat) : w.frozen? ⟨g, j, none⟩ = false := by
  obtain ⟨cur, f, h1, h2, _⟩ := h
  simp [World.frozen?, h1]
/-- one place more is filled -/
theorem Fill.set_ {w0 w : World} {g n : Nat} {ts : List Tm} (h : Fill w0 g n ts) (hb : Below w0.heap.size w0 w) {k m : Int} {ks : List Tm} {A : Option Addr} {c j : Nat} (hfr : Fresh w0.heap.size w A ks) (hl : ks.length ≤ 9223372036854775807) (hj : ts.length = j) (hn : j < n) :
    Fill (((w.setCell ⟨g, j * 3, none⟩ (.int .i64 k)).setCell ⟨g, j * 3 + 1, none⟩ (.int .i64 m)).setCell ⟨g, j * 3 + 2, none⟩ (.slice A ks.length c)) g n (ts ++ [.mk k m ks]) := by
  subst hj
  obtain ⟨cur, f, h1, h2, h3, h4, h5⟩ := h
  obtain ⟨fp, k1, k2, k3⟩ := hfr
  have hg0 := (Array.getElem?_eq_some_iff.1 h1).1
  have hg : w.heap[g]? = some (.cells cur 27 (0, 0)) := (hb.block g hg0).trans h1
  have far : ∀ b, b ≠ g → (((w.setCell ⟨g, ts.length * 3, none⟩ (.int .i64 k)).setCell ⟨g, ts.length * 3 + 1, none⟩ (.int .i64 m)).setCell ⟨g, ts.length * 3 + 2, none⟩ (.slice A ks.length c)).heap[b]? = w.heap[b]? := fun b hbg => by
    rw [Below.heap_setCell _ _ _ _ hbg, Below.heap_setCell _ _ _ _ hbg, Below.heap_setCell _ _ _ _ hbg]
  refine ⟨((cur.setIfInBounds (ts.length * 3) (.int .i64 k)).setIfInBounds (ts.length * 3 + 1) (.int .i64 m)).setIfInBounds (ts.length * 3 + 2) (.slice A ks.length c), f ++ fp, ?_, by simpa using h2, ?_, ?_, ?_⟩
  · simp [World.setCell, Array.getElem?_modify, hg]
  · have e : ((((cur.setIfInBounds (ts.length * 3) (.int .i64 k)).setIfInBounds (ts.length * 3 + 1) (.int .i64 m)).setIfInBounds (ts.length * 3 + 2) (.slice A ks.length c)).toList.take ((ts ++ [Tm.mk k m ks]).length * 3)) =
        cur.toList.take (ts.length * 3) ++ [.int .i64 k, .int .i64 m, .slice A ks.length c] := by
      have hlen : cur.toList.length = n * 3 := by simpa using h2
      simp only [Array.toList_setIfInBounds, List.length_append, List.length_singleton]
      rw [show (ts.length + 1) * 3 = ts.length * 3 + 2 + 1 from by omega]
      rw [List.take_succ_eq_append_getElem (by simp; omega), List.take_set_of_le (by omega), List.take_succ_eq_append_getElem (by simp; omega), List.take_set_of_le (by omega), List.take_succ_eq_append_getElem (by simp; omega), List.take_set_of_le (by omega)]
      simp
    rw [e]
    refine (h3.frame fun b hbf => ?_).append (OwX.one (OwT.iff.2 ⟨A, c, rfl, hl, k1.frame fun b hbf => far b ?_⟩))
    · rw [far b (by have := h5 b hbf; omega)]
      exact hb.block b (h3.lt b hbf)
    · have := k3 b hbf; omega
  · refine List.nodup_append.2 ⟨h4, k2, fun x hx y hy e => ?_⟩
    have := h3.lt x hx; have := k3 y hy; omega
  · intro b hbm
    rcases List.mem_append.1 hbm with hbm | hbm
    · exact h5 b hbm
    · have := k3 b hbm; omega
theorem Fill.fresh {w : World} {g n : Nat} {ts : List Tm} (h : Fill w g n ts) {B : Nat} (hB : B ≤ g) : Fresh B w (some ⟨g, 0, none⟩) ts := by
  obtain ⟨cur, f, h1, h2, h3, h4, h5⟩ := h
  by_cases hts : ts = []
  · subst hts; exact Fresh.nil
  · refine ⟨g :: f, .inr ⟨g, cur, _, f, hts, rfl, h1, rfl, h3⟩, List.nodup_cons.2 ⟨fun hm => by have := h5 g hm; omega, h4⟩, fun b hb => ?_⟩
    rcases List.mem_cons.1 hb with rfl | hb
    · exact hB
    · have := h5 b hb; omega

/-- a slice value that grows: the terms lie in blocks of their own, all from B on -/
def Part (B : Nat) (w : World) (v : Value) (ts : List Tm) : Prop :=
  ∃ xs f, w.ownsRow B 27 3 v ts.length xs ∧ OwX w ts xs f ∧ f.Nodup ∧ (∀ b, b ∈ f → B ≤ b) ∧ ∀ g, v.ownBlock = some g → g ∉ f
theorem Part.nil {B : Nat} {w : World} : Part B w (.slice none 0 0) [] :=
  ⟨[], [], World.ownsRow_nil _ _ _ _, OwX.nil, List.nodup_nil, by simp, by simp⟩
theorem Part.keep {B : Nat} {w w' : World} {v : Value} {ts : List Tm} (h : Part B w v ts) (hk : ∀ b, B ≤ b → b < w.heap.size → w'.heap[b]? = w.heap[b]?) : Part B w' v ts := by
  obtain ⟨xs, f, h1, h2, h3, h4, h5⟩ := h
  refine ⟨xs, f, ⟨h1.1, ?_⟩, h2.frame fun b hb => hk b (h4 b hb) (h2.lt b hb), h3, h4, h5⟩
  rcases h1.2 with hn | ⟨g, cap, cur, rfl, hb, hg, r⟩
  · exact .inl hn
  · exact .inr ⟨g, cap, cur, rfl, hb, (hk g hb (Array.getElem?_eq_some_iff.1 hg).1).trans hg, r⟩
theorem Part.below {B : Nat} {w w' : World} {v : Value} {ts : List Tm} (h : Part B w v ts) (hk : Below w.heap.size w w') : Part B w' v ts := h.keep fun b _ hb => hk.block b hb
theorem Part.alloc {B : Nat} {w : World} {v : Value} {ts : List Tm} (h : Part B w v ts) (o : Obj) : Part B (w.alloc o) v ts := h.keep fun b _ hb => Below.heap_alloc w o b hb
theorem Part.drew {B : Nat} {w : World} {v : Value} {ts : List Tm} (h : Part B w v ts) : Part B w.drew v ts := h.keep fun _ _ _ => rfl
theorem Part.setCell {B : Nat} {w : World} {v : Value} {ts : List Tm} (h : Part B w v ts) {a : Addr} (ha : a.block < B) (u : Value) : Part B (w.setCell a u) v ts :=
  h.keep fun b hb _ => Below.heap_setCell w a u b (by omega)
/-- at the end: the slice's shape, and that its terms lie in blocks of their own -/
theorem Part.fresh {B : Nat} {w : World} {v : Value} {ts : List Tm} (h : Part B w v ts) : ∃ A c, v = .slice A ts.length c ∧ Fresh B w A ts := by
  obtain ⟨xs, f, h1, h2, h3, h4, h5⟩ := h
  rcases h1.2 with ⟨rfl, h0⟩ | ⟨g, cap, cur, rfl, hb, hg, _, _, _, htk⟩
  · have : ts = [] := List.eq_nil_of_length_eq_zero h0
    subst this
    exact ⟨none, 0, rfl, Fresh.nil⟩
  · refine ⟨_, _, rfl, ?_⟩
    by_cases hts : ts = []
    · subst hts; exact Fresh.nil
    · refine ⟨g :: f, .inr ⟨g, cur, _, f, hts, rfl, hg, rfl, by rw [htk]; exact h2⟩, List.nodup_cons.2 ⟨h5 g rfl, h3⟩, ?_⟩
      intro b hb'
      rcases List.mem_cons.1 hb' with rfl | hb'
      · exact hb
      · exact h4 b hb'
theorem Part.shape {B : Nat} {w : World} {v : Value} {ts : List Tm} (h : Part B w v ts) : ∃ A c, v = .slice A ts.length c := by
  obtain ⟨A, c, hv, _⟩ := h.fresh; exact ⟨A, c, hv⟩
end Go.Proofs.YthgmofdfecioaaaGreatDoor

namespace Go.Proofs.YthgmofdfecioaaaGreatDoor
open Go.RowKit
set_option linter.unusedSimpArgs false
set_option linter.unusedVariables false

theorem grownBy_alloc_ {a w : World} {row : Option Nat} (h : a.grownBy w row) (o : Obj) : a.grownBy (w.alloc o) row :=
  ⟨h.os, h.tape, h.output, Nat.le_trans h.size (by simp), fun i hi hne => (Below.heap_alloc w o i (Nat.lt_of_lt_of_le hi h.size)).trans (h.block i hi hne)⟩
theorem grownBy_drew {a w : World} {row : Option Nat} (h : a.grownBy w row) : a.grownBy w.drew row := ⟨h.os, h.tape, h.output, h.size, h.block⟩
theorem grownBy_trans {a w w' : World} {row : Option Nat} (h : a.grownBy w row) (k : w.grownBy w' row) : a.grownBy w' row :=
  ⟨k.os.trans h.os, k.tape.trans h.tape, k.output.trans h.output, Nat.le_trans h.size k.size, fun i hi hne => (k.block i (Nat.lt_of_lt_of_le hi h.size) hne).trans (h.block i hi hne)⟩
theorem grownBy_below {a w w' : World} {row : Option Nat} (h : a.grownBy w row) (k : Below w.heap.size w w') : a.grownBy w' row :=
  ⟨k.os.trans h.os, k.tape.trans h.tape, k.output.trans h.output, Nat.le_trans h.size k.size, fun i hi hne => (k.block i (Nat.lt_of_lt_of_le hi h.size)).trans (h.block i hi hne)⟩
theorem grownBy_cell {a w : World} {row : Option Nat} (h : a.grownBy w row) {b o : Nat} {u : Value} (hc : a.cell? ⟨b, o, none⟩ = some u) (hne : row ≠ some b) : w.cell? ⟨b, o, none⟩ = some u :=
  h.cell hc (fun e => hne e.symm)
theorem grownBy_frozen {a w : World} {row : Option Nat} (h : a.grownBy w row) {b o : Nat} {u : Value} (hc : a.cell? ⟨b, o, none⟩ = some u) (hz : a.frozen? ⟨b, o, none⟩ = false) (hne : row ≠ some b) : w.frozen? ⟨b, o, none⟩ = false :=
  (World.frozen?_of_block (h.block b (World.block_lt_of_cell? a _ hc) (fun e => hne e.symm))).trans hz
theorem Part.other {B : Nat} {w : World} {v : Value} {ts : List Tm} (h : Part B w v ts) {b : Nat} (hb : b < B ∨ w.heap.size ≤ b) : v.ownBlock ≠ some b := by
  obtain ⟨_, _, h1, _⟩ := h
  intro e
  have := h1.lt b e
  omega

theorem tm_info : (Tryz.prog.info? 27).map (fun i => (i.zero, i.size, i.bytes)) = some (some (.agg #[.int .i64 0, .int .i64 0, .slice none 0 0]), 3, 40) := by kernel_rfl

/-- make of so many terms -/
theorem mk_terms (n : Nat) (hn : n ≤ 1099511627776) (W : World) : (Instr.makeSlice 25 (.int .i64 (n : Int)) (.int .i64 (n : Int))).run Tryz.prog W = .ok (.slice (some ⟨W.heap.size, 0, none⟩) n n)
    (W.alloc (.cells (madeCells #[.int .i64 0, .int .i64 0, .slice none 0 0] (n * 3)) 27)) := by
  obtain ⟨i0, hi, hz0, hz1, hz2⟩ := info_parts tm_info
  have h := run_make_rowN (P := Tryz.prog) 25 27 i0 _ Tryz.underlying25 hi hz0 .i64 .i64 n n (Nat.le_refl _) (by rw [hz2]; omega) (by omega) W
  rw [hz1] at h
  exact h
theorem mk_fill (n : Nat) (W : World) : Fill (W.alloc (.cells (madeCells #[.int .i64 0, .int .i64 0, .slice none 0 0] (n * 3)) 27)) W.heap.size n [] := Fill.start (by simp [madeCells])

/-- what a call gives back: a term in blocks of its own · terms in blocks of their own · a term that is somewhere -/
def GotT (w : World) (k n : Int) (ks : List Tm) (e : Ending) (w' : World) : Prop :=
  ∃ A c, e = .returned (.agg #[.int .i64 k, .int .i64 n, .slice A ks.length c]) ∧ ks.length ≤ 9223372036854775807 ∧ Fresh w.heap.size w' A ks ∧ Below w.heap.size w w'
def GotL (w : World) (ts : List Tm) (e : Ending) (w' : World) : Prop :=
  ∃ A c, e = .returned (.slice A ts.length c) ∧ Fresh w.heap.size w' A ts ∧ Below w.heap.size w w'

/-- what append of one term does, at a world in which the term's three cells lie at an address -/
theorem run_append_tm {B : Nat} {w0 w : World} {v : Value} {ts : List Tm} {t : Tm} {x1 : List Value} {f1 : List Nat} (hp : Part B w0 v ts) (hb : Below w0.heap.size w0 w) (hB : B ≤ w0.heap.size)
    (ht : OwT w t x1 f1) (hn : f1.Nodup) (hf : ∀ b, b ∈ f1 → w0.heap.size ≤ b) (hlen : ts.length ≤ 1099511627776) (ad : Addr) (c : Nat) (hc : ∀ j u, x1[j]? = some u → w.cell? (ad.add j) = some u) (ty : TypeId) :
    ∃ v' w', (Builtin.append_ #[25, 25] ty #[v, .slice (some ad) 1 c]).run Tryz.prog w = .ok v' w' ∧ Part B w' v' (ts ++ [t]) ∧ Below B w w' ∧ w.grownBy w' v.ownBlock := by
  obtain ⟨i, hi, hz, hz1, hz2⟩ := info_parts tm_info
  have hsz := hb.size
  obtain ⟨xs, f, h1, h2, h3, h4, h5⟩ := hp
  have hlt : ∀ g, v.ownBlock = some g → g < w0.heap.size := fun g hg => (h1.lt g hg).2
  have hge : ∀ g, v.ownBlock = some g → B ≤ g := fun g hg => (h1.lt g hg).1
  have hfl := h2.lt
  have k1 : w.ownsRow B 27 3 v ts.length xs := by
    refine ⟨h1.1, ?_⟩
    rcases h1.2 with hn | ⟨g, cap, cur, rfl, hb', hg, r⟩
    · exact .inl hn
    · exact .inr ⟨g, cap, cur, rfl, hb', (hb.block g (hlt g rfl)).trans hg, r⟩
  have k2 : OwX w ts xs f := h2.frame fun b hbf => hb.block b (hfl b hbf)
  obtain ⟨v', w', hrun, hown, hg, _, hat⟩ := run_append_own_at (P := Tryz.prog) w B 25 ty 27 i _ 3 40 Tryz.underlying25 hi hz hz1 hz2 rfl (by omega) v ts.length xs k1 ad 1 c x1 ht.length hc ht.oneCell
    (by simp only [maxLen]; omega) (by omega) (by omega)
  have e1 : ∀ b, b ∈ f → w'.heap[b]? = w.heap[b]? := fun b hbf => hg.block b (by have := hfl b hbf; omega) (fun e => h5 b e.symm hbf)
  have e2 : ∀ b, b ∈ f1 → w'.heap[b]? = w.heap[b]? := fun b hbf => hg.block b (ht.lt b hbf) (fun e => by have := hlt b e.symm; have := hf b hbf; omega)
  refine ⟨v', w', hrun, ⟨xs ++ x1, f ++ f1, by simpa using hown, (k2.frame e1).append (OwX.one (ht.frame e2)), ?_, ?_, ?_⟩, ⟨hg.os, hg.tape, hg.output, hg.size, fun k hk => hg.block k (by omega) (fun e => by have := hge k e.symm; omega)⟩, hg⟩
  · refine List.nodup_append.2 ⟨h3, hn, fun x hx y hy e => ?_⟩
    have := hfl x hx; have := hf y hy; omega
  · intro b hbm
    rcases List.mem_append.1 hbm with hbm | hbm
    · exact h4 b hbm
    · have := hf b hbm; omega
  · intro g hgo hgm
    rcases hat with e | e <;> rw [e] at hgo
    · rcases List.mem_append.1 hgm with hgm | hgm
      · exact h5 g hgo hgm
      · have := hlt g hgo; have := hf g hgm; omega
    · injection hgo with hgo
      subst hgo
      rcases List.mem_append.1 hgm with hgm | hgm
      · have := hfl _ hgm; omega
      · have := ht.lt _ hgm; omega

section
variable {B : Nat} {w0 w1 : World} {v : Value} {ts : List Tm} {k n : Int} {ks : List Tm} {A : Option Addr} {c : Nat}
/-- the same behind the one-element slice that the translation lays for the term -/
theorem run_append_built (hp : Part B w0 v ts) (hb : Below w0.heap.size w0 w1) (hB : B ≤ w0.heap.size) (hfr : Fresh w0.heap.size w1 A ks) (hl : ks.length ≤ 9223372036854775807) (hlen : ts.length ≤ 1099511627776) (ty : TypeId) :
    ∃ v' w', (Builtin.append_ #[25, 25] ty #[v, .slice (some ⟨w1.heap.size, 0, none⟩) 1 1]).run Tryz.prog (w1.alloc (.cells #[.int .i64 k, .int .i64 n, .slice A ks.length c] 27)) = .ok v' w' ∧
      Part B w' v' (ts ++ [.mk k n ks]) ∧ Below B w1 w' ∧ w1.grownBy w' v.ownBlock := by
  obtain ⟨fp, h1, h2, h3⟩ := (hfr.alloc (.cells #[.int .i64 k, .int .i64 n, .slice A ks.length c] 27))
  have hs := hb.size
  obtain ⟨v', w', r1, r2, r3, r4⟩ := run_append_tm (t := .mk k n ks) (x1 := [.int .i64 k, .int .i64 n, .slice A ks.length c]) (f1 := fp) (c := 1) (ty := ty) hp (hb.alloc hs _) hB (OwT.iff.2 ⟨A, c, rfl, hl, h1⟩) h2 h3 hlen ⟨w1.heap.size, 0, none⟩ (by
    intro j u hj
    match j, hj with
    | 0, hj => simp only [List.getElem?_cons_zero, Option.some.injEq] at hj; subst hj; simp [Addr.add]
    | 1, hj => simp only [List.getElem?_cons_succ, List.getElem?_cons_zero, Option.some.injEq] at hj; subst hj; simp [Addr.add]
    | 2, hj => simp only [List.getElem?_cons_succ, List.getElem?_cons_zero, Option.some.injEq] at hj; subst hj; simp [Addr.add])
  exact ⟨v', w', r1, r2, ((Below.refl _ _).alloc (by omega) _).trans r3, grownBy_trans (grownBy_alloc_ (World.grownBy.refl _ _) _) r4⟩

/-- in a region that draws its order -/
theorem step_append_built (hp : Part B w0 v ts) (hb : Below w0.heap.size w0 w1) (hB : B ≤ w0.heap.size) (hfr : Fresh w0.heap.size w1 A ks) (hl : ks.length ≤ 9223372036854775807) {m : Nat} (hm : ts.length = m) (hlen : m ≤ 1099511627776)
    {ops : Array Oper} {o : Oper} {a : Act} {K : Act → World → Prop} {Q : Exit → Act → World → Prop} {E : Prop} (hgd : o.guard = none) (s x : Operand)
    (ho : o.op = .call { callee := .builtin .append, args := #[s, x], argTypes := #[25, 25] }) (hs : a.eval s = v) (hx : a.eval x = .slice (some ⟨w1.heap.size, 0, none⟩) 1 1)
    (h : ∀ A' c' w', Part B w' (.slice A' (m + 1) c') (ts ++ [.mk k n ks]) → Below B w1 w' → w1.grownBy w' v.ownBlock → K (a.put o.dst (.slice A' (m + 1) c')) w') :
    if Region.wanted o (yielded ops a.tmps) = true then Oper.wp Tryz.prog o a (w1.alloc (.cells #[.int .i64 k, .int .i64 n, .slice A ks.length c] 27)) K Q else E := by
  subst hm
  have hw : Region.wanted o (yielded ops a.tmps) = true := by simp [Region.wanted, hgd]
  rw [if_pos hw]
  obtain ⟨v', w', hrun, h2, h3, h4⟩ := run_append_built (k := k) (n := n) (c := c) hp hb hB hfr hl hlen o.type
  unfold Oper.wp execOp
  simp only [ho, resolve, invoke, builtin, Sem.run_bind, Sem.run_pure, Result.andThen_ok, List.map_toArray, List.map_cons, List.map_nil, hs, hx, hrun]
  obtain ⟨A', c', rfl⟩ := h2.shape
  rw [List.length_append] at h2 ⊢
  exact h A' c' w' h2 h3 h4
/-- in a plain region -/
theorem wpList_append_built (hp : Part B w0 v ts) (hb : Below w0.heap.size w0 w1) (hB : B ≤ w0.heap.size) (hfr : Fresh w0.heap.size w1 A ks) (hl : ks.length ≤ 9223372036854775807) {m : Nat} (hm : ts.length = m) (hlen : m ≤ 1099511627776)
    {ops : Array Oper} {rest : List Oper} {o : Oper} {a : Act} {Q : Exit → Act → World → Prop} (hgd : o.guard = none) (s x : Operand)
    (ho : o.op = .call { callee := .builtin .append, args := #[s, x], argTypes := #[25, 25] }) (hs : a.eval s = v) (hx : a.eval x = .slice (some ⟨w1.heap.size, 0, none⟩) 1 1)
    (h : ∀ A' c' w', Part B w' (.slice A' (m + 1) c') (ts ++ [.mk k n ks]) → Below B w1 w' → w1.grownBy w' v.ownBlock → wpList Tryz.prog ops Q rest (a.put o.dst (.slice A' (m + 1) c')) w') :
    wpList Tryz.prog ops Q (o :: rest) a (w1.alloc (.cells #[.int .i64 k, .int .i64 n, .slice A ks.length c] 27)) := by
  subst hm
  refine wpList_plain hgd fun K hK => ?_
  obtain ⟨v', w', hrun, h2, h3, h4⟩ := run_append_built (k := k) (n := n) (c := c) hp hb hB hfr hl hlen o.type
  unfold Oper.wp execOp
  simp only [ho, resolve, invoke, builtin, Sem.run_bind, Sem.run_pure, Result.andThen_ok, List.map_toArray, List.map_cons, List.map_nil, hs, hx, hrun]
  obtain ⟨A', c', rfl⟩ := h2.shape
  rw [List.length_append] at h2 ⊢
  exact hK _ _ (h A' c' w' h2 h3 h4)
end
end Go.Proofs.YthgmofdfecioaaaGreatDoor

namespace Go.Proofs.YthgmofdfecioaaaGreatDoor
open Go.RowKit
set_option linter.unusedSimpArgs false
set_option linter.unusedVariables false

/-- the terms lie in blocks of their own: some that are named, and new ones from g on -/
def FreshN (f1 : List Nat) (g : Nat) (w : World) (A : Option Addr) (ks : List Tm) : Prop := ∃ fp, Ow w A ks fp ∧ fp.Nodup ∧ ∀ b, b ∈ fp → b ∈ f1 ∨ g ≤ b
theorem FreshN.setCell {f1 : List Nat} {g : Nat} {w : World} {A : Option Addr} {ks : List Tm} (h : FreshN f1 g w A ks) {a : Addr} (ha : a.block ∉ f1 ∧ a.block < g) (u : Value) : FreshN f1 g (w.setCell a u) A ks := by
  obtain ⟨fp, h1, h2, h3⟩ := h
  refine ⟨fp, h1.frame fun b hb => Below.heap_setCell w a u b (fun e => ?_), h2, h3⟩
  rcases h3 b hb with h | h
  · exact ha.1 (e ▸ h)
  · omega
theorem FreshN.fresh {f1 : List Nat} {g : Nat} {w : World} {A : Option Addr} {ks : List Tm} (h : FreshN f1 g w A ks) {B : Nat} (hf : ∀ b, b ∈ f1 → B ≤ b) (hg : B ≤ g) : Fresh B w A ks := by
  obtain ⟨fp, h1, h2, h3⟩ := h
  exact ⟨fp, h1, h2, fun b hb => (h3 b hb).elim (hf b) (fun h => Nat.le_trans hg h)⟩
theorem run_append_node {B : Nat} {w : World} {us : List Tm} {x1 : List Value} {f1 : List Nat} {g : Nat} (hg : w.heap[g]? = some (.cells #[] 27 (0, 0))) (hgB : B ≤ g) (hgw : g < w.heap.size) (hB : B ≤ w.heap.size)
    (ht : OwX w us x1 f1) (hn : f1.Nodup) (hf : ∀ b, b ∈ f1 → B ≤ b ∧ b ≠ g) (hlen : us.length ≤ 1099511627776) (ad : Addr) (c : Nat) (hc : ∀ j u, x1[j]? = some u → w.cell? (ad.add j) = some u) (h1 : ∀ u, u ∈ x1 → u.oneCell' = true) (ty : TypeId) :
    ∃ A c' w', (Builtin.append_ #[25, 25] ty #[.slice (some ⟨g, 0, none⟩) 0 0, .slice (some ad) us.length c]).run Tryz.prog w = .ok (.slice A us.length c') w' ∧ FreshN f1 g w' A us ∧ w.grownBy w' (some g) := by
  obtain ⟨i, hi, hz, hz1, hz2⟩ := info_parts tm_info
  have k1 : w.ownsRow B 27 3 (.slice (some ⟨g, 0, none⟩) 0 0) 0 [] := ⟨by simp, .inr ⟨g, 0, #[], rfl, hgB, hg, Nat.le_refl _, by simp [maxLen], by simp, by simp⟩⟩
  obtain ⟨v', w', hrun, hown, hgr, _, hat⟩ := run_append_own_at (P := Tryz.prog) w B 25 ty 27 i _ 3 40 Tryz.underlying25 hi hz hz1 hz2 rfl (by omega) _ 0 [] k1 ad us.length c x1 ht.length hc h1
    (by simp only [maxLen]; omega) (by omega) (by omega)
  have hfl := ht.lt
  have e1 : ∀ b, b ∈ f1 → w'.heap[b]? = w.heap[b]? := fun b hbf => hgr.block b (hfl b hbf) (fun e => by injection e with e; exact (hf b hbf).2 e)
  have hx' := ht.frame e1
  rw [Nat.zero_add, List.nil_append] at hown
  obtain ⟨h2, h3⟩ := hown
  rcases h3 with ⟨rfl, h0⟩ | ⟨g', cap, cur, rfl, hb', hg', _, _, _, htk⟩
  · have : us = [] := List.eq_nil_of_length_eq_zero h0
    subst this
    exact ⟨none, 0, w', hrun, ⟨[], .inl ⟨rfl, rfl⟩, List.nodup_nil, by simp⟩, hgr⟩
  · refine ⟨_, _, w', hrun, ?_, hgr⟩
    by_cases hts : us = []
    · subst hts; exact ⟨[], .inl ⟨rfl, rfl⟩, List.nodup_nil, by simp⟩
    · refine ⟨g' :: f1, .inr ⟨g', cur, _, f1, hts, rfl, hg', rfl, by rw [htk]; exact hx'⟩, List.nodup_cons.2 ⟨fun hm => ?_, hn⟩, fun b hb => ?_⟩
      · rcases hat with e | e
        · injection e with e; exact (hf g' hm).2 e
        · injection e with e; have e : g' = w.heap.size := e; have := hfl g' hm; omega
      · rcases List.mem_cons.1 hb with rfl | hb
        · right
          rcases hat with e | e
          · injection e with e; exact Nat.le_of_eq e.symm
          · injection e with e; have e : b = w.heap.size := e; omega
        · exact .inl hb
theorem wpList_append_node {B : Nat} {w : World} {us : List Tm} {x1 : List Value} {f1 : List Nat} {g : Nat} (hg : w.heap[g]? = some (.cells #[] 27 (0, 0))) (hgB : B ≤ g) (hgw : g < w.heap.size) (hB : B ≤ w.heap.size)
    (ht : OwX w us x1 f1) (hn : f1.Nodup) (hf : ∀ b, b ∈ f1 → B ≤ b ∧ b ≠ g) (hlen : us.length ≤ 1099511627776) (ad : Addr) (c : Nat) (hc : ∀ j u, x1[j]? = some u → w.cell? (ad.add j) = some u) (h1 : ∀ u, u ∈ x1 → u.oneCell' = true)
    {ops : Array Oper} {rest : List Oper} {o : Oper} {a : Act} {Q : Exit → Act → World → Prop} (hgd : o.guard = none) (s x : Operand)
    (ho : o.op = .call { callee := .builtin .append, args := #[s, x], argTypes := #[25, 25] }) (hse : a.eval s = .slice (some ⟨g, 0, none⟩) 0 0) (hx : a.eval x = .slice (some ad) us.length c)
    (h : ∀ A' c' w', FreshN f1 g w' A' us → w.grownBy w' (some g) → wpList Tryz.prog ops Q rest (a.put o.dst (.slice A' us.length c')) w') :
    wpList Tryz.prog ops Q (o :: rest) a w := by
  refine wpList_plain hgd fun K hK => ?_
  obtain ⟨A', c', w', hrun, h2, h3⟩ := run_append_node hg hgB hgw hB ht hn hf hlen ad c hc h1 o.type
  unfold Oper.wp execOp
  simp only [ho, resolve, invoke, builtin, Sem.run_bind, Sem.run_pure, Result.andThen_ok, List.map_toArray, List.map_cons, List.map_nil, hse, hx, hrun]
  exact hK _ _ (h A' c' w' h2 h3)
theorem OwX.oneCell {w : World} {ts : List Tm} : ∀ {xs : List Value} {fp : List Nat}, OwX w ts xs fp → ∀ u, u ∈ xs → u.oneCell' = true := by
  induction ts with
  | nil => intro xs fp h u hu; rw [(OwX.nil_iff.1 h).1] at hu; cases hu
  | cons t ts ih =>
    intro xs fp h u hu
    obtain ⟨x1, x2, f1, f2, rfl, rfl, h1, h2⟩ := OwX.cons_iff.1 h
    rcases List.mem_append.1 hu with hu | hu
    · exact h1.oneCell u hu
    · exact ih h2 u hu
theorem add_zero_ (g j : Nat) : Addr.add ⟨g, 0, none⟩ j = ⟨g, j, none⟩ := by unfold Addr.add; split <;> simp_all
/-- what a call gives back: a term in blocks of its own, all from B on -/
def GotB (B : Nat) (w : World) (k n : Int) (ks : List Tm) (e : Ending) (w' : World) : Prop :=
  ∃ A c, e = .returned (.agg #[.int .i64 k, .int .i64 n, .slice A ks.length c]) ∧ Fresh B w' A ks ∧ Below w.heap.size w w'

set_option maxHeartbeats 2000000 in
set_option maxRecDepth 100000 in
theorem l1Node_any {B : Nat} {w : World} {us : List Tm} {x1 : List Value} {f1 : List Nat} (k : Int) (hB : B ≤ w.heap.size)
    (ht : OwX w us x1 f1) (hn : f1.Nodup) (hf : ∀ b, b ∈ f1 → B ≤ b) (hlen : us.length ≤ 1099511627776) (g c : Nat) (hb : Blk w g x1.toArray) :
    Calls Tryz.prog 32 #[.int .i64 k, .slice (some ⟨g, 0, none⟩) us.length c] w (GotB B w k 0 us) := by
  have hlt := ht.lt
  have hone := ht.oneCell
  have hgl := hb.lt
  go_enter Tryz.func32, Tryz.ntmps32
  have H1 := hide (show ((w.alloc (.cells #[.int .i64 0, .int .i64 0, .slice none 0 0] 27)).alloc (.cells #[] 27)).heap[w.heap.size + 1]? = some (.cells #[] 27 (0, 0)) by simpa using heap_alloc_new (w.alloc (.cells #[.int .i64 0, .int .i64 0, .slice none 0 0] 27)) (.cells #[] 27))
  have H2 := hide (show OwX ((w.alloc (.cells #[.int .i64 0, .int .i64 0, .slice none 0 0] 27)).alloc (.cells #[] 27)) us x1 f1 from ht.frame fun b hb => (Below.heap_alloc _ _ b (by have := hlt b hb; simp; omega)).trans (Below.heap_alloc _ _ b (hlt b hb)))
  have H3 := hide (show ∀ j u, x1[j]? = some u → ((w.alloc (.cells #[.int .i64 0, .int .i64 0, .slice none 0 0] 27)).alloc (.cells #[] 27)).cell? (Addr.add ⟨g, 0, none⟩ j) = some u from fun j u hj => by
    have := ((hb.alloc (.cells #[.int .i64 0, .int .i64 0, .slice none 0 0] 27)).alloc (.cells #[] 27)).at_ (i := j) (v := u) (by simpa using hj)
    rw [add_zero_]; exact this)
  go_wp2_with (at_builtin; (refine wpList_append_node (B := B) (us := us) (x1 := x1) (f1 := f1) (g := w.heap.size + 1) H1.out (by omega) (by simp) (by simp; omega) H2.out hn (fun b hb => ⟨hf b hb, by have := hlt b hb; omega⟩) hlen ⟨g, 0, none⟩ c H3.out hone rfl _ _ rfl rfl rfl ?_); intro A' c' w2 hfr hg2; have hT : Blk w2 w.heap.size #[.int .i64 0, .int .i64 0, .slice none 0 0] := ((Blk.new_ w 27 #[.int .i64 0, .int .i64 0, .slice none 0 0] rfl).alloc _).grown hg2 (by simp); have d0 := hT.at_ (i := 0) rfl; have d1 := hT.at_ (i := 1) rfl; have d2 := hT.at_ (i := 2) rfl; have e0 := hT.frozen 0; have e1 := hT.frozen 1; have e2 := hT.frozen 2; have hb2 : Below w.heap.size w w2 := (((Below.refl _ _).alloc (Nat.le_refl _) _).alloc (by simp) _).trans ⟨hg2.os, hg2.tape, hg2.output, hg2.size, fun b hb => hg2.block b (by simp; omega) (fun e => by injection e with e; omega)⟩; have hBs : B ≤ w.heap.size := hB)
  refine bodyPost_ret (v := .agg #[.int .i64 k, .int .i64 0, .slice A' us.length c']) (by simp [results, Tryz.results32, go_sem, d0, d1, d2]) rfl ⟨A', c', rfl, ?_, ((hb2.setCell (by simp) _).setCell (by simp) _).setCell (by simp) _⟩
  have hn0 : w.heap.size ∉ f1 := fun h => absurd (hlt _ h) (Nat.lt_irrefl _)
  exact (((hfr.setCell ⟨hn0, by simp⟩ _).setCell ⟨hn0, by simp⟩ _).setCell ⟨hn0, by simp⟩ _).fresh hf (by omega)
end Go.Proofs.YthgmofdfecioaaaGreatDoor

namespace Go.Proofs.YthgmofdfecioaaaGreatDoor
open Go.RowKit
set_option linter.unusedSimpArgs false
set_option linter.unusedVariables false

set_option maxHeartbeats 2000000 in
set_option maxRecDepth 100000 in
theorem l19Num_one (s : ByteArray) (c : Nat) (w : World) (hs : s.size = 1) (hc : ∀ h : 0 < s.size, (s[0]'h).toNat = c) (h1 : 48 ≤ c) (h2 : c ≤ 57) :
    Calls Tryz.prog 118 #[.string s] w fun e w' => e = .returned (.tuple #[.int .i64 ((c : Int) - 48), .bool true]) ∧ w = w' := by
  have h0 : 0 < s.size := by omega
  have e0 := hc h0
  have q45 : ((c : Int) == 45) = false := beq_eq_false_iff_ne.2 (by omega)
  have hsl : (s.size : Int) ≤ 1 := by omega
  have hsg : (1 : Int) ≤ (s.size : Int) := by omega
  have enter : Hid True → Calls Tryz.prog 118 #[.string s] w fun e w' => e = .returned (.tuple #[.int .i64 ((c : Int) - 48), .bool true]) ∧ w = w' := by
    intro _
    by_cases h48 : c = 48
    · have q48 : ((c : Int) == 48) = true := by rw [h48]; rfl
      clear h48 hc
      go_enter Tryz.func118, Tryz.ntmps118
      go_wp2
      go_loop [5, 6] (fun v i => ∃ k : Nat, k ≤ 1 ∧ i = .int .i64 k ∧ v = .int .i64 (if k = 0 then 0 else (c : Int) - 48)) (fun _ i => 1 - (intOf i).toNat)
      case atStart => exact ⟨0, by omega, rfl, rfl⟩
      case round =>
        obtain ⟨k, hk, rfl, rfl⟩ := hrel
        by_cases hk0 : k = 0
        · subst hk0
          have d1 : decide ((c : Int) < 48) = false := decide_eq_false (by omega)
          have d2 : decide ((57 : Int) < (c : Int)) = false := decide_eq_false (by omega)
          have u8 : IntKind.u8.wrap ((c : Int) - 48) = (c : Int) - 48 := IntWalk.u8_in _ (by omega)
          go_wp2
          go_round
          case rel => exact ⟨1, by omega, rfl, by simp⟩
          case measure => simp [intOf]
        · obtain rfl : k = 1 := by omega
          go_wp2
          go_ret2
          exact ⟨rfl, rfl⟩
    · have q48 : ((c : Int) == 48) = false := beq_eq_false_iff_ne.2 (by omega)
      clear h48 hc
      go_enter Tryz.func118, Tryz.ntmps118
      go_wp2
      go_loop [5, 6] (fun v i => ∃ k : Nat, k ≤ 1 ∧ i = .int .i64 k ∧ v = .int .i64 (if k = 0 then 0 else (c : Int) - 48)) (fun _ i => 1 - (intOf i).toNat)
      case atStart => exact ⟨0, by omega, rfl, rfl⟩
      case round =>
        obtain ⟨k, hk, rfl, rfl⟩ := hrel
        by_cases hk0 : k = 0
        · subst hk0
          have d1 : decide ((c : Int) < 48) = false := decide_eq_false (by omega)
          have d2 : decide ((57 : Int) < (c : Int)) = false := decide_eq_false (by omega)
          have u8 : IntKind.u8.wrap ((c : Int) - 48) = (c : Int) - 48 := IntWalk.u8_in _ (by omega)
          go_wp2
          go_round
          case rel => exact ⟨1, by omega, rfl, by simp⟩
          case measure => simp [intOf]
        · obtain rfl : k = 1 := by omega
          go_wp2
          go_ret2
          exact ⟨rfl, rfl⟩
  exact enter trivial

theorem cut_one (s : ByteArray) (i : Nat) (hi : i < s.size) : (s.extract i (i + 1)).size = 1 ∧ ∀ h : 0 < (s.extract i (i + 1)).size, (s.extract i (i + 1))[0]'h = s[i]'hi := by
  refine ⟨by rw [ByteArray.size_extract]; omega, fun h => ?_⟩
  rw [ByteArray.getElem_extract]
  simp
set_option maxHeartbeats 2000000 in
set_option maxRecDepth 100000 in
theorem l1Number_one (s : ByteArray) (i c : Nat) (dg : Int) (w : World) (hd : dg = 1 ∨ dg = 2) (hs : s.size ≤ 1000000) (hi : i < s.size) (hc : (s[i]'hi).toNat = c) (h1 : 48 ≤ c) (h2 : c ≤ 57) (hn : dg = 2 → Nd s (i + 1)) :
    Calls Tryz.prog 88 #[.string s, .int .i64 i, .int .i64 dg] w fun e w' => e = .returned (.tuple #[.int .i64 ((c : Int) - 48), .int .i64 ((i + 1 : Nat) : Int)]) ∧ w = w' := by
  obtain ⟨x1, x2⟩ := cut_one s i hi
  have hnum := hide (fun (w : World) => l19Num_one (s.extract i (i + 1)) c w x1 (fun h => by rw [x2 h, hc]) h1 h2)
  have d1 : decide ((48 : Int) ≤ (c : Int)) = true := decide_eq_true (by omega)
  have d2 : decide ((c : Int) ≤ 57) = true := decide_eq_true (by omega)
  have hn' := hide hn
  have hc' := hide hc
  have hd' := hide hd
  clear x1 x2 hn hd
  have hdl : 1 ≤ dg ∧ dg ≤ 2 := by rcases hd'.out with h | h <;> omega
  go_enter Tryz.func88, Tryz.ntmps88
  go_wp2
  go_loop [8] (fun v => ∃ k : Nat, k ≤ 1 ∧ v = .int .i64 (i + k : Nat)) (fun v => i + 1 - (intOf v).toNat)
  case atStart => exact ⟨0, by omega, rfl⟩
  case round =>
    obtain ⟨k, hk, rfl⟩ := hrel
    by_cases hk0 : k = 0
    · subst hk0
      go_wp2
      go_round
      case rel => exact ⟨1, by omega, rfl⟩
      case measure => simp [intOf]
    · obtain rfl : k = 1 := by omega
      clear hk hk0
      by_cases hl : i + 1 < s.size
      · rcases hd'.out with rfl | rfl
        · go_wp2_with (go_at_call 118; refine (hnum.out _).mono ?_; rintro e w1 ⟨rfl, rfl⟩)
          go_ret2
          exact ⟨rfl, rfl⟩
        · have hnd := hn'.out rfl hl
          obtain ⟨c2, hc2⟩ : ∃ c2, (s[i + 1]'hl).toNat = c2 := ⟨_, rfl⟩
          rw [hc2] at hnd
          by_cases h5 : c2 < 48
          · have e1 : decide ((48 : Int) ≤ (c2 : Int)) = false := decide_eq_false (by omega)
            go_wp2_with (go_at_call 118; refine (hnum.out _).mono ?_; rintro e w1 ⟨rfl, rfl⟩)
            go_ret2
            exact ⟨rfl, rfl⟩
          · have e1 : decide ((48 : Int) ≤ (c2 : Int)) = true := decide_eq_true (by omega)
            have e2 : decide ((c2 : Int) ≤ 57) = false := decide_eq_false (by omega)
            go_wp2_with (go_at_call 118; refine (hnum.out _).mono ?_; rintro e w1 ⟨rfl, rfl⟩)
            go_ret2
            exact ⟨rfl, rfl⟩
      · go_wp2_with (go_at_call 118; refine (hnum.out _).mono ?_; rintro e w1 ⟨rfl, rfl⟩)
        go_ret2
        exact ⟨rfl, rfl⟩
end Go.Proofs.YthgmofdfecioaaaGreatDoor

namespace Go.Proofs.YthgmofdfecioaaaGreatDoor
open Go.RowKit
set_option linter.unusedSimpArgs false
set_option linter.unusedVariables false

/-- a term that has been read, and the place behind it -/
def ParsedT (w : World) (k n : Int) (ks : List Tm) (j : Nat) (e : Ending) (w' : World) : Prop :=
  ∃ (m : Nat) (A : Option Addr) (c : Nat), m = j ∧ e = .returned (.tuple #[.agg #[.int .i64 k, .int .i64 n, .slice A ks.length c], .int .i64 m]) ∧ ks.length ≤ 9223372036854775807 ∧ Fresh w.heap.size w' A ks ∧ Below w.heap.size w w'
def ParseOk (k n : Int) (ks : List Tm) (bs : List UInt8) (d : Nat) : Prop :=
  ∀ (s : ByteArray) (i : Nat) (I D : Int) (w : World), s.size ≤ 1000000 → I = i → Has s i bs → Nd s (i + bs.length) → (d : Int) ≤ D → D ≤ 1000 →
    Calls Tryz.prog 63 #[.string s, .int .i64 I, .int .i64 D] w (ParsedT w k n ks (i + bs.length))

theorem Fresh.node {B : Nat} {w : World} {A : Option Addr} {ks : List Tm} (h : Fresh B w A ks) (hl : ks.length ≤ 9223372036854775807) (k n : Int) (c : Nat) :
    ∃ fp, OwX w [.mk k n ks] [.int .i64 k, .int .i64 n, .slice A ks.length c] fp ∧ fp.Nodup ∧ ∀ b, b ∈ fp → B ≤ b := by
  obtain ⟨fp, h1, h2, h3⟩ := h
  exact ⟨fp, OwX.one (OwT.iff.2 ⟨A, c, rfl, hl, h1⟩), h2, h3⟩
theorem Fresh.node2 {B : Nat} {w1 w2 : World} {A1 A2 : Option Addr} {ks1 ks2 : List Tm} (h1 : Fresh B w1 A1 ks1) (hb : Below w1.heap.size w1 w2) (h2 : Fresh w1.heap.size w2 A2 ks2) (hB : B ≤ w1.heap.size)
    (hl1 : ks1.length ≤ 9223372036854775807) (hl2 : ks2.length ≤ 9223372036854775807) (k1 n1 k2 n2 : Int) (c1 c2 : Nat) :
    ∃ fp, OwX w2 [.mk k1 n1 ks1, .mk k2 n2 ks2] [.int .i64 k1, .int .i64 n1, .slice A1 ks1.length c1, .int .i64 k2, .int .i64 n2, .slice A2 ks2.length c2] fp ∧ fp.Nodup ∧ ∀ b, b ∈ fp → B ≤ b := by
  obtain ⟨f1, a1, a2, a3⟩ := h1
  obtain ⟨f2, b1, b2, b3⟩ := h2
  have hlt := a1.lt
  refine ⟨f1 ++ f2, OwX.cons_iff.2 ⟨[.int .i64 k1, .int .i64 n1, .slice A1 ks1.length c1], [.int .i64 k2, .int .i64 n2, .slice A2 ks2.length c2], f1, f2, rfl, rfl, OwT.iff.2 ⟨A1, c1, rfl, hl1, a1.frame fun b hbf => hb.block b (hlt b hbf)⟩, OwX.one (OwT.iff.2 ⟨A2, c2, rfl, hl2, b1⟩)⟩, ?_, ?_⟩
  · refine List.nodup_append.2 ⟨a2, b2, fun x hx y hy e => ?_⟩
    have := hlt x hx; have := b3 y hy; omega
  · intro b hbm
    rcases List.mem_append.1 hbm with h | h
    · exact a3 b h
    · have := b3 b h; omega
theorem OwX.below {w w' : World} {ts : List Tm} {xs : List Value} {fp : List Nat} (h : OwX w ts xs fp) (hb : Below w.heap.size w w') : OwX w' ts xs fp := h.frame fun b hbf => hb.block b (h.lt b hbf)
theorem OwX.alloc {w : World} {ts : List Tm} {xs : List Value} {fp : List Nat} (h : OwX w ts xs fp) (o : Obj) : OwX (w.alloc o) ts xs fp := h.frame fun b hb => Below.heap_alloc w o b (h.lt b hb)
theorem Part.empty {B g : Nat} {w : World} (h : Blk w g #[]) (hg : B ≤ g) (ht : ∀ t, w.heap[g]? = some (.cells #[] t (0, 0)) → t = 27) : Part B w (.slice (some ⟨g, 0, none⟩) 0 0) [] := by
  obtain ⟨t, h⟩ := h
  have := ht t h
  subst this
  exact ⟨[], [], ⟨by simp, .inr ⟨g, 0, #[], rfl, hg, h, Nat.le_refl _, by simp [maxLen], by simp, by simp⟩⟩, OwX.nil, List.nodup_nil, by simp, by simp⟩
theorem Part.empty_ {B g : Nat} {w : World} (hg : g = w.heap.size) (hB : B ≤ g) : Part B (w.alloc (.cells #[] 27)) (.slice (some ⟨g, 0, none⟩) 0 0) [] := by
  subst hg
  exact ⟨[], [], ⟨by simp, .inr ⟨_, 0, #[], rfl, hB, heap_alloc_new w _, Nat.le_refl _, by simp [maxLen], by simp, by simp⟩⟩, OwX.nil, List.nodup_nil, by simp, by simp⟩

set_option maxHeartbeats 2000000 in
set_option maxRecDepth 100000 in
theorem prefix_any {k : Int} {c : UInt8} {k1 n1 : Int} {ks1 : List Tm} {b : List UInt8} {d : Nat} (h : PreK k c) (ih : ParseOk k1 n1 ks1 b d) (s : ByteArray) (i : Nat) (I D : Int) (w : World) (hs : s.size ≤ 1000000) (hI : I = i) (hh : Has s i (c :: b)) (hn : Nd s (i + 1 + b.length)) (hD : (d : Int) + 1 ≤ D) (hD2 : D ≤ 1000) :
    Calls Tryz.prog 89 #[.string s, .int .i64 I, .int .i64 D] w (ParsedT w k 0 [.mk k1 n1 ks1] (i + 1 + b.length)) := by
  subst hI
  obtain ⟨⟨hi, hc⟩, hh2⟩ := hh.cons
  have hpar := hide (fun w => ih s (i + 1) ((i : Int) + 1) (D - 1) w hs (by omega) hh2 hn (by omega) (by omega))
  clear ih hh hh2 hn
  have enter : ∀ x : Nat, (s[i]'hi).toNat = x → (x = c.toNat) → Calls Tryz.prog 89 #[.string s, .int .i64 i, .int .i64 D] w (ParsedT w k 0 [.mk k1 n1 ks1] (i + 1 + b.length)) := by
    intro x he hx
    clear hc
    rcases h with ⟨rfl, rfl⟩ | ⟨rfl, rfl⟩ | ⟨rfl, rfl⟩ | ⟨rfl, rfl⟩
    all_goals
      subst hx
      go_enter Tryz.func89, Tryz.ntmps89
      go_wp2_with (first
        | (go_at_call 32; refine (l1Node_any (B := w.heap.size + 1) (us := [.mk k1 n1 ks1]) _ (by simp; omega) ((hO.alloc _).alloc _) hnd hge (by simp) _ 1 (Blk.new_ _ 27 _ (by simp))).mono ?_; rintro e w2 ⟨A2, c2, rfl, hf2, hb2⟩; replace hZ := ((hZ.alloc _).alloc _).keep hb2; have d0 := hZ.at_ (i := 0) rfl; have d1 := hZ.at_ (i := 1) rfl; have d2 := hZ.at_ (i := 2) rfl; have e0 := hZ.frozen 0; have e1 := hZ.frozen 1; have e2 := hZ.frozen 2; have g2 : Below w.heap.size w w2 := ((g1.alloc (by omega) _).alloc (by simp; omega) _).trans (hb2.mono (by simp; omega)))
        | (go_at_call 63; refine (hpar.out _).mono ?_; rintro e w1 ⟨m, A1, c1, hm, rfl, hl1, hf1, hb1⟩; have hm' := hide hm; clear hm; obtain ⟨fp, hO, hnd, hge⟩ := (hf1.mono (B' := w.heap.size + 1) (by simp)).node hl1 k1 n1 c1; have hZ := (Blk.new_ w 27 #[.int .i64 0, .int .i64 0, .slice none 0 0] rfl).keep hb1; have g1 : Below w.heap.size w w1 := ((Below.refl _ _).alloc (Nat.le_refl _) _).trans (hb1.mono (by simp)); have s1 := g1.size))
      refine bodyPost_ret (v := _) ?_ rfl ⟨m, A2, c2, hm'.out, rfl, by simp, ?_, ((g2.setCell (by simp) _).setCell (by simp) _).setCell (by simp) _⟩
      · simp [results, Tryz.results89, go_sem, d0, d1, d2]
      · exact (((hf2.setCell (by simp) _).setCell (by simp) _).setCell (by simp) _).mono (by omega)
  exact enter _ rfl (by rw [hc])

theorem Has.lt {s : ByteArray} {i : Nat} {c : UInt8} {bs : List UInt8} (h : Has s i (c :: bs)) : i < s.size := h.cons.1.1
set_option maxHeartbeats 4000000 in
set_option maxRecDepth 100000 in
theorem round_any {k : Int} {c : UInt8} {k1 n1 : Int} {ks1 : List Tm} {x : List UInt8} {k2 n2 : Int} {ks2 : List Tm} {y : List UInt8} {d : Nat} (h : RndK k c) (ih1 : ParseOk k1 n1 ks1 x d) (ih2 : ParseOk k2 n2 ks2 y d) (s : ByteArray) (i : Nat) (I D : Int) (w : World) (hs : s.size ≤ 1000000) (hI : I = i) (hh : Has s i (x ++ c :: (y ++ [41]))) (hD : (d : Int) ≤ D) (hD2 : D ≤ 1000) :
    Calls Tryz.prog 90 #[.string s, .int .i64 I, .int .i64 D] w (ParsedT w k 0 [.mk k1 n1 ks1, .mk k2 n2 ks2] (i + x.length + 1 + y.length + 1)) := by
  subst hI
  obtain ⟨hh1, hh2⟩ := hh.app
  obtain ⟨⟨hi, hc⟩, hh3⟩ := hh2.cons
  obtain ⟨hh4, hh5⟩ := hh3.app
  obtain ⟨⟨hi2, hc2⟩, _⟩ := hh5.cons
  have hnd1 : Nd s (i + x.length) := .of hh2 (by rcases h with ⟨_, rfl⟩ | ⟨_, rfl⟩ | ⟨_, rfl⟩ <;> decide)
  have hnd2 : Nd s (i + x.length + 1 + y.length) := .of hh5 (by decide)
  have enter : ∀ (j1 j2 : Nat) (hi : j1 < s.size) (hi2 : j2 < s.size) (z z2 : Nat), (s[j1]'hi).toNat = z → z = c.toNat → (s[j2]'hi2).toNat = z2 → z2 = 41 → (∀ w, Calls Tryz.prog 63 #[.string s, .int .i64 i, .int .i64 D] w (ParsedT w k1 n1 ks1 j1)) →
      (∀ w (I : Int), I = (j1 + 1 : Nat) → Calls Tryz.prog 63 #[.string s, .int .i64 I, .int .i64 D] w (ParsedT w k2 n2 ks2 j2)) → Calls Tryz.prog 90 #[.string s, .int .i64 i, .int .i64 D] w (ParsedT w k 0 [.mk k1 n1 ks1, .mk k2 n2 ks2] (j2 + 1)) := by
    clear hc hc2 hi hi2 hh hh1 hh2 hh3 hh4 hh5 hnd1 hnd2 ih1 ih2
    intro j1 j2 hi hi2 z z2 he hx he2 hx2 hp1 hp2
    have hpar1 := hide hp1
    have hpar2 := hide hp2
    clear hp1 hp2
    subst hx2
    rcases h with ⟨rfl, rfl⟩ | ⟨rfl, rfl⟩ | ⟨rfl, rfl⟩
    all_goals
      subst hx
      go_enter Tryz.func90, Tryz.ntmps90
      go_wp2_with (first
        | (go_at_call 32; (refine (l1Node_any (B := w.heap.size + 1) (us := [.mk k1 n1 ks1, .mk k2 n2 ks2]) _ (by simp; omega) ((hO2.alloc _).alloc _) hnd hge (by simp) _ 2 (Blk.new_ _ 27 _ (by simp))).mono ?_); rintro e w4 ⟨A4, c4, rfl, hf4, hb4⟩; replace hZ := ((hZ.alloc _).alloc _).keep hb4; have d0 := hZ.at_ (i := 0) rfl; have d1 := hZ.at_ (i := 1) rfl; have d2 := hZ.at_ (i := 2) rfl; have e0 := hZ.frozen 0; have e1 := hZ.frozen 1; have e2 := hZ.frozen 2; have g4 : Below w.heap.size w w4 := ((g3.alloc (by omega) _).alloc (by simp; omega) _).trans (hb4.mono (by simp; omega)))
        | (go_at_call 63; have _t := tok; refine (hpar2.out _ _ (by omega)).mono ?_; rintro e w3 ⟨m2, A2, c2, hm2, rfl, hl2, hf2, hb2⟩; subst hm2; clear tok; obtain ⟨fp, hO2, hnd, hge⟩ := (hf1.alloc _).node2 hb2 hf2 (by simp; omega) hl1 hl2 k1 n1 k2 n2 c1 c2; replace hZ := (hZ.alloc _).keep hb2; have hX1 := (Blk.new_ w1 27 #[.int .i64 k1, .int .i64 n1, .slice A1 ks1.length c1] rfl).keep hb2; have x0 := hX1.at_ (i := 0) rfl; have x1 := hX1.at_ (i := 1) rfl; have x2 := hX1.at_ (i := 2) rfl; have lx := hX1.lt; have lz := hZ.lt; have g3 : Below w.heap.size w w3 := (g1.alloc (by omega) _).trans (hb2.mono (by simp; omega)); have s3 := g3.size; have s13 : w1.heap.size + 1 ≤ w3.heap.size := (by have := hb2.size; simpa using this))
        | (go_at_call 63; refine (hpar1.out _).mono ?_; rintro e w1 ⟨m, A1, c1, hm, rfl, hl1, hf1, hb1⟩; subst hm; have tok : True := trivial; replace hf1 := hf1.mono (B' := w.heap.size + 1) (by simp); have hZ := (Blk.new_ w 27 #[.int .i64 0, .int .i64 0, .slice none 0 0] rfl).keep hb1; have g1 : Below w.heap.size w w1 := ((Below.refl _ _).alloc (Nat.le_refl _) _).trans (hb1.mono (by simp)); have s1 := g1.size; have s1' := hZ.lt))
      refine bodyPost_ret (v := _) ?_ rfl ⟨m2 + 1, A4, c4, rfl, rfl, by simp, ?_, ((g4.setCell (by simp) _).setCell (by simp) _).setCell (by simp) _⟩
      · simp [results, Tryz.results90, go_sem, d0, d1, d2]
      · exact (((hf4.setCell (by simp) _).setCell (by simp) _).setCell (by simp) _).mono (by omega)
  exact enter _ _ hi hi2 _ _ rfl (by rw [hc]) rfl (by rw [hc2]; rfl) (fun w => ih1 s i i D w hs rfl hh1 hnd1 hD hD2) (fun w I hI => ih2 s (i + x.length + 1) I D w hs hI hh4 hnd2 hD hD2)
end Go.Proofs.YthgmofdfecioaaaGreatDoor

namespace Go.Proofs.YthgmofdfecioaaaGreatDoor
open Go.RowKit
set_option linter.unusedSimpArgs false
set_option linter.unusedVariables false

/-- terms that have been read, and the place behind them -/
def ParsedL (w : World) (ts : List Tm) (j : Nat) (e : Ending) (w' : World) : Prop :=
  ∃ (m : Nat) (A : Option Addr) (c : Nat), m = j ∧ e = .returned (.tuple #[.slice A ts.length c, .int .i64 m]) ∧ Fresh w.heap.size w' A ts ∧ Below w.heap.size w w'
/-- the place behind the next text, and what stands there -/
theorem ser_step {c : UInt8} {xs : List (List UInt8)} {j : Nat} {x : List UInt8} (hj : j < xs.length) (hx : xs[j] = x) :
    ser c (xs.drop j) = x ++ (if j + 1 < xs.length then 44 else c) :: ser c (xs.drop (j + 1)) := by
  rw [List.drop_eq_getElem_cons hj, hx]
  by_cases h : j + 1 < xs.length
  · rw [if_pos h, List.drop_eq_getElem_cons h, ser_more]
  · rw [if_neg h, List.drop_eq_nil_of_le (by omega : xs.length ≤ j + 1), ser_one]
    simp [ser]
set_option maxHeartbeats 4000000 in
set_option maxRecDepth 100000 in
theorem series_any {d : Nat} (c : UInt8) (hcd : c.toNat < 48 ∨ 57 < c.toNat) (ts : List Tm) (xs : List (List UInt8)) (hl : xs.length = ts.length) (hl4 : ts.length ≤ 4)
    (ih : ∀ (j : Nat) (k n : Int) (ks : List Tm) (x : List UInt8), ts[j]? = some (.mk k n ks) → xs[j]? = some x → ParseOk k n ks x d)
    (s : ByteArray) (i : Nat) (I D : Int) (w : World) (hs : s.size ≤ 1000000) (hI : I = i) (hh : Has s i (ser c xs)) (hD : (d : Int) ≤ D) (hD2 : D ≤ 1000) :
    Calls Tryz.prog 119 #[.string s, .int .i64 I, .int .i64 D, .int .i64 ts.length, .int .u8 c.toNat] w (ParsedL w ts (i + (ser c xs).length)) := by
  subst hI
  have hl' := hide hl
  have hh' := hide hh
  have ih' := hide ih
  clear hl hh ih
  obtain ⟨cv, hcv⟩ : ∃ cv, c.toNat = cv := ⟨_, rfl⟩
  rw [hcv] at hcd ⊢
  have hcv' := hide hcv
  clear hcv
  go_enter Tryz.func119, Tryz.ntmps119
  go_wp2_with fail
  go_loopw [1, 12, 13] (fun a v jv wr => ∃ (j p : Nat), j ≤ ts.length ∧ jv = .int .i64 j ∧ a = .int .i64 p ∧ Part w.heap.size wr v (ts.take j) ∧ Has s p (ser c (xs.drop j)) ∧ p + (ser c (xs.drop j)).length = i + (ser c xs).length ∧ Below w.heap.size w wr) (fun _ _ jv _ => ts.length - (intOf jv).toNat)
  case atStart => exact ⟨0, i, Nat.zero_le _, rfl, rfl, Part.empty_ rfl (Nat.le_refl _), hh'.out, by simp, (Below.refl _ _).alloc (Nat.le_refl _) _⟩
  case round =>
    obtain ⟨j, p, hj, rfl, rfl, hp, hs1, hs2, hb⟩ := hrel
    have hs2' := hide hs2
    clear hs2
    by_cases hlt : j < ts.length
    · have hlx : j < xs.length := by have := hl'.out; omega
      obtain ⟨k1, n1, ks1, hk1⟩ : ∃ k n ks, ts[j] = .mk k n ks := by cases h : ts[j]; exact ⟨_, _, _, rfl⟩
      obtain ⟨x, hx⟩ : ∃ x, xs[j] = x := ⟨_, rfl⟩
      have hst := ser_step (c := c) hlx hx
      rw [hst] at hs1
      obtain ⟨hh1, hh2⟩ := hs1.app
      obtain ⟨⟨hi, hc⟩, hh3⟩ := hh2.cons
      have hnd : Nd s (p + x.length) := .of hh2 (by split; decide; rw [hcv'.out]; exact hcd)
      obtain ⟨j1, hj1⟩ : ∃ j1, j1 = p + x.length := ⟨_, rfl⟩
      have hi1 : j1 < s.size := by omega
      have he1 : (s[j1]'hi1).toNat = if j + 1 < ts.length then 44 else cv := by
        subst hj1
        rw [hc, ← hl'.out]
        split
        · rfl
        · exact hcv'.out
      have hpar := hide (fun w => show Calls Tryz.prog 63 #[.string s, .int .i64 p, .int .i64 D] w (ParsedT w k1 n1 ks1 j1) by rw [hj1]; exact ih'.out j k1 n1 ks1 x (by rw [List.getElem?_eq_getElem hlt, hk1]) (by rw [List.getElem?_eq_getElem hlx, hx]) s p p D w hs rfl hh1 hnd hD hD2)
      have hend : Hid (j1 + 1 + (ser c (xs.drop (j + 1))).length = i + (ser c xs).length) := by
        have := hs2'.out; rw [hst] at this; simp only [List.length_append, List.length_cons] at this; show _ = _; omega
      have hk1' := hide hk1
      have hh3' := hide (hj1 ▸ hh3)
      clear hh1 hh2 hh3 hst hs1 hnd hk1 hc hi hj1 hx hlx
      by_cases hmore : j + 1 < ts.length
      · rw [if_pos hmore] at he1
        have q1 : decide ((j : Int) + 1 < (ts.length : Int)) = true := decide_eq_true (by omega)
        have q2 : (((j : Int) + 1) == (ts.length : Int)) = false := beq_eq_false_iff_ne.2 (by omega)
        go_wp2_with (first
          | (at_builtin; refine wpList_append_built (B := w.heap.size) (m := j) (k := k1) (n := n1) (c := c1) hp (hb1.alloc hb1.size _) (by have := hb.size; omega) (hf1.alloc _) hl1 (by rw [List.length_take]; omega) (by omega) rfl _ _ rfl rfl (by show Value.slice (some ⟨w1.heap.size + 1, 0, none⟩) 1 1 = _; simp) ?_; intro A2 c2 w2 hp2 hb2 hg2)
          | (go_at_call 63; refine (hpar.out _).mono ?_; rintro e w1 ⟨m, A1, c1, hm, rfl, hl1, hf1, hb1⟩; subst hm))
        go_roundw
        case rel => exact ⟨j + 1, m + 1, by omega, by go_num, by go_num, by rw [List.take_succ_eq_append_getElem hlt, hk1'.out]; exact hp2, hh3'.out, hend.out, (hb.trans (hb1.mono hb.size)).trans (((Below.refl _ _).alloc (by have := hb.size; have := hb1.size; omega) _).trans hb2)⟩
        case measure => simp [intOf]; omega
      · rw [if_neg hmore] at he1
        have q1 : decide ((j : Int) + 1 < (ts.length : Int)) = false := decide_eq_false (by omega)
        have q2 : (((j : Int) + 1) == (ts.length : Int)) = true := by rw [show ((j : Int) + 1) = (ts.length : Int) by omega]; exact beq_self_eq_true _
        go_wp2_with (first
          | (at_builtin; refine wpList_append_built (B := w.heap.size) (m := j) (k := k1) (n := n1) (c := c1) hp (hb1.alloc hb1.size _) (by have := hb.size; omega) (hf1.alloc _) hl1 (by rw [List.length_take]; omega) (by omega) rfl _ _ rfl rfl (by show Value.slice (some ⟨w1.heap.size + 1, 0, none⟩) 1 1 = _; simp) ?_; intro A2 c2 w2 hp2 hb2 hg2)
          | (go_at_call 63; refine (hpar.out _).mono ?_; rintro e w1 ⟨m, A1, c1, hm, rfl, hl1, hf1, hb1⟩; subst hm))
        go_roundw
        case rel => exact ⟨j + 1, m + 1, by omega, by go_num, by go_num, by rw [List.take_succ_eq_append_getElem hlt, hk1'.out]; exact hp2, hh3'.out, hend.out, (hb.trans (hb1.mono hb.size)).trans (((Below.refl _ _).alloc (by have := hb.size; have := hb1.size; omega) _).trans hb2)⟩
        case measure => simp [intOf]; omega
    · have hjl : j = ts.length := by omega
      subst hjl
      rw [List.take_length] at hp
      obtain ⟨Ar, cr, rfl, hfr⟩ := hp.fresh
      have hx0 : ser c (xs.drop ts.length) = [] := by rw [← hl'.out, List.drop_length]; rfl
      have hfin := hide (show p = i + (ser c xs).length by have := hs2'.out; rw [hx0] at this; simpa using this)
      clear hs1 hx0
      go_wp2_with fail
      go_ret2
      exact ⟨p, Ar, cr, hfin.out, rfl, hfr, hb⟩
end Go.Proofs.YthgmofdfecioaaaGreatDoor

namespace Go.Proofs.YthgmofdfecioaaaGreatDoor
open Go.RowKit
set_option linter.unusedSimpArgs false
set_option linter.unusedVariables false

section
variable {P : Program} {ops : Array Oper} {Q : Exit → Act → World → Prop} {S : World → Prop} {need : Nat → Bool}

/-- an edge leads, in one step or more, from j to i -/
def pre (ops : Array Oper) : Nat → Nat → Nat → Bool
  | 0, _, _ => false
  | n + 1, j, i => match ops[j]? with
    | some o => o.after.any fun e => Region.binds .any e && (e.on == i || pre ops n e.on i)
    | none => false

/-- what has come up has come up behind all that it waits for -/
def Closed (ops : Array Oper) (listed : Array Bool) : Prop :=
  ∀ k ok, ops[k]? = some ok → listed.getD k true = true → ∀ e ∈ ok.after, Region.binds .any e = true → listed.getD e.on false = true

theorem Closed.start : Closed ops (Array.replicate ops.size false) := by
  intro k ok hk hl
  have := (Array.getElem?_eq_some_iff.1 hk).1
  simp [this] at hl
theorem Closed.step {listed : Array Bool} {j : Nat} (h : Closed ops listed) (hj : j ∈ Region.ready .any ops listed) : Closed ops (listed.setIfInBounds j true) := by
  intro k ok hk hl e he hb
  obtain ⟨_, oj, hoj, hall⟩ := mem_ready.1 hj
  by_cases hkj : k = j
  · subst hkj
    rw [hoj] at hk
    injection hk with hk
    subst hk
    exact getD_set_true (hall e he hb)
  · rw [getD_set_ne true (Ne.symm hkj)] at hl
    exact getD_set_true (h k ok hk hl e he hb)
theorem Closed.pre {listed : Array Bool} (h : Closed ops listed) {i : Nat} : ∀ (n j : Nat), listed.getD j false = true → pre ops n j i = true → listed.getD i false = true := by
  intro n
  induction n with
  | zero => intro j _ hp; cases hp
  | succ n ih =>
    intro j hl hp
    rw [Go.Proofs.YthgmofdfecioaaaGreatDoor.pre] at hp
    cases ho : ops[j]? with
    | none => rw [ho] at hp; cases hp
    | some o =>
      rw [ho] at hp
      obtain ⟨e, he, hb⟩ := Array.any_eq_true'.1 hp
      simp only [Bool.and_eq_true, Bool.or_eq_true, beq_iff_eq] at hb
      have hl' : listed.getD j true = true := by
        rcases Nat.lt_or_ge j listed.size with hlt | hge
        · simp [hlt] at hl ⊢; exact hl
        · simp [Array.getElem?_eq_none hge] at hl
      have h1 := h j o ho hl' e he hb.1
      rcases hb.2 with hb2 | hb2
      · rw [← hb2]; exact h1
      · exact ih _ h1 hb2
theorem Closed.ready {listed : Array Bool} (h : Closed ops listed) {i j n : Nat} (hj : j ∈ Region.ready .any ops listed) (hp : Go.Proofs.YthgmofdfecioaaaGreatDoor.pre ops n j i = true) : listed.getD i false = true := by
  obtain ⟨_, oj, hoj, hall⟩ := mem_ready.1 hj
  cases n with
  | zero => cases hp
  | succ n =>
    rw [Go.Proofs.YthgmofdfecioaaaGreatDoor.pre, hoj] at hp
    obtain ⟨e, he, hb⟩ := Array.any_eq_true'.1 hp
    simp only [Bool.and_eq_true, Bool.or_eq_true, beq_iff_eq] at hb
    have h1 := hall e he hb.1
    rcases hb.2 with hb2 | hb2
    · rw [← hb2]; exact h1
    · exact h.pre _ _ h1 hb2

/-- whatever order is picked, and S holds behind each operation that is named -/
def wpAnyN (P : Program) (ops : Array Oper) (Q : Exit → Act → World → Prop) (S : World → Prop) (need : Nat → Bool) : Nat → Array Bool → Act → World → Prop
  | 0, listed, a, w => Region.ready .any ops listed = [] ∧ Q .normal a w
  | fuel + 1, listed, a, w =>
    (Region.ready .any ops listed = [] → Q .normal a w) ∧
    ∀ i ∈ Region.ready .any ops listed, wpOp P ops Q i (fun a' w' => (need i = true → S w') ∧ wpAnyN P ops Q S need fuel (listed.setIfInBounds i true) a' w') a w

theorem wpAny_of_N : ∀ (fuel : Nat) (listed : Array Bool) (a : Act) (w : World), wpAnyN P ops Q S need fuel listed a w → wpAny P .any ops Q fuel listed a w
  | 0, _, _, _, h => h
  | fuel + 1, _, _, _, h => ⟨h.1, fun i hi => wpOp_mono (fun a' w' h' => wpAny_of_N fuel _ a' w' h'.2) (h.2 i hi)⟩

theorem wpAnyN_first {i : Nat} {oi : Oper} {v : Value} (hi : ops[i]? = some oi) (hsel : ∀ (j : Nat) (o : Oper) cs b, ops[j]? = some o → o.op ≠ .select cs b)
    (hQ : ∀ c a w, Q (.panic c) (a.put oi.dst v) w → Q (.panic c) a w)
    (hneed : ∀ listed, Closed ops listed → i ∈ Region.ready .any ops listed → ∀ j, j ∈ Region.ready .any ops listed → j ≠ i → need j = true) :
    ∀ (fuel : Nat) (listed : Array Bool) (a : Act) (w : World), Closed ops listed →
      (∀ j oj, ops[j]? = some oj → j ≠ i → listed.getD j true = false → (∀ e ∈ oj.after, Region.binds .any e = true → e.on ≠ i) → oi.apart ops oj = true) →
      i ∈ Region.ready .any ops listed → YieldsIf P ops S oi v a → S w →
      wpAnyN P ops Q S need fuel (listed.setIfInBounds i true) (a.put oi.dst v) w → wpAnyN P ops Q S need (fuel + 1) listed a w := by
  intro fuel
  induction fuel with
  | zero =>
    intro listed a w hcl _ hr hy hS H
    refine ⟨fun h => (by rw [h] at hr; cases hr), fun j hj => ?_⟩
    by_cases hji : j = i
    · subst hji; exact hy.wpOp hi hS ⟨fun _ => hS, H⟩
    · have := ready_mono hj hji
      rw [H.1] at this
      cases this
  | succ fuel ih =>
    intro listed a w hcl hfree hr hy hS H
    refine ⟨fun h => (by rw [h] at hr; cases hr), fun j hj => ?_⟩
    by_cases hji : j = i
    · subst hji; exact hy.wpOp hi hS ⟨fun _ => hS, H⟩
    · have h1 := H.2 j (ready_mono hj hji)
      have hnj := hneed listed hcl hr j hj hji
      obtain ⟨hjun, oj, hoj, hall⟩ := mem_ready.1 hj
      have hnot : ∀ e ∈ oj.after, Region.binds .any e = true → e.on ≠ i := fun e he hb heq => by
        have h1 := hall e he hb
        have h0 := (mem_ready.1 hr).1
        rw [heq] at h1
        rcases Nat.lt_or_ge i listed.size with h' | h'
        · simp [h'] at h0 h1; rw [h0] at h1; cases h1
        · simp [Array.getElem?_eq_none h'] at h1
      have h2 := wpOp_putIf hoj (hfree j oj hoj hji hjun hnot) (fun cs b => hsel i oi cs b hi) (fun cs b => hsel j oj cs b hoj) hQ hy h1
      have hfree' : ∀ k ok, ops[k]? = some ok → k ≠ i → (listed.setIfInBounds j true).getD k true = false →
          (∀ e ∈ ok.after, Region.binds .any e = true → e.on ≠ i) → oi.apart ops ok = true := fun k ok hk hki hun hno => by
        refine hfree k ok hk hki ?_ hno
        by_cases hjk : j = k
        · subst hjk; exact hjun
        · rw [getD_set_ne true hjk] at hun; exact hun
      refine wpOp_mono (fun a' w' h3 => ⟨h3.2.1, ih (listed.setIfInBounds j true) a' w' (hcl.step hj) hfree' (ready_mono hr (Ne.symm hji)) h3.1 (h3.2.1 hnj) ?_⟩) h2
      rw [Array.setIfInBounds_comm _ _ hji]
      exact h3.2.2

/-- one operation yields one value in every world that meets S -/
def Oper.takes (P : Program) (o : Oper) (a : Act) (S : World → Prop) (next : Act → Prop) : Prop := ∃ v, (∀ w, S w → (execOp a.eval o).run P w = .ok (.value v) w) ∧ next (a.put o.dst v)
/-- operations that are taken first, one behind the other -/
def wpTake (P : Program) (ops : Array Oper) (S : World → Prop) (K : Act → Prop) : List Oper → Act → Prop
  | [], a => K a
  | o :: rest, a => if Region.wanted o (yielded ops a.tmps) then Oper.takes P o a S (wpTake P ops S K rest) else wpTake P ops S K rest (a.put o.dst undef)
/-- behind an operation: S, and what follows -/
def Mid (S : World → Prop) (K : Act → World → Prop) (Q : Exit → Act → World → Prop) : Exit → Act → World → Prop
  | .normal, a, w => S w ∧ K a w
  | e, a, w => Q e a w
/-- operations in a row, behind each of the first S -/
def wpThen (P : Program) (ops : Array Oper) (Q : Exit → Act → World → Prop) (S : World → Prop) : List Oper → List Oper → Act → World → Prop
  | [], lB, a, w => wpList P ops Q lB a w
  | o :: r, lB, a, w => wpList P ops (Mid S (wpThen P ops Q S r lB) Q) [o] a w

def sel (ops : Array Oper) (l : List Nat) : List Oper := l.filterMap fun i => ops[i]?

def simT (ops : Array Oper) : List Nat → Array Bool → Option (Array Bool)
  | [], l => some l
  | i :: T, l => if (Region.ready .any ops l).contains i && Region.free .any ops l i then simT ops T (l.setIfInBounds i true) else none
def simR (ops : Array Oper) : List Nat → Array Bool → Bool
  | [], l => (Region.ready .any ops l).isEmpty
  | j :: R, l => Region.ready .any ops l == [j] && simR ops R (l.setIfInBounds j true)
def firstOk (ops : Array Oper) (T A B : List Nat) : Bool :=
  Region.noSelect ops && (match simT ops T (Array.replicate ops.size false) with | some l => simR ops (A ++ B) l | none => false) &&
  B.all (fun j => T.all fun i => pre ops ops.size j i) && A.all (fun j => !B.contains j) && (T.length + (A.length + B.length) == ops.size)

theorem wpOp_of_list {j : Nat} {o : Oper} (ho : ops[j]? = some o) {K : Act → World → Prop} {Q' : Exit → Act → World → Prop} (h1 : ∀ a w, Q' .normal a w → K a w) (h2 : ∀ e a w, e ≠ .normal → Q' e a w → Q e a w)
    {a : Act} {w : World} (h : wpList P ops Q' [o] a w) : wpOp P ops Q j K a w := by
  have conv : ∀ {K1 : Act → World → Prop} {a : Act} {w : World}, o.wp P a w K1 Q' → (∀ a w, K1 a w → K a w) → o.wp P a w K Q := by
    intro K1 a w hh hk
    unfold Oper.wp at *
    generalize (execOp a.eval o).run P w = r at *
    cases r with
    | ok n w' =>
      cases n <;> simp only [Oper.upon] at hh ⊢ <;>
        first
          | exact hk _ _ hh
          | (refine Calls.mono hh fun e w'' he => ?_
             cases e with
             | returned u => exact hk _ _ he
             | panicked c => exact h2 _ _ _ (by simp) he
             | outgrown => obtain ⟨a0, w0, h0⟩ := he; exact ⟨a0, w0, h2 _ _ _ (by simp) h0⟩)
          | exact Rows.mono hh fun u w'' he => hk _ _ he
    | halt x w' => cases x <;> simp only [Oper.upon] at hh ⊢ <;> exact h2 _ _ _ (by simp) hh
  unfold wpOp
  simp only [ho]
  rw [wpList] at h
  split
  · rename_i hw
    simp only [hw, if_true] at h
    rcases h with h | ⟨hasks, a0, w0, h0⟩
    · exact .inl (conv h fun a w hh => h1 _ _ (by simpa [wpList] using hh))
    · exact .inr ⟨hasks, a0, w0, h2 _ _ _ (by simp) h0⟩
  · rename_i hw
    simp only [hw] at h
    exact h1 _ _ (by simpa [wpList] using h)

theorem wpList_cons_iff {o : Oper} {r : List Oper} {a : Act} {w : World} (h : wpList P ops Q (o :: r) a w) : wpList P ops (fun e a w => match e with | .normal => wpList P ops Q r a w | e => Q e a w) [o] a w := by
  have conv : ∀ {a : Act} {w : World}, o.wp P a w (wpList P ops Q r) Q → o.wp P a w (wpList P ops (fun e a w => match e with | .normal => wpList P ops Q r a w | e => Q e a w) []) (fun e a w => match e with | .normal => wpList P ops Q r a w | e => Q e a w) := by
    intro a w hh
    unfold Oper.wp at *
    generalize (execOp a.eval o).run P w = r at *
    cases r with
    | ok n w' =>
      cases n <;> simp only [Oper.upon] at hh ⊢ <;>
        first
          | exact hh
          | (refine Calls.mono hh fun e w'' he => ?_
             cases e with
             | returned u => exact he
             | panicked c => exact he
             | outgrown => obtain ⟨a0, w0, h0⟩ := he; exact ⟨a0, w0, h0⟩)
    | halt x w' => cases x <;> simp only [Oper.upon] at hh ⊢ <;> exact hh
  rw [wpList] at h ⊢
  split
  · rename_i hw
    simp only [hw, if_true] at h
    rcases h with h | ⟨hasks, a0, w0, h0⟩
    · exact .inl (conv h)
    · exact .inr ⟨hasks, a0, w0, h0⟩
  · rename_i hw
    simp only [hw] at h
    exact h

theorem sel_cons {j : Nat} {o : Oper} {R : List Nat} (ho : ops[j]? = some o) : sel ops (j :: R) = o :: sel ops R := by
  simp only [sel, List.filterMap_cons, ho]

theorem rest_ok {B : List Nat} (hneed : ∀ j, j ∈ B → need j = false) : ∀ (A : List Nat) (fuel : Nat) (listed : Array Bool) (a : Act) (w : World), A.length + B.length ≤ fuel → simR ops (A ++ B) listed = true →
    wpThen P ops Q S (sel ops A) (sel ops B) a w → wpAnyN P ops Q S need fuel listed a w := by
  have tail : ∀ (B' : List Nat) (fuel : Nat) (listed : Array Bool) (a : Act) (w : World), (∀ j, j ∈ B' → need j = false) → B'.length ≤ fuel → simR ops B' listed = true →
      wpList P ops Q (sel ops B') a w → wpAnyN P ops Q S need fuel listed a w := by
    intro B'
    induction B' with
    | nil =>
      intro fuel listed a w _ _ hs h
      have hr : Region.ready .any ops listed = [] := by simpa [simR] using hs
      have h' : Q .normal a w := by simpa [sel, wpList] using h
      cases fuel with
      | zero => exact ⟨hr, h'⟩
      | succ f => exact ⟨fun _ => h', by rw [hr]; simp⟩
    | cons j B' ih =>
      intro fuel listed a w hn hf hs h
      rw [simR, Bool.and_eq_true] at hs
      have hr : Region.ready .any ops listed = [j] := by simpa using hs.1
      cases fuel with
      | zero => simp at hf
      | succ f =>
        refine ⟨fun h0 => (by rw [h0] at hr; cases hr), ?_⟩
        rw [hr]
        intro i hi
        obtain rfl : i = j := by simpa using hi
        have hm : i ∈ Region.ready .any ops listed := by rw [hr]; simp
        obtain ⟨_, o, ho, _⟩ := mem_ready.1 hm
        rw [sel_cons ho] at h
        refine wpOp_of_list ho (fun a w hh => ⟨fun hni => (by rw [hn i (by simp)] at hni; cases hni), ih f _ a w (fun j hj => hn j (by simp [hj])) (by simpa using hf) hs.2 hh⟩) (fun e a w he hh => ?_) (wpList_cons_iff h)
        cases e <;> first | exact hh | exact absurd rfl he
  intro A
  induction A with
  | nil => intro fuel listed a w hf hs h; exact tail B fuel listed a w hneed (by simpa using hf) hs h
  | cons j A ih =>
    intro fuel listed a w hf hs h
    rw [List.cons_append, simR, Bool.and_eq_true] at hs
    have hr : Region.ready .any ops listed = [j] := by simpa using hs.1
    cases fuel with
    | zero => simp at hf
    | succ f =>
      refine ⟨fun h0 => (by rw [h0] at hr; cases hr), ?_⟩
      rw [hr]
      intro i hi
      obtain rfl : i = j := by simpa using hi
      have hm : i ∈ Region.ready .any ops listed := by rw [hr]; simp
      obtain ⟨_, o, ho, _⟩ := mem_ready.1 hm
      rw [sel_cons ho, wpThen] at h
      refine wpOp_of_list ho (fun a w hh => ⟨fun _ => hh.1, ih f _ a w (by simp only [List.length_cons] at hf; omega) hs.2 hh.2⟩) (fun e a w he hh => ?_) h
      cases e <;> first | exact hh | exact absurd rfl he

theorem takes_ok (hsel : Region.noSelect ops = true) (hQ : ∀ c (a : Act) d v w, Q (.panic c) (a.put d v) w → Q (.panic c) a w) {w : World} (hS : S w) : ∀ (T : List Nat) (fuel : Nat) (listed l' : Array Bool) (a : Act),
    (∀ i, i ∈ T → ∀ listed, Closed ops listed → i ∈ Region.ready .any ops listed → ∀ j, j ∈ Region.ready .any ops listed → j ≠ i → need j = true) →
    Closed ops listed → simT ops T listed = some l' → wpTake P ops S (fun a' => Closed ops l' → wpAnyN P ops Q S need fuel l' a' w) (sel ops T) a → wpAnyN P ops Q S need (T.length + fuel) listed a w := by
  intro T
  induction T with
  | nil =>
    intro fuel listed l' a _ hcl hs h
    simp only [simT, Option.some.injEq] at hs
    subst hs
    rw [List.length_nil, Nat.zero_add]
    exact (by simpa [sel, wpTake] using h : Closed ops listed → _) hcl
  | cons i T ih =>
    intro fuel listed l' a hn hcl hs h
    rw [simT] at hs
    split at hs
    case isFalse => cases hs
    rename_i hc
    rw [Bool.and_eq_true] at hc
    have hm : i ∈ Region.ready .any ops listed := by simpa using hc.1
    obtain ⟨_, o, ho, _⟩ := mem_ready.1 hm
    rw [sel_cons ho, wpTake] at h
    rw [List.length_cons, Nat.add_right_comm]
    split at h
    · rename_i hw
      obtain ⟨v, hv, hnext⟩ := h
      exact wpAnyN_first ho (Region.noSelect_spec hsel) (fun c a w hh => hQ c a _ _ w hh) (hn i (by simp)) _ _ _ _ hcl (Region.free_spec ho hc.2) hm (.inl ⟨hw, hv⟩) hS
        (ih _ _ _ _ (fun k hk => hn k (by simp [hk])) (hcl.step hm) hs hnext)
    · rename_i hw
      exact wpAnyN_first ho (Region.noSelect_spec hsel) (fun c a w hh => hQ c a _ _ w hh) (hn i (by simp)) _ _ _ _ hcl (Region.free_spec ho hc.2) hm (.inr ⟨by simpa using hw, rfl⟩) hS
        (ih _ _ _ _ (fun k hk => hn k (by simp [hk])) (hcl.step hm) hs h)

theorem wpTake_mono {K K' : Act → Prop} (hK : ∀ a, K a → K' a) : ∀ (l : List Oper) (a : Act), wpTake P ops S K l a → wpTake P ops S K' l a
  | [], a, h => hK a h
  | o :: r, a, h => by
    rw [wpTake] at h ⊢
    split
    · rename_i hw
      simp only [hw, if_true] at h
      obtain ⟨v, hv, hn⟩ := h
      exact ⟨v, hv, wpTake_mono hK r _ hn⟩
    · rename_i hw
      simp only [hw] at h
      exact wpTake_mono hK r _ h

/-- **a region that draws its order**: the operations T first, each of which yields one value in every world that meets S; then A, behind each of which S holds; then B -/
theorem wp_region_first {id : Nat} {a : Act} {w : World} (S : World → Prop) (T A B : List Nat) (lT lA lB : List Oper) (hm : P.follows .mixedOrders = true) (hk : firstOk ops T A B = true)
    (hT : sel ops T = lT) (hA : sel ops A = lA) (hB : sel ops B = lB) (hQ : ∀ c (a : Act) d v w, Q (.panic c) (a.put d v) w → Q (.panic c) a w) (hS : S w.drew)
    (h : wpTake P ops S (fun a' => wpThen P ops Q S lA lB a' w.drew) lT a) : (Code.region id ops true).wp P Q a w := by
  subst hT hA hB
  refine wp_region_any hm (wpAny_of_N (S := S) (need := fun j => !B.contains j) _ _ _ _ ?_)
  simp only [firstOk, Bool.and_eq_true, beq_iff_eq] at hk
  obtain ⟨⟨⟨⟨hsel, hsim⟩, hpre⟩, hAB⟩, hlen⟩ := hk
  cases hl : simT ops T (Array.replicate ops.size false) with
  | none => rw [hl] at hsim; cases hsim
  | some l' =>
  rw [hl] at hsim
  rw [show ops.size = T.length + (A.length + B.length) from hlen.symm]
  rw [show Array.replicate (T.length + (A.length + B.length)) false = Array.replicate ops.size false from by rw [hlen]]
  refine takes_ok hsel hQ (w := w.drew) hS T _ _ l' a (fun i hi listed hcl hr j hj hne => ?_) Closed.start hl (wpTake_mono (fun a' h' _ => rest_ok (fun j hj => ?_) A _ _ _ _ (Nat.le_refl _) hsim h') _ _ h)
  · rw [Bool.not_eq_true', List.contains_eq_mem, decide_eq_false_iff_not]
    intro hjB
    have h1 := List.all_eq_true.1 (List.all_eq_true.1 hpre j hjB) i hi
    have h2 := hcl.ready hj h1
    have h3 := (mem_ready.1 hr).1
    rcases Nat.lt_or_ge i listed.size with h' | h'
    · simp [h'] at h2 h3; rw [h3] at h2; cases h2
    · simp [Array.getElem?_eq_none h'] at h2
  · simp [hj]

theorem take_step {o : Oper} {rest : List Oper} {a a' : Act} {K : Act → Prop} {v : Value} (hw : Region.wanted o (yielded ops a.tmps) = true) (hv : ∀ w, S w → (execOp a.eval o).run P w = .ok (.value v) w)
    (ha : a.put o.dst v = a') (h : wpTake P ops S K rest a') : wpTake P ops S K (o :: rest) a := by
  subst ha; rw [wpTake, if_pos hw]; exact ⟨v, hv, h⟩
theorem take_skip {o : Oper} {rest : List Oper} {a a' : Act} {K : Act → Prop} (hw : Region.wanted o (yielded ops a.tmps) = false) (ha : a.put o.dst undef = a') (h : wpTake P ops S K rest a') : wpTake P ops S K (o :: rest) a := by
  subst ha; rw [wpTake, if_neg (by rw [hw]; exact Bool.false_ne_true)]; exact h
theorem take_nil {a : Act} {K : Act → Prop} (h : K a) : wpTake P ops S K [] a := h
theorem then_cons {o : Oper} {r lB : List Oper} {a : Act} {w : World} (h : wpList P ops (Mid S (wpThen P ops Q S r lB) Q) [o] a w) : wpThen P ops Q S (o :: r) lB a w := by rw [wpThen]; exact h
theorem then_nil {lB : List Oper} {a : Act} {w : World} (h : wpList P ops Q lB a w) : wpThen P ops Q S [] lB a w := by rw [wpThen]; exact h
theorem mid_intro {a : Act} {w : World} {K : Act → World → Prop} (h1 : S w) (h2 : K a w) : Mid S K Q .normal a w := ⟨h1, h2⟩

/-- the kit's lexical walk behind a name that is not laid open -/
def wpCls (P : Program) (ops : Array Oper) (C : World → Prop) (Q : Act → Prop) (l : List Oper) (a : Act) : Prop := wpQuiet P ops C Q l a
/-- a region all of whose operations and callees yield one value in every world of a class -/
theorem wp_region_class {id : Nat} {a : Act} {w : World} {l : List Oper} (C : World → Prop) (hm : P.follows .mixedOrders = true) (hB : Region.lexB .any l.toArray = true) (hC : C w.drew)
    (h : wpCls P l.toArray C (fun a' => ∀ w', C w' → Q .normal a' w') l a) : (Code.region id l.toArray true).wp P Q a w :=
  wp_region_quiet (C := C) hm hB hC (by simpa [wpCls] using h)
theorem quiet_one {C : World → Prop} {Q' : Act → Prop} {o : Oper} {rest : List Oper} {a a' : Act} {v : Value} (hw : Region.wanted o (yielded ops a.tmps) = true) (hv : ∀ w, C w → (execOp a.eval o).run P w = .ok (.value v) w)
    (ha : a.put o.dst v = a') (h : wpCls P ops C Q' rest a') : wpCls P ops C Q' (o :: rest) a := by
  subst ha
  unfold wpCls at *
  rw [wpQuiet, if_pos hw]
  refine ⟨v, fun w hw' => ?_, h⟩
  unfold Oper.quietAt
  rw [hv w hw']
  exact ⟨rfl, rfl⟩
theorem quiet_skip {C : World → Prop} {Q' : Act → Prop} {o : Oper} {rest : List Oper} {a a' : Act} (hw : Region.wanted o (yielded ops a.tmps) = false) (ha : a.put o.dst undef = a') (h : wpCls P ops C Q' rest a') : wpCls P ops C Q' (o :: rest) a := by
  subst ha; unfold wpCls at *; rw [wpQuiet, if_neg (by rw [hw]; exact Bool.false_ne_true)]; exact h
theorem quiet_call {C : World → Prop} {Q' : Act → Prop} {o : Oper} {rest : List Oper} {a a' : Act} {v : Value} (f : FuncId) (args : Array Value) (hw : Region.wanted o (yielded ops a.tmps) = true)
    (hv : ∀ w, C w → (execOp a.eval o).run P w = .ok (.enter f args) w) (hc : ∀ w, C w → Calls P f args w fun e w' => e = .returned v ∧ C w')
    (ha : a.put o.dst v = a') (h : wpCls P ops C Q' rest a') : wpCls P ops C Q' (o :: rest) a := by
  subst ha
  unfold wpCls at *
  rw [wpQuiet, if_pos hw]
  refine ⟨v, fun w hw' => ?_, h⟩
  unfold Oper.quietAt
  rw [hv w hw']
  exact ⟨rfl, hc w hw'⟩
theorem quiet_below {wx : World} {Q' : Act → Prop} {o : Oper} {rest : List Oper} {a a' : Act} {v : Value} (f : FuncId) (args : Array Value) (hw : Region.wanted o (yielded ops a.tmps) = true)
    (hv : ∀ w, Below wx.heap.size wx w → (execOp a.eval o).run P w = .ok (.enter f args) w) (hc : ∀ w, Below wx.heap.size wx w → Calls P f args w fun e w' => e = .returned v ∧ Below w.heap.size w w')
    (ha : a.put o.dst v = a') (h : wpCls P ops (fun w' => Below wx.heap.size wx w') Q' rest a') : wpCls P ops (fun w' => Below wx.heap.size wx w') Q' (o :: rest) a :=
  quiet_call f args hw hv (fun w hw => (hc w hw).mono fun _ _ ⟨he, hb⟩ => ⟨he, hw.trans (hb.mono hw.size)⟩) ha h
theorem quiet_same {wx : World} {Q' : Act → Prop} {o : Oper} {rest : List Oper} {a a' : Act} {v : Value} (f : FuncId) (args : Array Value) (hw : Region.wanted o (yielded ops a.tmps) = true)
    (hv : ∀ w, Below wx.heap.size wx w → (execOp a.eval o).run P w = .ok (.enter f args) w) (hc : ∀ w, Below wx.heap.size wx w → Calls P f args w fun e w' => e = .returned v ∧ w = w')
    (ha : a.put o.dst v = a') (h : wpCls P ops (fun w' => Below wx.heap.size wx w') Q' rest a') : wpCls P ops (fun w' => Below wx.heap.size wx w') Q' (o :: rest) a :=
  quiet_call f args hw hv (fun w hw => (hc w hw).mono fun _ _ ⟨he, hb⟩ => ⟨he, by rw [← hb]; exact hw⟩) ha h
theorem quiet_nil {C : World → Prop} {Q' : Act → Prop} {a : Act} (h : Q' a) : wpCls P ops C Q' [] a := h
end
attribute [irreducible] wpCls wpTake wpThen Mid
end Go.Proofs.YthgmofdfecioaaaGreatDoor

namespace Go.Proofs.YthgmofdfecioaaaGreatDoor
open Go.RowKit
set_option linter.unusedSimpArgs false
set_option linter.unusedVariables false

/-- how many operands a kind has -/
def arity (k : Int) : Int :=
  if k = 1 then 0 else if k = 2 then 0 else if k = 6 then 0 else if k = 7 then 0 else if k = 8 then 1 else if k = 11 then 1 else if k = 15 then 1 else if k = 16 then 1 else
  if k = 3 then 2 else if k = 4 then 2 else if k = 5 then 2 else if k = 13 then 2 else if k = 10 then 3 else if k = 12 then 3 else if k = 14 then 3 else if k = 9 then 4 else -1
/-- the greatest N of a kind -/
def mostN (k : Int) : Int := if k = 1 then 20 else if k = 2 then 3 else 0

set_option maxHeartbeats 400000 in
theorem within_any (n lo hi : Int) (w : World) :
    Calls Tryz.prog 36 #[.int .i64 n, .int .i64 lo, .int .i64 hi] w fun e w' => e = .returned (.bool (decide (lo ≤ n) && decide (n ≤ hi))) ∧ w = w' := by
  go_enter Tryz.func36, Tryz.ntmps36
  go_wp2
  all_goals go_ret
  all_goals refine ⟨ret_bool ?_, rfl⟩
  · have h : lo ≤ n := by assumption
    simp [h]
  · have h : n < lo := by assumption
    simp [show ¬ lo ≤ n from by omega]

set_option maxRecDepth 100000 in
set_option maxHeartbeats 1000000 in
theorem l1Kids_any (k : Int) (w : World) : Calls Tryz.prog 102 #[.int .i64 k] w fun e w' => e = .returned (.int .i64 (arity k)) ∧ w = w' := by
  go_enter Tryz.func102, Tryz.ntmps102
  go_wp2
  all_goals go_ret
  all_goals refine ⟨ret_int ?_, rfl⟩
  all_goals simp_all [arity]

set_option maxHeartbeats 400000 in
theorem l1Most_any (k : Int) (w : World) : Calls Tryz.prog 103 #[.int .i64 k] w fun e w' => e = .returned (.int .i64 (mostN k)) ∧ w = w' := by
  go_enter Tryz.func103, Tryz.ntmps103
  go_wp2
  all_goals go_ret
  all_goals refine ⟨ret_int ?_, rfl⟩
  all_goals simp_all [mostN]
set_option maxHeartbeats 400000 in
theorem most_any (k : Int) (w : World) : Calls Tryz.prog 84 #[.int .i64 k] w fun e w' => e = .returned (.int .i64 (mostN k)) ∧ w = w' := by
  go_enter Tryz.func84, Tryz.ntmps84
  go_wp2
  all_goals go_ret
  all_goals refine ⟨ret_int ?_, rfl⟩
  all_goals simp_all [mostN]

set_option maxRecDepth 100000 in
set_option maxHeartbeats 2000000 in
theorem operands_any (k : Int) (w : World) : Calls Tryz.prog 83 #[.int .i64 k] w fun e w' => e = .returned (.int .i64 (arity k)) ∧ Below w.heap.size w w' := by
  by_cases hk : 1 ≤ k ∧ k ≤ 16
  · have hc : k = 1 ∨ k = 2 ∨ k = 3 ∨ k = 4 ∨ k = 5 ∨ k = 6 ∨ k = 7 ∨ k = 8 ∨ k = 9 ∨ k = 10 ∨ k = 11 ∨ k = 12 ∨ k = 13 ∨ k = 14 ∨ k = 15 ∨ k = 16 := by omega
    have hx : (#[Value.int .i64 0, Value.int .i64 0, Value.int .i64 2, Value.int .i64 2, Value.int .i64 2, Value.int .i64 0, Value.int .i64 0, Value.int .i64 1, Value.int .i64 4, Value.int .i64 3, Value.int .i64 1, Value.int .i64 3, Value.int .i64 2, Value.int .i64 3, Value.int .i64 1, Value.int .i64 1] : Array Value)[k.toNat - 1]? = some (.int .i64 (arity k)) := by
      rcases hc with rfl | rfl | rfl | rfl | rfl | rfl | rfl | rfl | rfl | rfl | rfl | rfl | rfl | rfl | rfl | rfl <;> rfl
    obtain ⟨h1, h2⟩ := hk
    have hb : (decide (1 ≤ k) && decide (k ≤ 16)) = true := by simp [h1, h2]
    clear hc
    go_enter Tryz.func83, Tryz.ntmps83
    go_wp2_with (go_at_call 36; refine (within_any _ _ _ _).mono ?_; rintro e w' ⟨rfl, rfl⟩)
    go_ret
    exact ⟨rfl, (Below.refl _ _).alloc (Nat.le_refl _) _⟩
  · have hb : (decide (1 ≤ k) && decide (k ≤ 16)) = false := by
      rw [Bool.and_eq_false_iff, decide_eq_false_iff_not, decide_eq_false_iff_not]; omega
    have hH := hide hk
    clear hk
    go_enter Tryz.func83, Tryz.ntmps83
    go_wp2_with (go_at_call 36; refine (within_any _ _ _ _).mono ?_; rintro e w' ⟨rfl, rfl⟩)
    go_ret
    exact ⟨ret_int (by have := hH.out; unfold arity; repeat (rw [if_neg (by omega)])), Below.refl _ _⟩
end Go.Proofs.YthgmofdfecioaaaGreatDoor

namespace Go.Proofs.YthgmofdfecioaaaGreatDoor
open Go.RowKit
set_option linter.unusedSimpArgs false
set_option linter.unusedVariables false

set_option maxHeartbeats 4000000 in
set_option maxRecDepth 100000 in
theorem block_any {d : Nat} {k : Int} {m : Nat} {o : List UInt8} {c : UInt8} (h : BlkK k m o c) (ts : List Tm) (xs : List (List UInt8)) (hm : ts.length = m) (hx : xs.length = m)
    (ih : ∀ (j : Nat) (k n : Int) (ks : List Tm) (x : List UInt8), ts[j]? = some (.mk k n ks) → xs[j]? = some x → ParseOk k n ks x d)
    (s : ByteArray) (i : Nat) (I D : Int) (w : World) (hs : s.size ≤ 1000000) (hI : I = i) (hh : Has s i (o ++ ser c xs)) (hD : (d : Int) + 1 ≤ D) (hD2 : D ≤ 1000) :
    Calls Tryz.prog 91 #[.string s, .int .i64 I, .int .i64 D] w (ParsedT w k 0 ts (i + (o ++ ser c xs).length)) := by
  subst hI
  obtain ⟨hh1, hh2⟩ := hh.app
  rw [List.length_append, ← Nat.add_assoc]
  have enter : ∀ (q j : Nat) (hi : i < s.size) (z : Nat), (s[i]'hi).toNat = z → (o.length = 2 → ∃ (hi2 : i + 1 < s.size), (s[i + 1]'hi2).toNat = 60) → q = i + o.length → o.head? = some (UInt8.ofNat z) →
      (∀ w (I : Int), I = q → Calls Tryz.prog 119 #[.string s, .int .i64 I, .int .i64 (D - 1), .int .i64 m, .int .u8 c.toNat] w (ParsedL w ts j)) → z < 256 → Calls Tryz.prog 91 #[.string s, .int .i64 i, .int .i64 D] w (ParsedT w k 0 ts j) := by
    clear hh hh1 hh2 ih hx
    intro q j hi z he h2 hq hz hp hz256
    have hts : (ts.length : Int) = m := by omega
    have htl : ts.length = m := hm
    have hp' := hide hp
    clear hp hm hts
    have hm' := hide htl
    clear htl
    rcases h with ⟨rfl, rfl, rfl, rfl⟩ | ⟨rfl, rfl, rfl, rfl⟩ | ⟨rfl, rfl, rfl, rfl⟩ | ⟨rfl, rfl, rfl, rfl⟩
    case inl =>
      have hz : z = 60 := by simp only [List.head?_cons, Option.some.injEq] at hz; have := congrArg UInt8.toNat hz; simp at this; omega
      subst hz
      have ha : arity 9 = 4 := by decide
      clear h2 hz256
      go_enter Tryz.func91, Tryz.ntmps91
      go_wp2_with (first
        | (go_at_call 119; refine (hp'.out _ _ (by rw [hq]; simp)).mono ?_; rintro e w1 ⟨m1, A1, c1, hm1, rfl, hf1, hb1⟩; have hm1' := hide hm1; clear hm1; have hZ := (Blk.new_ w 27 #[.int .i64 0, .int .i64 0, .slice none 0 0] rfl).keep hb1; have d0 := hZ.at_ (i := 0) rfl; have d1 := hZ.at_ (i := 1) rfl; have d2 := hZ.at_ (i := 2) rfl; have e0 := hZ.frozen 0; have e1 := hZ.frozen 1; have e2 := hZ.frozen 2; have g1 : Below w.heap.size w w1 := ((Below.refl _ _).alloc (Nat.le_refl _) _).trans (hb1.mono (by simp)))
        | (go_at_call 102; refine (l1Kids_any _ _).mono ?_; rintro e w9 ⟨rfl, rfl⟩))
      refine bodyPost_ret (v := .tuple #[.agg #[.int .i64 9, .int .i64 0, .slice A1 ts.length c1], .int .i64 m1]) (by simp [results, Tryz.results91, go_sem, d0, d1, d2]) rfl ⟨m1, A1, c1, hm1'.out, rfl, by have := hm'.out; omega, ?_, ((g1.setCell (by simp) _).setCell (by simp) _).setCell (by simp) _⟩
      exact (((hf1.setCell (by simp) _).setCell (by simp) _).setCell (by simp) _).mono (by simp)
    case inr.inl =>
      have hz : z = 123 := by simp only [List.head?_cons, Option.some.injEq] at hz; have := congrArg UInt8.toNat hz; simp at this; omega
      subst hz
      have ha : arity 10 = 3 := by decide
      clear h2 hz256
      go_enter Tryz.func91, Tryz.ntmps91
      go_wp2_with (first
        | (go_at_call 119; refine (hp'.out _ _ (by rw [hq]; simp)).mono ?_; rintro e w1 ⟨m1, A1, c1, hm1, rfl, hf1, hb1⟩; have hm1' := hide hm1; clear hm1; have hZ := (Blk.new_ w 27 #[.int .i64 0, .int .i64 0, .slice none 0 0] rfl).keep hb1; have d0 := hZ.at_ (i := 0) rfl; have d1 := hZ.at_ (i := 1) rfl; have d2 := hZ.at_ (i := 2) rfl; have e0 := hZ.frozen 0; have e1 := hZ.frozen 1; have e2 := hZ.frozen 2; have g1 : Below w.heap.size w w1 := ((Below.refl _ _).alloc (Nat.le_refl _) _).trans (hb1.mono (by simp)))
        | (go_at_call 102; refine (l1Kids_any _ _).mono ?_; rintro e w9 ⟨rfl, rfl⟩))
      refine bodyPost_ret (v := .tuple #[.agg #[.int .i64 10, .int .i64 0, .slice A1 ts.length c1], .int .i64 m1]) (by simp [results, Tryz.results91, go_sem, d0, d1, d2]) rfl ⟨m1, A1, c1, hm1'.out, rfl, by have := hm'.out; omega, ?_, ((g1.setCell (by simp) _).setCell (by simp) _).setCell (by simp) _⟩
      exact (((hf1.setCell (by simp) _).setCell (by simp) _).setCell (by simp) _).mono (by simp)
    case inr.inr.inl =>
      have hz : z = 124 := by simp only [List.head?_cons, Option.some.injEq] at hz; have := congrArg UInt8.toNat hz; simp at this; omega
      subst hz
      have ha : arity 14 = 3 := by decide
      clear h2 hz256
      go_enter Tryz.func91, Tryz.ntmps91
      go_wp2_with (first
        | (go_at_call 119; refine (hp'.out _ _ (by rw [hq]; simp)).mono ?_; rintro e w1 ⟨m1, A1, c1, hm1, rfl, hf1, hb1⟩; have hm1' := hide hm1; clear hm1; have hZ := (Blk.new_ w 27 #[.int .i64 0, .int .i64 0, .slice none 0 0] rfl).keep hb1; have d0 := hZ.at_ (i := 0) rfl; have d1 := hZ.at_ (i := 1) rfl; have d2 := hZ.at_ (i := 2) rfl; have e0 := hZ.frozen 0; have e1 := hZ.frozen 1; have e2 := hZ.frozen 2; have g1 : Below w.heap.size w w1 := ((Below.refl _ _).alloc (Nat.le_refl _) _).trans (hb1.mono (by simp)))
        | (go_at_call 102; refine (l1Kids_any _ _).mono ?_; rintro e w9 ⟨rfl, rfl⟩))
      refine bodyPost_ret (v := .tuple #[.agg #[.int .i64 14, .int .i64 0, .slice A1 ts.length c1], .int .i64 m1]) (by simp [results, Tryz.results91, go_sem, d0, d1, d2]) rfl ⟨m1, A1, c1, hm1'.out, rfl, by have := hm'.out; omega, ?_, ((g1.setCell (by simp) _).setCell (by simp) _).setCell (by simp) _⟩
      exact (((hf1.setCell (by simp) _).setCell (by simp) _).setCell (by simp) _).mono (by simp)
    case inr.inr.inr =>
      obtain ⟨hi2, he2⟩ := h2 rfl
      have hz : z = 64 := by simp only [List.head?_cons, Option.some.injEq] at hz; have := congrArg UInt8.toNat hz; simp at this; omega
      subst hz
      have ha : arity 12 = 3 := by decide
      clear h2 hz256
      go_enter Tryz.func91, Tryz.ntmps91
      go_wp2_with (first
        | (go_at_call 119; refine (hp'.out _ _ (by rw [hq]; simp)).mono ?_; rintro e w1 ⟨m1, A1, c1, hm1, rfl, hf1, hb1⟩; have hm1' := hide hm1; clear hm1; have hZ := (Blk.new_ w 27 #[.int .i64 0, .int .i64 0, .slice none 0 0] rfl).keep hb1; have d0 := hZ.at_ (i := 0) rfl; have d1 := hZ.at_ (i := 1) rfl; have d2 := hZ.at_ (i := 2) rfl; have e0 := hZ.frozen 0; have e1 := hZ.frozen 1; have e2 := hZ.frozen 2; have g1 : Below w.heap.size w w1 := ((Below.refl _ _).alloc (Nat.le_refl _) _).trans (hb1.mono (by simp)))
        | (go_at_call 102; refine (l1Kids_any _ _).mono ?_; rintro e w9 ⟨rfl, rfl⟩))
      refine bodyPost_ret (v := .tuple #[.agg #[.int .i64 12, .int .i64 0, .slice A1 ts.length c1], .int .i64 m1]) (by simp [results, Tryz.results91, go_sem, d0, d1, d2]) rfl ⟨m1, A1, c1, hm1'.out, rfl, by have := hm'.out; omega, ?_, ((g1.setCell (by simp) _).setCell (by simp) _).setCell (by simp) _⟩
      exact (((hf1.setCell (by simp) _).setCell (by simp) _).setCell (by simp) _).mono (by simp)
  have hcd : c.toNat < 48 ∨ 57 < c.toNat := by rcases h with ⟨_, _, _, rfl⟩ | ⟨_, _, _, rfl⟩ | ⟨_, _, _, rfl⟩ | ⟨_, _, _, rfl⟩ <;> decide
  have hm4 : ts.length ≤ 4 := by rcases h with ⟨_, rfl, _, _⟩ | ⟨_, rfl, _, _⟩ | ⟨_, rfl, _, _⟩ | ⟨_, rfl, _, _⟩ <;> omega
  obtain ⟨a, ao, hao⟩ : ∃ a ao, o = a :: ao := by rcases h with ⟨_, _, rfl, _⟩ | ⟨_, _, rfl, _⟩ | ⟨_, _, rfl, _⟩ | ⟨_, _, rfl, _⟩ <;> exact ⟨_, _, rfl⟩
  have hh1' := hh1
  rw [hao] at hh1'
  obtain ⟨⟨hi, hc⟩, hh3⟩ := hh1'.cons
  refine enter (i + o.length) _ hi _ rfl ?_ rfl ?_ ?_ (UInt8.toNat_lt _)
  · intro h2
    rcases h with ⟨_, _, rfl, _⟩ | ⟨_, _, rfl, _⟩ | ⟨_, _, rfl, _⟩ | ⟨_, _, rfl, _⟩ <;> simp at h2
    injection hao with h4 h5
    subst h5
    obtain ⟨⟨hi2, hc2⟩, _⟩ := hh3.cons
    exact ⟨hi2, by rw [hc2]; rfl⟩
  · rw [hc, hao]; simp
  · intro w I hI
    have := series_any c hcd ts xs (by omega) hm4 ih s (i + o.length) I (D - 1) w hs hI hh2 (by omega) (by omega)
    rwa [hm] at this
end Go.Proofs.YthgmofdfecioaaaGreatDoor
