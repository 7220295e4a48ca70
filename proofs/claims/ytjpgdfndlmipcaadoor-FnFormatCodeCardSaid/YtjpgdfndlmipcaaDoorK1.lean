/-
  Texts of this claim, merged: contracts of the functions that the law reaches. No condition.
-/
import Derived.Test.YtjpgdfndlmipcaaDoorRows
import Derived.WalkKit
import Derived.OrdersHeld
import Derived.Deep.Quiet
import Derived.Tactics
import Derived.Tactics2
import Derived.Maps.AppendAt
import Derived.Deep.AppendLies
import Derived.RegionTactic
import Derived.OwnWalk
import Derived.Laws.MakeOwn
import Derived.WalkSpells
import Derived.WalkLawsBesides

namespace Go.Proofs.YtjpgdfndlmipcaaDoor
open Go.RowKit
set_option linter.unusedSimpArgs false
set_option linter.unusedVariables false

theorem hide {p : Prop} (h : p) : Hid p := h
theorem unhide {p : Prop} (h : Hid p) : p := h
theorem ret_int {k : IntKind} {a b : Int} (h : a = b) : Ending.returned (.int k a) = .returned (.int k b) := by rw [h]
theorem ret_bool {a b : Bool} (h : a = b) : Ending.returned (.bool a) = .returned (.bool b) := by rw [h]

/-- a term of Go's: kind, number, operands -/
inductive Tm where
  | mk (k n : Int) (ks : List Tm)

def Tm.k : Tm → Int | .mk k _ _ => k
def Tm.n : Tm → Int | .mk _ n _ => n
def Tm.ks : Tm → List Tm | .mk _ _ ks => ks
instance : Inhabited Tm := ⟨.mk 0 0 []⟩

theorem Tm.ind {p : Tm → Prop} (h : ∀ k n ks, (∀ t, t ∈ ks → p t) → p (.mk k n ks)) (t : Tm) : p t :=
  Tm.rec (motive_1 := p) (motive_2 := fun ks => ∀ t, t ∈ ks → p t) (fun k n ks ih => h k n ks ih) (fun _ ht => absurd ht List.not_mem_nil)
    (fun _ _ h1 h2 _ ht => (List.mem_cons.1 ht).elim (fun e => e ▸ h1) (fun e => h2 _ e)) t

theorem Tm.ind2 {p : Tm → Prop} {q : List Tm → Prop} (h1 : ∀ k n ks, q ks → p (.mk k n ks)) (h2 : q []) (h3 : ∀ t ts, p t → q ts → q (t :: ts)) : (∀ t, p t) ∧ (∀ ts, q ts) :=
  ⟨Tm.rec (motive_1 := p) (motive_2 := q) h1 h2 h3, Tm.rec_1 (motive_1 := p) (motive_2 := q) h1 h2 h3⟩

mutual
/-- how many nodes -/
def Tm.size : Tm → Nat | .mk _ _ ks => sizes ks + 1
def sizes : List Tm → Nat | [] => 0 | t :: ts => t.size + sizes ts
end

theorem sizes_le {ts : List Tm} {t : Tm} (h : t ∈ ts) : t.size ≤ sizes ts := by
  induction ts with
  | nil => cases h
  | cons x r ih =>
    rw [sizes]
    rcases List.mem_cons.1 h with rfl | h
    · omega
    · have := ih h; omega
theorem Tm.size_pos (t : Tm) : 0 < t.size := by cases t; rw [Tm.size]; omega
theorem length_le_sizes (ts : List Tm) : ts.length ≤ sizes ts := by
  induction ts with
  | nil => simp [sizes]
  | cons x r ih => rw [sizes, List.length_cons]; have := x.size_pos; omega
theorem sizes_append (a b : List Tm) : sizes (a ++ b) = sizes a + sizes b := by
  induction a with
  | nil => simp [sizes]
  | cons x r ih => simp only [List.cons_append, sizes, ih]; omega

mutual
/-- the term lies as element i of the row at b, off -/
def RdC (w : World) (b off i : Nat) : Tm → Prop
  | .mk k n ks => w.cell? ⟨b, off + i * 3, none⟩ = some (.int .i64 k) ∧ w.cell? ⟨b, off + i * 3 + 1, none⟩ = some (.int .i64 n) ∧
      ∃ A c, w.cell? ⟨b, off + i * 3 + 2, none⟩ = some (.slice A ks.length c) ∧ ks.length ≤ 9223372036854775807 ∧ Rd w A 0 ks
/-- the terms lie at the address, from element i on -/
def Rd (w : World) (A : Option Addr) (i : Nat) : List Tm → Prop
  | [] => True
  | t :: ts => (∃ b off, A = some ⟨b, off, none⟩ ∧ RdC w b off i t) ∧ Rd w A (i + 1) ts
end

/-- every cell that was there holds what it held -/
def Keeps (w w' : World) : Prop := ∀ a v, w.cell? a = some v → w'.cell? a = some v
theorem Keeps.refl (w : World) : Keeps w w := fun _ _ h => h
theorem Keeps.trans {a b c : World} (h : Keeps a b) (k : Keeps b c) : Keeps a c := fun x v e => k x v (h x v e)
theorem Keeps.of_below {w w' : World} (h : Below w.heap.size w w') : Keeps w w' := fun a _ e => (h.cell (World.block_lt_of_cell? w a e)).trans e
theorem Keeps.alloc (w : World) (o : Obj) : Keeps w (w.alloc o) := fun a _ e => (World.cell?_alloc_lt w o a (World.block_lt_of_cell? w a e)).trans e

theorem Rd.nil {w : World} {A : Option Addr} {i : Nat} : Rd w A i [] := by simp only [Rd]
theorem Rd.cons_iff {w : World} {A : Option Addr} {i : Nat} {t : Tm} {ts : List Tm} : Rd w A i (t :: ts) ↔ (∃ b off, A = some ⟨b, off, none⟩ ∧ RdC w b off i t) ∧ Rd w A (i + 1) ts := by
  simp only [Rd]
theorem RdC.iff {w : World} {b off i : Nat} {k n : Int} {ks : List Tm} : RdC w b off i (.mk k n ks) ↔
    w.cell? ⟨b, off + i * 3, none⟩ = some (.int .i64 k) ∧ w.cell? ⟨b, off + i * 3 + 1, none⟩ = some (.int .i64 n) ∧
      ∃ A c, w.cell? ⟨b, off + i * 3 + 2, none⟩ = some (.slice A ks.length c) ∧ ks.length ≤ 9223372036854775807 ∧ Rd w A 0 ks := by
  simp only [RdC]

theorem rd_keeps {w w' : World} (h : Keeps w w') : (∀ t b off i, RdC w b off i t → RdC w' b off i t) ∧ (∀ ks A i, Rd w A i ks → Rd w' A i ks) := by
  refine Tm.ind2 (fun k n ks ih b off i hh => ?_) (fun _ _ _ => Rd.nil) (fun t ts h1 h2 A i hh => ?_)
  · rw [RdC.iff] at hh ⊢
    obtain ⟨h1, h2, A, c, h3, h4, h5⟩ := hh
    exact ⟨h _ _ h1, h _ _ h2, A, c, h _ _ h3, h4, ih _ _ h5⟩
  · rw [Rd.cons_iff] at hh ⊢
    obtain ⟨⟨b, off, hA, hc⟩, hr⟩ := hh
    exact ⟨⟨b, off, hA, h1 _ _ _ hc⟩, h2 _ _ hr⟩
theorem Rd.keeps {w w' : World} {A : Option Addr} {i : Nat} {ks : List Tm} (hr : Rd w A i ks) (h : Keeps w w') : Rd w' A i ks := (rd_keeps h).2 _ _ _ hr
theorem Rd.below {w w' : World} {A : Option Addr} {i : Nat} {ks : List Tm} (hr : Rd w A i ks) (h : Below w.heap.size w w') : Rd w' A i ks := hr.keeps (.of_below h)
theorem Rd.alloc {w : World} {A : Option Addr} {i : Nat} {ks : List Tm} (hr : Rd w A i ks) (o : Obj) : Rd (w.alloc o) A i ks := hr.keeps (.alloc w o)
theorem Rd.drew {w : World} {A : Option Addr} {i : Nat} {ks : List Tm} (hr : Rd w A i ks) : Rd w.drew A i ks := hr.keeps fun _ _ h => h

/-- element j, asked for -/
theorem Rd.get {w : World} {A : Option Addr} {ks : List Tm} : ∀ {i : Nat}, Rd w A i ks → ∀ {j : Nat} (hj : j < ks.length), ∃ b off, A = some ⟨b, off, none⟩ ∧ RdC w b off (i + j) ks[j] := by
  induction ks with
  | nil => intro i _ j hj; simp at hj
  | cons t ts ih =>
    intro i hr j hj
    rw [Rd.cons_iff] at hr
    cases j with
    | zero => simpa using hr.1
    | succ j =>
      obtain ⟨b, off, hA, hc⟩ := ih hr.2 (j := j) (by simpa using hj)
      exact ⟨b, off, hA, by rw [show i + (j + 1) = i + 1 + j from by omega]; simpa using hc⟩
theorem Rd.of_get {w : World} {A : Option Addr} {ks : List Tm} : ∀ {i : Nat}, (∀ j (hj : j < ks.length), ∃ b off, A = some ⟨b, off, none⟩ ∧ RdC w b off (i + j) ks[j]) → Rd w A i ks := by
  induction ks with
  | nil => intro i _; exact Rd.nil
  | cons t ts ih =>
    intro i h
    refine Rd.cons_iff.2 ⟨(by obtain ⟨b, off, hA, hc⟩ := h 0 (by simp); exact ⟨b, off, hA, hc⟩), ih fun j hj => ?_⟩
    obtain ⟨b, off, hA, hc⟩ := h (j + 1) (by simpa using hj)
    exact ⟨b, off, hA, by rw [show i + 1 + j = i + (j + 1) from by omega]; simpa using hc⟩

/-- a block that is known whole -/
def Blk (w : World) (g : Nat) (cs : Array Value) : Prop := ∃ t, w.heap[g]? = some (.cells cs t (0, 0))
section
variable {w w' : World} {g : Nat} {cs : Array Value}
theorem Blk.lt (h : Blk w g cs) : g < w.heap.size := by obtain ⟨t, h⟩ := h; exact (Array.getElem?_eq_some_iff.1 h).1
theorem Blk.cell (h : Blk w g cs) (i : Nat) : w.cell? ⟨g, i, none⟩ = cs[i]? := by obtain ⟨t, h⟩ := h; exact cell_of_row w g i cs t (0, 0) h
theorem Blk.frozen (h : Blk w g cs) (i : Nat) : w.frozen? ⟨g, i, none⟩ = false := by
  obtain ⟨t, h⟩ := h
  simp [World.frozen?, h]
theorem Blk.new (w : World) (t : TypeId) (cs : Array Value) : Blk (w.alloc (.cells cs t)) w.heap.size cs := ⟨t, heap_alloc_new w _⟩
theorem Blk.new_ {n : Nat} (w : World) (t : TypeId) (cs : Array Value) (h : n = w.heap.size) : Blk (w.alloc (.cells cs t)) n cs := by subst h; exact ⟨t, heap_alloc_new w _⟩
theorem Blk.drew (h : Blk w g cs) : Blk w.drew g cs := h
theorem Blk.alloc (h : Blk w g cs) (o : Obj) : Blk (w.alloc o) g cs := by have hl := h.lt; obtain ⟨t, h⟩ := h; exact ⟨t, (Below.heap_alloc w o g hl).trans h⟩
theorem Blk.set_ (h : Blk w g cs) (i : Nat) (u : Value) : Blk (w.setCell ⟨g, i, none⟩ u) g (cs.setIfInBounds i u) := by
  obtain ⟨t, h⟩ := h
  refine ⟨t, ?_⟩
  simp [World.setCell, Array.getElem?_modify, h]
theorem Blk.far (h : Blk w g cs) {p : Addr} (hp : g ≠ p.block) (u : Value) : Blk (w.setCell p u) g cs := by obtain ⟨t, h⟩ := h; exact ⟨t, (Below.heap_setCell w p u g hp).trans h⟩
theorem Blk.below {B : Nat} (h : Blk w g cs) (hb : Below B w w') (hg : g < B) : Blk w' g cs := by obtain ⟨t, h⟩ := h; exact ⟨t, (hb.block g hg).trans h⟩
theorem Blk.keep (h : Blk w g cs) (hb : Below w.heap.size w w') : Blk w' g cs := h.below hb h.lt
theorem Blk.grown {row : Option Nat} (h : Blk w g cs) (hb : w.grownBy w' row) (hg : some g ≠ row) : Blk w' g cs := by have hl := h.lt; obtain ⟨t, h⟩ := h; exact ⟨t, (hb.block g hl hg).trans h⟩
theorem Blk.at_ (h : Blk w g cs) {i : Nat} {v : Value} (hi : cs[i]? = some v) : w.cell? ⟨g, i, none⟩ = some v := (h.cell i).trans hi
theorem Blk.rule {wx : World} (h : Blk wx g cs) {i : Nat} {v : Value} (hi : cs[i]? = some v) : ∀ w' : World, Below wx.heap.size wx w' → w'.cell? ⟨g, i, none⟩ = some v :=
  fun _ hb => (hb.cell h.lt).trans (h.at_ hi)
theorem rule_of {wx : World} {b o : Nat} {v : Value} (h : wx.cell? ⟨b, o, none⟩ = some v) : ∀ w' : World, Below wx.heap.size wx w' → w'.cell? ⟨b, o, none⟩ = some v :=
  fun _ hb => (hb.cell (World.block_lt_of_cell? wx _ h)).trans h
theorem bcell {W w1 : World} (hb : Below W.heap.size W w1) : (∀ b o, b < W.heap.size → w1.cell? ⟨b, o, none⟩ = W.cell? ⟨b, o, none⟩) ∧ (∀ b o, b < W.heap.size → w1.frozen? ⟨b, o, none⟩ = W.frozen? ⟨b, o, none⟩) :=
  ⟨fun b o h => hb.cell (p := ⟨b, o, none⟩) h, fun b o h => hb.frozen (p := ⟨b, o, none⟩) h⟩
end
/-- the world under a name -/
theorem name_world {P : Program} {c : Code} {Q : Exit → Act → World → Prop} {a : Act} {w : World} (h : ∀ wx, wx = w → c.wp P Q a wx) : c.wp P Q a w := h w rfl

/-- element j, laid out -/
theorem Rd.at_ {w : World} {A : Option Addr} {ks : List Tm} (hr : Rd w A 0 ks) {j : Nat} (hj : j < ks.length) :
    ∃ b off k n ks' A' c, A = some ⟨b, off, none⟩ ∧ ks[j] = .mk k n ks' ∧ w.cell? ⟨b, off + j * 3, none⟩ = some (.int .i64 k) ∧ w.cell? ⟨b, off + j * 3 + 1, none⟩ = some (.int .i64 n) ∧
      w.cell? ⟨b, off + j * 3 + 2, none⟩ = some (.slice A' ks'.length c) ∧ ks'.length ≤ 9223372036854775807 ∧ Rd w A' 0 ks' := by
  obtain ⟨b, off, hA, hc⟩ := hr.get hj
  rw [Nat.zero_add] at hc
  generalize ks[j] = t at hc ⊢
  obtain ⟨k, n, ks'⟩ := t
  obtain ⟨h1, h2, A', c, h3, h4, h5⟩ := RdC.iff.1 hc
  exact ⟨b, off, k, n, ks', A', c, hA, rfl, h1, h2, h3, h4, h5⟩

mutual
/-- the same, all in blocks of which p holds -/
def RdPC (p : Nat → Prop) (w : World) (b off i : Nat) : Tm → Prop
  | .mk k n ks => p b ∧ w.cell? ⟨b, off + i * 3, none⟩ = some (.int .i64 k) ∧ w.cell? ⟨b, off + i * 3 + 1, none⟩ = some (.int .i64 n) ∧
      ∃ A c, w.cell? ⟨b, off + i * 3 + 2, none⟩ = some (.slice A ks.length c) ∧ ks.length ≤ 9223372036854775807 ∧ RdP p w A 0 ks
def RdP (p : Nat → Prop) (w : World) (A : Option Addr) (i : Nat) : List Tm → Prop
  | [] => True
  | t :: ts => (∃ b off, A = some ⟨b, off, none⟩ ∧ RdPC p w b off i t) ∧ RdP p w A (i + 1) ts
end
section
variable {p q : Nat → Prop} {w w' : World} {A : Option Addr} {i : Nat} {ks : List Tm}
theorem RdP.nil : RdP p w A i [] := by simp only [RdP]
theorem RdP.cons_iff {t : Tm} {ts : List Tm} : RdP p w A i (t :: ts) ↔ (∃ b off, A = some ⟨b, off, none⟩ ∧ RdPC p w b off i t) ∧ RdP p w A (i + 1) ts := by
  simp only [RdP]
theorem RdPC.iff {b off : Nat} {k n : Int} : RdPC p w b off i (.mk k n ks) ↔
    p b ∧ w.cell? ⟨b, off + i * 3, none⟩ = some (.int .i64 k) ∧ w.cell? ⟨b, off + i * 3 + 1, none⟩ = some (.int .i64 n) ∧
      ∃ A c, w.cell? ⟨b, off + i * 3 + 2, none⟩ = some (.slice A ks.length c) ∧ ks.length ≤ 9223372036854775807 ∧ RdP p w A 0 ks := by
  simp only [RdPC]
theorem rdp_keeps (hq : ∀ b, p b → q b) (h : ∀ b o v, p b → w.cell? ⟨b, o, none⟩ = some v → w'.cell? ⟨b, o, none⟩ = some v) : (∀ t b off i, RdPC p w b off i t → RdPC q w' b off i t) ∧ (∀ ks A i, RdP p w A i ks → RdP q w' A i ks) := by
  refine Tm.ind2 (fun k n ks ih b off i hh => ?_) (fun _ _ _ => RdP.nil) (fun t ts h1 h2 A i hh => ?_)
  · rw [RdPC.iff] at hh ⊢
    obtain ⟨hp, h1, h2, A, c, h3, h4, h5⟩ := hh
    exact ⟨hq _ hp, h _ _ _ hp h1, h _ _ _ hp h2, A, c, h _ _ _ hp h3, h4, ih _ _ h5⟩
  · rw [RdP.cons_iff] at hh ⊢
    obtain ⟨⟨b, off, hA, hc⟩, hr⟩ := hh
    exact ⟨⟨b, off, hA, h1 _ _ _ hc⟩, h2 _ _ hr⟩
theorem RdP.keeps (hr : RdP p w A i ks) (h : ∀ b o v, p b → w.cell? ⟨b, o, none⟩ = some v → w'.cell? ⟨b, o, none⟩ = some v) : RdP p w' A i ks := (rdp_keeps (fun _ h => h) h).2 _ _ _ hr
theorem RdP.keepsAll (hr : RdP p w A i ks) (h : Keeps w w') : RdP p w' A i ks := hr.keeps fun _ _ _ _ e => h _ _ e
theorem RdP.below (hr : RdP p w A i ks) (h : Below w.heap.size w w') : RdP p w' A i ks := hr.keepsAll (.of_below h)
theorem RdP.alloc (hr : RdP p w A i ks) (o : Obj) : RdP p (w.alloc o) A i ks := hr.keepsAll (.alloc w o)
theorem RdP.drew (hr : RdP p w A i ks) : RdP p w.drew A i ks := hr.keeps fun _ _ _ _ e => e
theorem RdP.mono (hr : RdP p w A i ks) (hq : ∀ b, p b → q b) : RdP q w A i ks := (rdp_keeps hq (fun _ _ _ _ e => e)).2 _ _ _ hr
theorem RdP.blocks (hr : RdP p w A i ks) (h : ∀ b, p b → b < w.heap.size → w'.heap[b]? = w.heap[b]?) : RdP p w' A i ks :=
  hr.keeps fun b o v hb e => (World.cell?_of_block (w := w) (a := ⟨b, o, none⟩) (h b hb (World.block_lt_of_cell? w _ e))).trans e
theorem RdP.grown {row : Option Nat} (hr : RdP p w A i ks) (h : w.grownBy w' row) (hp : ∀ b, p b → some b ≠ row) : RdP p w' A i ks := hr.blocks fun b hb hl => h.block b hl (hp b hb)
theorem RdP.setCell (hr : RdP p w A i ks) {a : Addr} (hp : ¬ p a.block) (u : Value) : RdP p (w.setCell a u) A i ks := hr.blocks fun b hb _ => Below.heap_setCell w a u b (fun e => hp (e ▸ hb))
theorem rdp_rd : (∀ t b off i, RdPC p w b off i t → RdC w b off i t) ∧ (∀ ks A i, RdP p w A i ks → Rd w A i ks) := by
  refine Tm.ind2 (fun k n ks ih b off i hh => ?_) (fun _ _ _ => Rd.nil) (fun t ts h1 h2 A i hh => ?_)
  · obtain ⟨hp, h1, h2, A, c, h3, h4, h5⟩ := RdPC.iff.1 hh
    exact RdC.iff.2 ⟨h1, h2, A, c, h3, h4, ih _ _ h5⟩
  · obtain ⟨⟨b, off, hA, hc⟩, hr⟩ := RdP.cons_iff.1 hh
    exact Rd.cons_iff.2 ⟨⟨b, off, hA, h1 _ _ _ hc⟩, h2 _ _ hr⟩
theorem RdP.rd (h : RdP p w A i ks) : Rd w A i ks := rdp_rd.2 _ _ _ h
theorem rd_rdp : (∀ t b off i, RdC w b off i t → RdPC (· < w.heap.size) w b off i t) ∧ (∀ ks A i, Rd w A i ks → RdP (· < w.heap.size) w A i ks) := by
  refine Tm.ind2 (fun k n ks ih b off i hh => ?_) (fun _ _ _ => RdP.nil) (fun t ts h1 h2 A i hh => ?_)
  · obtain ⟨h1, h2, A, c, h3, h4, h5⟩ := RdC.iff.1 hh
    exact RdPC.iff.2 ⟨World.block_lt_of_cell? w _ h1, h1, h2, A, c, h3, h4, ih _ _ h5⟩
  · obtain ⟨⟨b, off, hA, hc⟩, hr⟩ := Rd.cons_iff.1 hh
    exact RdP.cons_iff.2 ⟨⟨b, off, hA, h1 _ _ _ hc⟩, h2 _ _ hr⟩
/-- what lies in memory lies in blocks that are there -/
theorem Rd.rdp (h : Rd w A i ks) : RdP (· < w.heap.size) w A i ks := rd_rdp.2 _ _ _ h
theorem RdP.get : ∀ {i : Nat}, RdP p w A i ks → ∀ {j : Nat} (hj : j < ks.length), ∃ b off, A = some ⟨b, off, none⟩ ∧ RdPC p w b off (i + j) ks[j] := by
  induction ks with
  | nil => intro i _ j hj; simp at hj
  | cons t ts ih =>
    intro i hr j hj
    rw [RdP.cons_iff] at hr
    cases j with
    | zero => simpa using hr.1
    | succ j =>
      obtain ⟨b, off, hA, hc⟩ := ih hr.2 (j := j) (by simpa using hj)
      exact ⟨b, off, hA, by rw [show i + (j + 1) = i + 1 + j from by omega]; simpa using hc⟩
theorem RdP.at_ (hr : RdP p w A 0 ks) {j : Nat} (hj : j < ks.length) :
    ∃ b off k n ks' A' c, A = some ⟨b, off, none⟩ ∧ ks[j] = .mk k n ks' ∧ w.cell? ⟨b, off + j * 3, none⟩ = some (.int .i64 k) ∧ w.cell? ⟨b, off + j * 3 + 1, none⟩ = some (.int .i64 n) ∧
      w.cell? ⟨b, off + j * 3 + 2, none⟩ = some (.slice A' ks'.length c) ∧ ks'.length ≤ 9223372036854775807 ∧ RdP p w A' 0 ks' := by
  obtain ⟨b, off, hA, hc⟩ := hr.get hj
  rw [Nat.zero_add] at hc
  generalize ks[j] = t at hc ⊢
  obtain ⟨k, n, ks'⟩ := t
  obtain ⟨hp, h1, h2, A', c, h3, h4, h5⟩ := RdPC.iff.1 hc
  exact ⟨b, off, k, n, ks', A', c, hA, rfl, h1, h2, h3, h4, h5⟩
end

theorem only_alloc {a w : World} {row : Option Nat} (h : a.grownBy w row) (o : Obj) : a.grownBy (w.alloc o) row :=
  ⟨h.os, h.tape, h.output, Nat.le_trans h.size (by simp), fun i hi hne => (Below.heap_alloc w o i (Nat.lt_of_lt_of_le hi h.size)).trans (h.block i hi hne)⟩
theorem only_drew {a w : World} {row : Option Nat} (h : a.grownBy w row) : a.grownBy w.drew row := ⟨h.os, h.tape, h.output, h.size, h.block⟩
theorem only_trans {a w w' : World} {row : Option Nat} (h : a.grownBy w row) (k : w.grownBy w' row) : a.grownBy w' row :=
  ⟨k.os.trans h.os, k.tape.trans h.tape, k.output.trans h.output, Nat.le_trans h.size k.size, fun i hi hne => (k.block i (Nat.lt_of_lt_of_le hi h.size) hne).trans (h.block i hi hne)⟩
theorem only_below {a w w' : World} {row : Option Nat} (h : a.grownBy w row) (k : Below w.heap.size w w') : a.grownBy w' row :=
  ⟨k.os.trans h.os, k.tape.trans h.tape, k.output.trans h.output, Nat.le_trans h.size k.size, fun i hi hne => (k.block i (Nat.lt_of_lt_of_le hi h.size)).trans (h.block i hi hne)⟩
theorem only_setCell {a w : World} {g : Nat} (h : a.grownBy w (some g)) {p : Addr} (hp : p.block = g ∨ a.heap.size ≤ p.block) (u : Value) : a.grownBy (w.setCell p u) (some g) :=
  ⟨h.os, h.tape, h.output, by simpa [World.setCell] using h.size, fun i hi hne => (Below.heap_setCell w p u i (by
    rintro rfl
    rcases hp with hp | hp
    · exact hne (by rw [hp])
    · omega)).trans (h.block i hi hne)⟩

end Go.Proofs.YtjpgdfndlmipcaaDoor

namespace Go.Proofs.YtjpgdfndlmipcaaDoor
open Go.RowKit
set_option linter.unusedSimpArgs false
set_option linter.unusedVariables false

section
variable {P : Program} {ops : Array Oper} {Q : Exit → Act → World → Prop} {S : World → Prop} {need : Nat → Bool}

/-- an edge leads, in one step or more, from j to i -/
def pre (ops : Array Oper) : Nat → Nat → Nat → Bool
  | 0, _, _ => false
  | n + 1, j, i => match ops[j]? with
    | some o => o.after.any fun e => Region.binds .any e && (e.on == i || pre ops n e.on i)
    | none => false

/-- what has come up has come up behind all that it waits for -/
def Closed (ops : Array Oper) (listed : Array Bool) : Prop :=
  ∀ k ok, ops[k]? = some ok → listed.getD k true = true → ∀ e ∈ ok.after, Region.binds .any e = true → listed.getD e.on false = true

theorem Closed.start : Closed ops (Array.replicate ops.size false) := by
  intro k ok hk hl
  have := (Array.getElem?_eq_some_iff.1 hk).1
  simp [this] at hl
theorem Closed.step {listed : Array Bool} {j : Nat} (h : Closed ops listed) (hj : j ∈ Region.ready .any ops listed) : Closed ops (listed.setIfInBounds j true) := by
  intro k ok hk hl e he hb
  obtain ⟨_, oj, hoj, hall⟩ := mem_ready.1 hj
  by_cases hkj : k = j
  · subst hkj
    rw [hoj] at hk
    injection hk with hk
    subst hk
    exact getD_set_true (hall e he hb)
  · rw [getD_set_ne true (Ne.symm hkj)] at hl
    exact getD_set_true (h k ok hk hl e he hb)
theorem Closed.pre {listed : Array Bool} (h : Closed ops listed) {i : Nat} : ∀ (n j : Nat), listed.getD j false = true → pre ops n j i = true → listed.getD i false = true := by
  intro n
  induction n with
  | zero => intro j _ hp; cases hp
  | succ n ih =>
    intro j hl hp
    rw [Go.Proofs.YtjpgdfndlmipcaaDoor.pre] at hp
    cases ho : ops[j]? with
    | none => rw [ho] at hp; cases hp
    | some o =>
      rw [ho] at hp
      obtain ⟨e, he, hb⟩ := Array.any_eq_true'.1 hp
      simp only [Bool.and_eq_true, Bool.or_eq_true, beq_iff_eq] at hb
      have hl' : listed.getD j true = true := by
        rcases Nat.lt_or_ge j listed.size with hlt | hge
        · simp [hlt] at hl ⊢; exact hl
        · simp [Array.getElem?_eq_none hge] at hl
      have h1 := h j o ho hl' e he hb.1
      rcases hb.2 with hb2 | hb2
      · rw [← hb2]; exact h1
      · exact ih _ h1 hb2
theorem Closed.ready {listed : Array Bool} (h : Closed ops listed) {i j n : Nat} (hj : j ∈ Region.ready .any ops listed) (hp : Go.Proofs.YtjpgdfndlmipcaaDoor.pre ops n j i = true) : listed.getD i false = true := by
  obtain ⟨_, oj, hoj, hall⟩ := mem_ready.1 hj
  cases n with
  | zero => cases hp
  | succ n =>
    rw [Go.Proofs.YtjpgdfndlmipcaaDoor.pre, hoj] at hp
    obtain ⟨e, he, hb⟩ := Array.any_eq_true'.1 hp
    simp only [Bool.and_eq_true, Bool.or_eq_true, beq_iff_eq] at hb
    have h1 := hall e he hb.1
    rcases hb.2 with hb2 | hb2
    · rw [← hb2]; exact h1
    · exact h.pre _ _ h1 hb2

/-- whatever order is picked, and S holds behind each operation that is named -/
def wpAnyN (P : Program) (ops : Array Oper) (Q : Exit → Act → World → Prop) (S : World → Prop) (need : Nat → Bool) : Nat → Array Bool → Act → World → Prop
  | 0, listed, a, w => Region.ready .any ops listed = [] ∧ Q .normal a w
  | fuel + 1, listed, a, w =>
    (Region.ready .any ops listed = [] → Q .normal a w) ∧
    ∀ i ∈ Region.ready .any ops listed, wpOp P ops Q i (fun a' w' => (need i = true → S w') ∧ wpAnyN P ops Q S need fuel (listed.setIfInBounds i true) a' w') a w

theorem wpAny_of_N : ∀ (fuel : Nat) (listed : Array Bool) (a : Act) (w : World), wpAnyN P ops Q S need fuel listed a w → wpAny P .any ops Q fuel listed a w
  | 0, _, _, _, h => h
  | fuel + 1, _, _, _, h => ⟨h.1, fun i hi => wpOp_mono (fun a' w' h' => wpAny_of_N fuel _ a' w' h'.2) (h.2 i hi)⟩

theorem wpAnyN_first {i : Nat} {oi : Oper} {v : Value} (hi : ops[i]? = some oi) (hsel : ∀ (j : Nat) (o : Oper) cs b, ops[j]? = some o → o.op ≠ .select cs b)
    (hQ : ∀ c a w, Q (.panic c) (a.put oi.dst v) w → Q (.panic c) a w)
    (hneed : ∀ listed, Closed ops listed → i ∈ Region.ready .any ops listed → ∀ j, j ∈ Region.ready .any ops listed → j ≠ i → need j = true) :
    ∀ (fuel : Nat) (listed : Array Bool) (a : Act) (w : World), Closed ops listed →
      (∀ j oj, ops[j]? = some oj → j ≠ i → listed.getD j true = false → (∀ e ∈ oj.after, Region.binds .any e = true → e.on ≠ i) → oi.apart ops oj = true) →
      i ∈ Region.ready .any ops listed → YieldsIf P ops S oi v a → S w →
      wpAnyN P ops Q S need fuel (listed.setIfInBounds i true) (a.put oi.dst v) w → wpAnyN P ops Q S need (fuel + 1) listed a w := by
  intro fuel
  induction fuel with
  | zero =>
    intro listed a w hcl _ hr hy hS H
    refine ⟨fun h => (by rw [h] at hr; cases hr), fun j hj => ?_⟩
    by_cases hji : j = i
    · subst hji; exact hy.wpOp hi hS ⟨fun _ => hS, H⟩
    · have := ready_mono hj hji
      rw [H.1] at this
      cases this
  | succ fuel ih =>
    intro listed a w hcl hfree hr hy hS H
    refine ⟨fun h => (by rw [h] at hr; cases hr), fun j hj => ?_⟩
    by_cases hji : j = i
    · subst hji; exact hy.wpOp hi hS ⟨fun _ => hS, H⟩
    · have h1 := H.2 j (ready_mono hj hji)
      have hnj := hneed listed hcl hr j hj hji
      obtain ⟨hjun, oj, hoj, hall⟩ := mem_ready.1 hj
      have hnot : ∀ e ∈ oj.after, Region.binds .any e = true → e.on ≠ i := fun e he hb heq => by
        have h1 := hall e he hb
        have h0 := (mem_ready.1 hr).1
        rw [heq] at h1
        rcases Nat.lt_or_ge i listed.size with h' | h'
        · simp [h'] at h0 h1; rw [h0] at h1; cases h1
        · simp [Array.getElem?_eq_none h'] at h1
      have h2 := wpOp_putIf hoj (hfree j oj hoj hji hjun hnot) (fun cs b => hsel i oi cs b hi) (fun cs b => hsel j oj cs b hoj) hQ hy h1
      have hfree' : ∀ k ok, ops[k]? = some ok → k ≠ i → (listed.setIfInBounds j true).getD k true = false →
          (∀ e ∈ ok.after, Region.binds .any e = true → e.on ≠ i) → oi.apart ops ok = true := fun k ok hk hki hun hno => by
        refine hfree k ok hk hki ?_ hno
        by_cases hjk : j = k
        · subst hjk; exact hjun
        · rw [getD_set_ne true hjk] at hun; exact hun
      refine wpOp_mono (fun a' w' h3 => ⟨h3.2.1, ih (listed.setIfInBounds j true) a' w' (hcl.step hj) hfree' (ready_mono hr (Ne.symm hji)) h3.1 (h3.2.1 hnj) ?_⟩) h2
      rw [Array.setIfInBounds_comm _ _ hji]
      exact h3.2.2

/-- one operation yields one value in every world that meets S -/
def Oper.takes (P : Program) (o : Oper) (a : Act) (S : World → Prop) (next : Act → Prop) : Prop := ∃ v, (∀ w, S w → (execOp a.eval o).run P w = .ok (.value v) w) ∧ next (a.put o.dst v)
/-- operations that are taken first, one behind the other -/
def wpTake (P : Program) (ops : Array Oper) (S : World → Prop) (K : Act → Prop) : List Oper → Act → Prop
  | [], a => K a
  | o :: rest, a => if Region.wanted o (yielded ops a.tmps) then Oper.takes P o a S (wpTake P ops S K rest) else wpTake P ops S K rest (a.put o.dst undef)
/-- behind an operation: S, and what follows -/
def Mid (S : World → Prop) (K : Act → World → Prop) (Q : Exit → Act → World → Prop) : Exit → Act → World → Prop
  | .normal, a, w => S w ∧ K a w
  | e, a, w => Q e a w
/-- operations in a row, behind each of the first S -/
def wpThen (P : Program) (ops : Array Oper) (Q : Exit → Act → World → Prop) (S : World → Prop) : List Oper → List Oper → Act → World → Prop
  | [], lB, a, w => wpList P ops Q lB a w
  | o :: r, lB, a, w => wpList P ops (Mid S (wpThen P ops Q S r lB) Q) [o] a w

def sel (ops : Array Oper) (l : List Nat) : List Oper := l.filterMap fun i => ops[i]?

def simT (ops : Array Oper) : List Nat → Array Bool → Option (Array Bool)
  | [], l => some l
  | i :: T, l => if (Region.ready .any ops l).contains i && Region.free .any ops l i then simT ops T (l.setIfInBounds i true) else none
def simR (ops : Array Oper) : List Nat → Array Bool → Bool
  | [], l => (Region.ready .any ops l).isEmpty
  | j :: R, l => Region.ready .any ops l == [j] && simR ops R (l.setIfInBounds j true)
def firstOk (ops : Array Oper) (T A B : List Nat) : Bool :=
  Region.noSelect ops && (match simT ops T (Array.replicate ops.size false) with | some l => simR ops (A ++ B) l | none => false) &&
  B.all (fun j => T.all fun i => pre ops ops.size j i) && A.all (fun j => !B.contains j) && (T.length + (A.length + B.length) == ops.size)

theorem wpOp_of_list {j : Nat} {o : Oper} (ho : ops[j]? = some o) {K : Act → World → Prop} {Q' : Exit → Act → World → Prop} (h1 : ∀ a w, Q' .normal a w → K a w) (h2 : ∀ e a w, e ≠ .normal → Q' e a w → Q e a w)
    {a : Act} {w : World} (h : wpList P ops Q' [o] a w) : wpOp P ops Q j K a w := by
  have conv : ∀ {K1 : Act → World → Prop} {a : Act} {w : World}, o.wp P a w K1 Q' → (∀ a w, K1 a w → K a w) → o.wp P a w K Q := by
    intro K1 a w hh hk
    unfold Oper.wp at *
    generalize (execOp a.eval o).run P w = r at *
    cases r with
    | ok n w' =>
      cases n <;> simp only [Oper.upon] at hh ⊢ <;>
        first
          | exact hk _ _ hh
          | (refine Calls.mono hh fun e w'' he => ?_
             cases e with
             | returned u => exact hk _ _ he
             | panicked c => exact h2 _ _ _ (by simp) he
             | outgrown => obtain ⟨a0, w0, h0⟩ := he; exact ⟨a0, w0, h2 _ _ _ (by simp) h0⟩)
          | exact Rows.mono hh fun u w'' he => hk _ _ he
    | halt x w' => cases x <;> simp only [Oper.upon] at hh ⊢ <;> exact h2 _ _ _ (by simp) hh
  unfold wpOp
  simp only [ho]
  rw [wpList] at h
  split
  · rename_i hw
    simp only [hw, if_true] at h
    rcases h with h | ⟨hasks, a0, w0, h0⟩
    · exact .inl (conv h fun a w hh => h1 _ _ (by simpa [wpList] using hh))
    · exact .inr ⟨hasks, a0, w0, h2 _ _ _ (by simp) h0⟩
  · rename_i hw
    simp only [hw] at h
    exact h1 _ _ (by simpa [wpList] using h)

theorem wpList_cons_iff {o : Oper} {r : List Oper} {a : Act} {w : World} (h : wpList P ops Q (o :: r) a w) : wpList P ops (fun e a w => match e with | .normal => wpList P ops Q r a w | e => Q e a w) [o] a w := by
  have conv : ∀ {a : Act} {w : World}, o.wp P a w (wpList P ops Q r) Q → o.wp P a w (wpList P ops (fun e a w => match e with | .normal => wpList P ops Q r a w | e => Q e a w) []) (fun e a w => match e with | .normal => wpList P ops Q r a w | e => Q e a w) := by
    intro a w hh
    unfold Oper.wp at *
    generalize (execOp a.eval o).run P w = r at *
    cases r with
    | ok n w' =>
      cases n <;> simp only [Oper.upon] at hh ⊢ <;>
        first
          | exact hh
          | (refine Calls.mono hh fun e w'' he => ?_
             cases e with
             | returned u => exact he
             | panicked c => exact he
             | outgrown => obtain ⟨a0, w0, h0⟩ := he; exact ⟨a0, w0, h0⟩)
    | halt x w' => cases x <;> simp only [Oper.upon] at hh ⊢ <;> exact hh
  rw [wpList] at h ⊢
  split
  · rename_i hw
    simp only [hw, if_true] at h
    rcases h with h | ⟨hasks, a0, w0, h0⟩
    · exact .inl (conv h)
    · exact .inr ⟨hasks, a0, w0, h0⟩
  · rename_i hw
    simp only [hw] at h
    exact h

theorem sel_cons {j : Nat} {o : Oper} {R : List Nat} (ho : ops[j]? = some o) : sel ops (j :: R) = o :: sel ops R := by
  simp only [sel, List.filterMap_cons, ho]

theorem rest_ok {B : List Nat} (hneed : ∀ j, j ∈ B → need j = false) : ∀ (A : List Nat) (fuel : Nat) (listed : Array Bool) (a : Act) (w : World), A.length + B.length ≤ fuel → simR ops (A ++ B) listed = true →
    wpThen P ops Q S (sel ops A) (sel ops B) a w → wpAnyN P ops Q S need fuel listed a w := by
  have tail : ∀ (B' : List Nat) (fuel : Nat) (listed : Array Bool) (a : Act) (w : World), (∀ j, j ∈ B' → need j = false) → B'.length ≤ fuel → simR ops B' listed = true →
      wpList P ops Q (sel ops B') a w → wpAnyN P ops Q S need fuel listed a w := by
    intro B'
    induction B' with
    | nil =>
      intro fuel listed a w _ _ hs h
      have hr : Region.ready .any ops listed = [] := by simpa [simR] using hs
      have h' : Q .normal a w := by simpa [sel, wpList] using h
      cases fuel with
      | zero => exact ⟨hr, h'⟩
      | succ f => exact ⟨fun _ => h', by rw [hr]; simp⟩
    | cons j B' ih =>
      intro fuel listed a w hn hf hs h
      rw [simR, Bool.and_eq_true] at hs
      have hr : Region.ready .any ops listed = [j] := by simpa using hs.1
      cases fuel with
      | zero => simp at hf
      | succ f =>
        refine ⟨fun h0 => (by rw [h0] at hr; cases hr), ?_⟩
        rw [hr]
        intro i hi
        obtain rfl : i = j := by simpa using hi
        have hm : i ∈ Region.ready .any ops listed := by rw [hr]; simp
        obtain ⟨_, o, ho, _⟩ := mem_ready.1 hm
        rw [sel_cons ho] at h
        refine wpOp_of_list ho (fun a w hh => ⟨fun hni => (by rw [hn i (by simp)] at hni; cases hni), ih f _ a w (fun j hj => hn j (by simp [hj])) (by simpa using hf) hs.2 hh⟩) (fun e a w he hh => ?_) (wpList_cons_iff h)
        cases e <;> first | exact hh | exact absurd rfl he
  intro A
  induction A with
  | nil => intro fuel listed a w hf hs h; exact tail B fuel listed a w hneed (by simpa using hf) hs h
  | cons j A ih =>
    intro fuel listed a w hf hs h
    rw [List.cons_append, simR, Bool.and_eq_true] at hs
    have hr : Region.ready .any ops listed = [j] := by simpa using hs.1
    cases fuel with
    | zero => simp at hf
    | succ f =>
      refine ⟨fun h0 => (by rw [h0] at hr; cases hr), ?_⟩
      rw [hr]
      intro i hi
      obtain rfl : i = j := by simpa using hi
      have hm : i ∈ Region.ready .any ops listed := by rw [hr]; simp
      obtain ⟨_, o, ho, _⟩ := mem_ready.1 hm
      rw [sel_cons ho, wpThen] at h
      refine wpOp_of_list ho (fun a w hh => ⟨fun _ => hh.1, ih f _ a w (by simp only [List.length_cons] at hf; omega) hs.2 hh.2⟩) (fun e a w he hh => ?_) h
      cases e <;> first | exact hh | exact absurd rfl he

theorem takes_ok (hsel : Region.noSelect ops = true) (hQ : ∀ c (a : Act) d v w, Q (.panic c) (a.put d v) w → Q (.panic c) a w) {w : World} (hS : S w) : ∀ (T : List Nat) (fuel : Nat) (listed l' : Array Bool) (a : Act),
    (∀ i, i ∈ T → ∀ listed, Closed ops listed → i ∈ Region.ready .any ops listed → ∀ j, j ∈ Region.ready .any ops listed → j ≠ i → need j = true) →
    Closed ops listed → simT ops T listed = some l' → wpTake P ops S (fun a' => Closed ops l' → wpAnyN P ops Q S need fuel l' a' w) (sel ops T) a → wpAnyN P ops Q S need (T.length + fuel) listed a w := by
  intro T
  induction T with
  | nil =>
    intro fuel listed l' a _ hcl hs h
    simp only [simT, Option.some.injEq] at hs
    subst hs
    rw [List.length_nil, Nat.zero_add]
    exact (by simpa [sel, wpTake] using h : Closed ops listed → _) hcl
  | cons i T ih =>
    intro fuel listed l' a hn hcl hs h
    rw [simT] at hs
    split at hs
    case isFalse => cases hs
    rename_i hc
    rw [Bool.and_eq_true] at hc
    have hm : i ∈ Region.ready .any ops listed := by simpa using hc.1
    obtain ⟨_, o, ho, _⟩ := mem_ready.1 hm
    rw [sel_cons ho, wpTake] at h
    rw [List.length_cons, Nat.add_right_comm]
    split at h
    · rename_i hw
      obtain ⟨v, hv, hnext⟩ := h
      exact wpAnyN_first ho (Region.noSelect_spec hsel) (fun c a w hh => hQ c a _ _ w hh) (hn i (by simp)) _ _ _ _ hcl (Region.free_spec ho hc.2) hm (.inl ⟨hw, hv⟩) hS
        (ih _ _ _ _ (fun k hk => hn k (by simp [hk])) (hcl.step hm) hs hnext)
    · rename_i hw
      exact wpAnyN_first ho (Region.noSelect_spec hsel) (fun c a w hh => hQ c a _ _ w hh) (hn i (by simp)) _ _ _ _ hcl (Region.free_spec ho hc.2) hm (.inr ⟨by simpa using hw, rfl⟩) hS
        (ih _ _ _ _ (fun k hk => hn k (by simp [hk])) (hcl.step hm) hs h)

theorem wpTake_mono {K K' : Act → Prop} (hK : ∀ a, K a → K' a) : ∀ (l : List Oper) (a : Act), wpTake P ops S K l a → wpTake P ops S K' l a
  | [], a, h => hK a h
  | o :: r, a, h => by
    rw [wpTake] at h ⊢
    split
    · rename_i hw
      simp only [hw, if_true] at h
      obtain ⟨v, hv, hn⟩ := h
      exact ⟨v, hv, wpTake_mono hK r _ hn⟩
    · rename_i hw
      simp only [hw] at h
      exact wpTake_mono hK r _ h

/-- **a region that draws its order**: the operations T first, each of which yields one value in every world that meets S; then A, behind each of which S holds; then B -/
theorem wp_region_first {id : Nat} {a : Act} {w : World} (S : World → Prop) (T A B : List Nat) (lT lA lB : List Oper) (hm : P.follows .mixedOrders = true) (hk : firstOk ops T A B = true)
    (hT : sel ops T = lT) (hA : sel ops A = lA) (hB : sel ops B = lB) (hQ : ∀ c (a : Act) d v w, Q (.panic c) (a.put d v) w → Q (.panic c) a w) (hS : S w.drew)
    (h : wpTake P ops S (fun a' => wpThen P ops Q S lA lB a' w.drew) lT a) : (Code.region id ops true).wp P Q a w := by
  subst hT hA hB
  refine wp_region_any hm (wpAny_of_N (S := S) (need := fun j => !B.contains j) _ _ _ _ ?_)
  simp only [firstOk, Bool.and_eq_true, beq_iff_eq] at hk
  obtain ⟨⟨⟨⟨hsel, hsim⟩, hpre⟩, hAB⟩, hlen⟩ := hk
  cases hl : simT ops T (Array.replicate ops.size false) with
  | none => rw [hl] at hsim; cases hsim
  | some l' =>
  rw [hl] at hsim
  rw [show ops.size = T.length + (A.length + B.length) from hlen.symm]
  rw [show Array.replicate (T.length + (A.length + B.length)) false = Array.replicate ops.size false from by rw [hlen]]
  refine takes_ok hsel hQ (w := w.drew) hS T _ _ l' a (fun i hi listed hcl hr j hj hne => ?_) Closed.start hl (wpTake_mono (fun a' h' _ => rest_ok (fun j hj => ?_) A _ _ _ _ (Nat.le_refl _) hsim h') _ _ h)
  · rw [Bool.not_eq_true', List.contains_eq_mem, decide_eq_false_iff_not]
    intro hjB
    have h1 := List.all_eq_true.1 (List.all_eq_true.1 hpre j hjB) i hi
    have h2 := hcl.ready hj h1
    have h3 := (mem_ready.1 hr).1
    rcases Nat.lt_or_ge i listed.size with h' | h'
    · simp [h'] at h2 h3; rw [h3] at h2; cases h2
    · simp [Array.getElem?_eq_none h'] at h2
  · simp [hj]

theorem take_step {o : Oper} {rest : List Oper} {a a' : Act} {K : Act → Prop} {v : Value} (hw : Region.wanted o (yielded ops a.tmps) = true) (hv : ∀ w, S w → (execOp a.eval o).run P w = .ok (.value v) w)
    (ha : a.put o.dst v = a') (h : wpTake P ops S K rest a') : wpTake P ops S K (o :: rest) a := by
  subst ha; rw [wpTake, if_pos hw]; exact ⟨v, hv, h⟩
theorem take_skip {o : Oper} {rest : List Oper} {a a' : Act} {K : Act → Prop} (hw : Region.wanted o (yielded ops a.tmps) = false) (ha : a.put o.dst undef = a') (h : wpTake P ops S K rest a') : wpTake P ops S K (o :: rest) a := by
  subst ha; rw [wpTake, if_neg (by rw [hw]; exact Bool.false_ne_true)]; exact h
theorem take_nil {a : Act} {K : Act → Prop} (h : K a) : wpTake P ops S K [] a := h
theorem then_cons {o : Oper} {r lB : List Oper} {a : Act} {w : World} (h : wpList P ops (Mid S (wpThen P ops Q S r lB) Q) [o] a w) : wpThen P ops Q S (o :: r) lB a w := by rw [wpThen]; exact h
theorem then_nil {lB : List Oper} {a : Act} {w : World} (h : wpList P ops Q lB a w) : wpThen P ops Q S [] lB a w := by rw [wpThen]; exact h
theorem mid_intro {a : Act} {w : World} {K : Act → World → Prop} (h1 : S w) (h2 : K a w) : Mid S K Q .normal a w := ⟨h1, h2⟩

/-- the kit's lexical walk behind a name that is not laid open -/
def wpCls (P : Program) (ops : Array Oper) (C : World → Prop) (Q : Act → Prop) (l : List Oper) (a : Act) : Prop := wpQuiet P ops C Q l a
/-- a region all of whose operations and callees yield one value in every world of a class -/
theorem wp_region_class {id : Nat} {a : Act} {w : World} {l : List Oper} (C : World → Prop) (hm : P.follows .mixedOrders = true) (hB : Region.lexB .any l.toArray = true) (hC : C w.drew)
    (h : wpCls P l.toArray C (fun a' => ∀ w', C w' → Q .normal a' w') l a) : (Code.region id l.toArray true).wp P Q a w :=
  wp_region_quiet (C := C) hm hB hC (by simpa [wpCls] using h)
theorem quiet_one {C : World → Prop} {Q' : Act → Prop} {o : Oper} {rest : List Oper} {a a' : Act} {v : Value} (hw : Region.wanted o (yielded ops a.tmps) = true) (hv : ∀ w, C w → (execOp a.eval o).run P w = .ok (.value v) w)
    (ha : a.put o.dst v = a') (h : wpCls P ops C Q' rest a') : wpCls P ops C Q' (o :: rest) a := by
  subst ha
  unfold wpCls at *
  rw [wpQuiet, if_pos hw]
  refine ⟨v, fun w hw' => ?_, h⟩
  unfold Oper.quietAt
  rw [hv w hw']
  exact ⟨rfl, rfl⟩
theorem quiet_skip {C : World → Prop} {Q' : Act → Prop} {o : Oper} {rest : List Oper} {a a' : Act} (hw : Region.wanted o (yielded ops a.tmps) = false) (ha : a.put o.dst undef = a') (h : wpCls P ops C Q' rest a') : wpCls P ops C Q' (o :: rest) a := by
  subst ha; unfold wpCls at *; rw [wpQuiet, if_neg (by rw [hw]; exact Bool.false_ne_true)]; exact h
theorem quiet_call {C : World → Prop} {Q' : Act → Prop} {o : Oper} {rest : List Oper} {a a' : Act} {v : Value} (f : FuncId) (args : Array Value) (hw : Region.wanted o (yielded ops a.tmps) = true)
    (hv : ∀ w, C w → (execOp a.eval o).run P w = .ok (.enter f args) w) (hc : ∀ w, C w → Calls P f args w fun e w' => e = .returned v ∧ C w')
    (ha : a.put o.dst v = a') (h : wpCls P ops C Q' rest a') : wpCls P ops C Q' (o :: rest) a := by
  subst ha
  unfold wpCls at *
  rw [wpQuiet, if_pos hw]
  refine ⟨v, fun w hw' => ?_, h⟩
  unfold Oper.quietAt
  rw [hv w hw']
  exact ⟨rfl, hc w hw'⟩
theorem quiet_below {wx : World} {Q' : Act → Prop} {o : Oper} {rest : List Oper} {a a' : Act} {v : Value} (f : FuncId) (args : Array Value) (hw : Region.wanted o (yielded ops a.tmps) = true)
    (hv : ∀ w, Below wx.heap.size wx w → (execOp a.eval o).run P w = .ok (.enter f args) w) (hc : ∀ w, Below wx.heap.size wx w → Calls P f args w fun e w' => e = .returned v ∧ Below w.heap.size w w')
    (ha : a.put o.dst v = a') (h : wpCls P ops (fun w' => Below wx.heap.size wx w') Q' rest a') : wpCls P ops (fun w' => Below wx.heap.size wx w') Q' (o :: rest) a :=
  quiet_call f args hw hv (fun w hw => (hc w hw).mono fun _ _ ⟨he, hb⟩ => ⟨he, hw.trans (hb.mono hw.size)⟩) ha h
theorem quiet_same {wx : World} {Q' : Act → Prop} {o : Oper} {rest : List Oper} {a a' : Act} {v : Value} (f : FuncId) (args : Array Value) (hw : Region.wanted o (yielded ops a.tmps) = true)
    (hv : ∀ w, Below wx.heap.size wx w → (execOp a.eval o).run P w = .ok (.enter f args) w) (hc : ∀ w, Below wx.heap.size wx w → Calls P f args w fun e w' => e = .returned v ∧ w = w')
    (ha : a.put o.dst v = a') (h : wpCls P ops (fun w' => Below wx.heap.size wx w') Q' rest a') : wpCls P ops (fun w' => Below wx.heap.size wx w') Q' (o :: rest) a :=
  quiet_call f args hw hv (fun w hw => (hc w hw).mono fun _ _ ⟨he, hb⟩ => ⟨he, by rw [← hb]; exact hw⟩) ha h
theorem quiet_nil {C : World → Prop} {Q' : Act → Prop} {a : Act} (h : Q' a) : wpCls P ops C Q' [] a := h
end
attribute [irreducible] wpCls wpTake wpThen Mid
end Go.Proofs.YtjpgdfndlmipcaaDoor

namespace Go.Proofs.YtjpgdfndlmipcaaDoor
open Go.RowKit
set_option linter.unusedSimpArgs false
set_option linter.unusedVariables false

section
variable {P : Program} {ops : Array Oper} {Q : Exit → Act → World → Prop} {S : World → Prop} {need : Nat → Bool}

/-- one operation yields one value, or calls what hands back one value and leaves the world, in every world that meets S -/
def OneV (P : Program) (o : Oper) (a : Act) (S : World → Prop) (v : Value) : Prop :=
  (∀ w, S w → (execOp a.eval o).run P w = .ok (.value v) w) ∨
  ∃ f args, (∀ w, S w → (execOp a.eval o).run P w = .ok (.enter f args) w) ∧ ∀ w, S w → Calls P f args w fun e w' => e = .returned v ∧ w = w'
def YIf (P : Program) (ops : Array Oper) (S : World → Prop) (o : Oper) (v : Value) (a : Act) : Prop :=
  (Region.wanted o (yielded ops a.tmps) = true ∧ OneV P o a S v) ∨ (Region.wanted o (yielded ops a.tmps) = false ∧ v = undef) ∨ False
theorem OneV.yif {o : Oper} {v : Value} {a : Act} (h : OneV P o a S v) (hw : Region.wanted o (yielded ops a.tmps) = true) : YIf P ops S o v a := .inl ⟨hw, h⟩
theorem YIf.wpOp {i : Nat} {o : Oper} {v : Value} {a : Act} (hi : ops[i]? = some o) (hy : YIf P ops S o v a)
    {K : Act → World → Prop} {w : World} (hS : S w) (h : K (a.put o.dst v) w) : wpOp P ops Q i K a w := by
  unfold Go.wpOp
  simp only [hi]
  rcases hy with ⟨hw, hv | ⟨f, args, hv, hc⟩⟩ | ⟨hw, rfl⟩ | hF
  · simp only [hw, if_true, Oper.wp, hv w hS, Oper.upon]; exact .inl h
  · simp only [hw, if_true, Oper.wp, hv w hS, Oper.upon]
    refine .inl ((hc w hS).mono fun e w' ⟨he, hww⟩ => ?_)
    subst he
    subst hww
    exact h
  · simp only [hw, Bool.false_eq_true, if_false]; exact h
  · exact hF.elim
theorem YIf.of_same {o : Oper} {v : Value} {a a' : Act} (hy : YIf P ops S o v a) (he : execOp a'.eval o = execOp a.eval o)
    (hw : Region.wanted o (yielded ops a'.tmps) = Region.wanted o (yielded ops a.tmps)) : YIf P ops S o v a' := by
  unfold YIf OneV at *
  rw [he, hw]
  exact hy
theorem wpOp_putY {j : Nat} {oi oj : Oper} {v : Value} (hj : ops[j]? = some oj) (hap : oi.apart ops oj = true)
    (hsi : ∀ cs b, oi.op ≠ .select cs b) (hsj : ∀ cs b, oj.op ≠ .select cs b)
    (hQ : ∀ c a w, Q (.panic c) (a.put oi.dst v) w → Q (.panic c) a w) {K : Act → World → Prop} {a : Act} {w : World}
    (hy : YIf P ops S oi v a) (h : wpOp P ops Q j K (a.put oi.dst v) w) :
    wpOp P ops Q j (fun a' w' => YIf P ops S oi v a' ∧ K (a'.put oi.dst v) w') a w := by
  obtain ⟨h1, h2, h3⟩ := Oper.apart_spec hap
  have keep : ∀ (a : Act), YIf P ops S oi v a → ∀ u, YIf P ops S oi v (a.put oj.dst u) := fun a hy u =>
    hy.of_same (execOp_put oi hsi a oj.dst u h3) (wanted_put oi a oj.dst u h3)
  have keepD : ∀ d, YIf P ops S oi v { a with defers := d :: a.defers } := fun d => hy.of_same rfl rfl
  unfold wpOp at *
  simp only [hj] at *
  rw [wanted_put oj a oi.dst v h1] at h
  split
  · rename_i hw
    simp only [hw, if_true] at h
    rcases h with h | ⟨hasks, hlets⟩
    case inr => exact .inr ⟨by unfold Oper.asks at *; rw [execOp_put oj hsj a oi.dst v h1] at hasks; exact hasks, hlets⟩
    refine .inl ?_
    unfold Oper.wp at *
    rw [execOp_put oj hsj a oi.dst v h1] at h
    generalize (execOp a.eval oj).run P w = r at *
    cases r with
    | ok n w' =>
      cases n <;> simp only [Oper.upon] at h ⊢
      case value u => exact ⟨keep a hy u, by rw [← Act.put_comm a v u h2]; exact h⟩
      case skip => exact ⟨keep a hy _, by rw [← Act.put_comm a v undef h2]; exact h⟩
      case defer d =>
        refine ⟨keep _ (keepD d) _, ?_⟩
        rw [← Act.put_comm _ v undef h2, ← Act.put_defers]
        exact h
      case enter f args =>
        refine Calls.mono h fun e w'' he => ?_
        cases e with
        | returned u => exact ⟨keep a hy u, by rw [← Act.put_comm a v u h2]; exact he⟩
        | panicked c => exact hQ _ _ _ he
        | outgrown => exact he
      case row row args => exact Rows.mono h fun u w'' he => ⟨keep a hy u, by rw [← Act.put_comm a v u h2]; exact he⟩
    | halt x w' =>
      cases x <;> simp only [Oper.upon] at h ⊢
      case panic u => exact hQ _ _ _ h
  · rename_i hw
    simp only [hw] at h
    exact ⟨keep a hy _, by rw [← Act.put_comm a v undef h2]; exact h⟩

theorem wpAnyN_firstY {i : Nat} {oi : Oper} {v : Value} (hi : ops[i]? = some oi) (hsel : ∀ (j : Nat) (o : Oper) cs b, ops[j]? = some o → o.op ≠ .select cs b)
    (hQ : ∀ c a w, Q (.panic c) (a.put oi.dst v) w → Q (.panic c) a w)
    (hneed : ∀ listed, Closed ops listed → i ∈ Region.ready .any ops listed → ∀ j, j ∈ Region.ready .any ops listed → j ≠ i → need j = true) :
    ∀ (fuel : Nat) (listed : Array Bool) (a : Act) (w : World), Closed ops listed →
      (∀ j oj, ops[j]? = some oj → j ≠ i → listed.getD j true = false → (∀ e ∈ oj.after, Region.binds .any e = true → e.on ≠ i) → oi.apart ops oj = true) →
      i ∈ Region.ready .any ops listed → YIf P ops S oi v a → S w →
      wpAnyN P ops Q S need fuel (listed.setIfInBounds i true) (a.put oi.dst v) w → wpAnyN P ops Q S need (fuel + 1) listed a w := by
  intro fuel
  induction fuel with
  | zero =>
    intro listed a w hcl _ hr hy hS H
    refine ⟨fun h => (by rw [h] at hr; cases hr), fun j hj => ?_⟩
    by_cases hji : j = i
    · subst hji; exact hy.wpOp hi hS ⟨fun _ => hS, H⟩
    · have := ready_mono hj hji
      rw [H.1] at this
      cases this
  | succ fuel ih =>
    intro listed a w hcl hfree hr hy hS H
    refine ⟨fun h => (by rw [h] at hr; cases hr), fun j hj => ?_⟩
    by_cases hji : j = i
    · subst hji; exact hy.wpOp hi hS ⟨fun _ => hS, H⟩
    · have h1 := H.2 j (ready_mono hj hji)
      have hnj := hneed listed hcl hr j hj hji
      obtain ⟨hjun, oj, hoj, hall⟩ := mem_ready.1 hj
      have hnot : ∀ e ∈ oj.after, Region.binds .any e = true → e.on ≠ i := fun e he hb heq => by
        have h1 := hall e he hb
        have h0 := (mem_ready.1 hr).1
        rw [heq] at h1
        rcases Nat.lt_or_ge i listed.size with h' | h'
        · simp [h'] at h0 h1; rw [h0] at h1; cases h1
        · simp [Array.getElem?_eq_none h'] at h1
      have h2 := wpOp_putY hoj (hfree j oj hoj hji hjun hnot) (fun cs b => hsel i oi cs b hi) (fun cs b => hsel j oj cs b hoj) hQ hy h1
      have hfree' : ∀ k ok, ops[k]? = some ok → k ≠ i → (listed.setIfInBounds j true).getD k true = false →
          (∀ e ∈ ok.after, Region.binds .any e = true → e.on ≠ i) → oi.apart ops ok = true := fun k ok hk hki hun hno => by
        refine hfree k ok hk hki ?_ hno
        by_cases hjk : j = k
        · subst hjk; exact hjun
        · rw [getD_set_ne true hjk] at hun; exact hun
      refine wpOp_mono (fun a' w' h3 => ⟨h3.2.1, ih (listed.setIfInBounds j true) a' w' (hcl.step hj) hfree' (ready_mono hr (Ne.symm hji)) h3.1 (h3.2.1 hnj) ?_⟩) h2
      rw [Array.setIfInBounds_comm _ _ hji]
      exact h3.2.2


/-- operations that are taken first, one behind the other -/
def wpTakeY (P : Program) (ops : Array Oper) (S : World → Prop) (K : Act → Prop) : List Oper → Act → Prop
  | [], a => K a
  | o :: rest, a => if Region.wanted o (yielded ops a.tmps) then ∃ v, OneV P o a S v ∧ wpTakeY P ops S K rest (a.put o.dst v) else wpTakeY P ops S K rest (a.put o.dst undef)

theorem takesY_ok (hsel : Region.noSelect ops = true) (hQ : ∀ c (a : Act) d v w, Q (.panic c) (a.put d v) w → Q (.panic c) a w) {w : World} (hS : S w) : ∀ (T : List Nat) (fuel : Nat) (listed l' : Array Bool) (a : Act),
    (∀ i, i ∈ T → ∀ listed, Closed ops listed → i ∈ Region.ready .any ops listed → ∀ j, j ∈ Region.ready .any ops listed → j ≠ i → need j = true) →
    Closed ops listed → simT ops T listed = some l' → wpTakeY P ops S (fun a' => Closed ops l' → wpAnyN P ops Q S need fuel l' a' w) (sel ops T) a → wpAnyN P ops Q S need (T.length + fuel) listed a w := by
  intro T
  induction T with
  | nil =>
    intro fuel listed l' a _ hcl hs h
    simp only [simT, Option.some.injEq] at hs
    subst hs
    rw [List.length_nil, Nat.zero_add]
    exact (by simpa [sel, wpTakeY] using h : Closed ops listed → _) hcl
  | cons i T ih =>
    intro fuel listed l' a hn hcl hs h
    rw [simT] at hs
    split at hs
    case isFalse => cases hs
    rename_i hc
    rw [Bool.and_eq_true] at hc
    have hm : i ∈ Region.ready .any ops listed := by simpa using hc.1
    obtain ⟨_, o, ho, _⟩ := mem_ready.1 hm
    rw [sel_cons ho, wpTakeY] at h
    rw [List.length_cons, Nat.add_right_comm]
    split at h
    · rename_i hw
      obtain ⟨v, hv, hnext⟩ := h
      exact wpAnyN_firstY ho (Region.noSelect_spec hsel) (fun c a w hh => hQ c a _ _ w hh) (hn i (by simp)) _ _ _ _ hcl (Region.free_spec ho hc.2) hm (hv.yif hw) hS
        (ih _ _ _ _ (fun k hk => hn k (by simp [hk])) (hcl.step hm) hs hnext)
    · rename_i hw
      exact wpAnyN_firstY ho (Region.noSelect_spec hsel) (fun c a w hh => hQ c a _ _ w hh) (hn i (by simp)) _ _ _ _ hcl (Region.free_spec ho hc.2) hm (.inr (.inl ⟨by simpa using hw, rfl⟩)) hS
        (ih _ _ _ _ (fun k hk => hn k (by simp [hk])) (hcl.step hm) hs h)

theorem wpTakeY_mono {K K' : Act → Prop} (hK : ∀ a, K a → K' a) : ∀ (l : List Oper) (a : Act), wpTakeY P ops S K l a → wpTakeY P ops S K' l a
  | [], a, h => hK a h
  | o :: r, a, h => by
    rw [wpTakeY] at h ⊢
    split
    · rename_i hw
      simp only [hw, if_true] at h
      obtain ⟨v, hv, hn⟩ := h
      exact ⟨v, hv, wpTakeY_mono hK r _ hn⟩
    · rename_i hw
      simp only [hw] at h
      exact wpTakeY_mono hK r _ h

/-- **a region that draws its order**: the operations T first, each of which yields one value in every world that meets S; then A, behind each of which S holds; then B -/
theorem wp_region_firstY {id : Nat} {a : Act} {w : World} (S : World → Prop) (T A B : List Nat) (lT lA lB : List Oper) (hm : P.follows .mixedOrders = true) (hk : firstOk ops T A B = true)
    (hT : sel ops T = lT) (hA : sel ops A = lA) (hB : sel ops B = lB) (hQ : ∀ c (a : Act) d v w, Q (.panic c) (a.put d v) w → Q (.panic c) a w) (hS : S w.drew)
    (h : wpTakeY P ops S (fun a' => wpThen P ops Q S lA lB a' w.drew) lT a) : (Code.region id ops true).wp P Q a w := by
  subst hT hA hB
  refine wp_region_any hm (wpAny_of_N (S := S) (need := fun j => !B.contains j) _ _ _ _ ?_)
  simp only [firstOk, Bool.and_eq_true, beq_iff_eq] at hk
  obtain ⟨⟨⟨⟨hsel, hsim⟩, hpre⟩, hAB⟩, hlen⟩ := hk
  cases hl : simT ops T (Array.replicate ops.size false) with
  | none => rw [hl] at hsim; cases hsim
  | some l' =>
  rw [hl] at hsim
  rw [show ops.size = T.length + (A.length + B.length) from hlen.symm]
  rw [show Array.replicate (T.length + (A.length + B.length)) false = Array.replicate ops.size false from by rw [hlen]]
  refine takesY_ok hsel hQ (w := w.drew) hS T _ _ l' a (fun i hi listed hcl hr j hj hne => ?_) Closed.start hl (wpTakeY_mono (fun a' h' _ => rest_ok (fun j hj => ?_) A _ _ _ _ (Nat.le_refl _) hsim h') _ _ h)
  · rw [Bool.not_eq_true', List.contains_eq_mem, decide_eq_false_iff_not]
    intro hjB
    have h1 := List.all_eq_true.1 (List.all_eq_true.1 hpre j hjB) i hi
    have h2 := hcl.ready hj h1
    have h3 := (mem_ready.1 hr).1
    rcases Nat.lt_or_ge i listed.size with h' | h'
    · simp [h'] at h2 h3; rw [h3] at h2; cases h2
    · simp [Array.getElem?_eq_none h'] at h2
  · simp [hj]


theorem takeY_step {o : Oper} {rest : List Oper} {a a' : Act} {K : Act → Prop} {v : Value} (hw : Region.wanted o (yielded ops a.tmps) = true) (hv : ∀ w, S w → (execOp a.eval o).run P w = .ok (.value v) w)
    (ha : a.put o.dst v = a') (h : wpTakeY P ops S K rest a') : wpTakeY P ops S K (o :: rest) a := by
  subst ha; rw [wpTakeY, if_pos hw]; exact ⟨v, .inl hv, h⟩
theorem takeY_call {o : Oper} {rest : List Oper} {a a' : Act} {K : Act → Prop} {v : Value} (f : FuncId) (args : Array Value) (hw : Region.wanted o (yielded ops a.tmps) = true)
    (hv : ∀ w, S w → (execOp a.eval o).run P w = .ok (.enter f args) w) (hc : ∀ w, S w → Calls P f args w fun e w' => e = .returned v ∧ w = w')
    (ha : a.put o.dst v = a') (h : wpTakeY P ops S K rest a') : wpTakeY P ops S K (o :: rest) a := by
  subst ha; rw [wpTakeY, if_pos hw]; exact ⟨v, .inr ⟨f, args, hv, hc⟩, h⟩
theorem takeY_skip {o : Oper} {rest : List Oper} {a a' : Act} {K : Act → Prop} (hw : Region.wanted o (yielded ops a.tmps) = false) (ha : a.put o.dst undef = a') (h : wpTakeY P ops S K rest a') : wpTakeY P ops S K (o :: rest) a := by
  subst ha; rw [wpTakeY, if_neg (by rw [hw]; exact Bool.false_ne_true)]; exact h
theorem takeY_nil {a : Act} {K : Act → Prop} (h : K a) : wpTakeY P ops S K [] a := h
end
attribute [irreducible] wpTakeY
end Go.Proofs.YtjpgdfndlmipcaaDoor

namespace Go.Proofs.YtjpgdfndlmipcaaDoor
open Go.RowKit
set_option linter.unusedSimpArgs false
set_option linter.unusedVariables false

mutual
/-- three cells that hold a term; the blocks of its operands, in order -/
def OwT (w : World) : Tm → List Value → List Nat → Prop
  | .mk k n ks, xs, fp => ∃ A c, xs = [.int .i64 k, .int .i64 n, .slice A ks.length c] ∧ ks.length ≤ 9223372036854775807 ∧
      ((ks = [] ∧ fp = []) ∨ ∃ g cur e f, ks ≠ [] ∧ A = some ⟨g, 0, none⟩ ∧ w.heap[g]? = some (.cells cur e (0, 0)) ∧ fp = g :: f ∧ OwX w ks (cur.toList.take (ks.length * 3)) f)
/-- cells that hold terms, one behind the other -/
def OwX (w : World) : List Tm → List Value → List Nat → Prop
  | [], xs, fp => xs = [] ∧ fp = []
  | t :: ts, xs, fp => ∃ x1 x2 f1 f2, xs = x1 ++ x2 ∧ fp = f1 ++ f2 ∧ OwT w t x1 f1 ∧ OwX w ts x2 f2
end

/-- a slice's address, whose block holds the terms -/
def Ow (w : World) (A : Option Addr) (ks : List Tm) (fp : List Nat) : Prop :=
  (ks = [] ∧ fp = []) ∨ ∃ g cur e f, ks ≠ [] ∧ A = some ⟨g, 0, none⟩ ∧ w.heap[g]? = some (.cells cur e (0, 0)) ∧ fp = g :: f ∧ OwX w ks (cur.toList.take (ks.length * 3)) f

theorem OwT.iff {w : World} {k n : Int} {ks : List Tm} {xs : List Value} {fp : List Nat} : OwT w (.mk k n ks) xs fp ↔
    ∃ A c, xs = [.int .i64 k, .int .i64 n, .slice A ks.length c] ∧ ks.length ≤ 9223372036854775807 ∧ Ow w A ks fp := by
  simp only [OwT, Ow]
theorem OwX.nil_iff {w : World} {xs : List Value} {fp : List Nat} : OwX w [] xs fp ↔ xs = [] ∧ fp = [] := by simp only [OwX]
theorem OwX.cons_iff {w : World} {t : Tm} {ts : List Tm} {xs : List Value} {fp : List Nat} : OwX w (t :: ts) xs fp ↔
    ∃ x1 x2 f1 f2, xs = x1 ++ x2 ∧ fp = f1 ++ f2 ∧ OwT w t x1 f1 ∧ OwX w ts x2 f2 := by simp only [OwX]
theorem OwX.nil {w : World} : OwX w [] [] [] := OwX.nil_iff.2 ⟨rfl, rfl⟩
theorem OwT.length {w : World} {t : Tm} {xs : List Value} {fp : List Nat} (h : OwT w t xs fp) : xs.length = 3 := by
  cases t
  obtain ⟨A, c, rfl, _⟩ := OwT.iff.1 h
  rfl
theorem OwX.length {w : World} {ts : List Tm} : ∀ {xs : List Value} {fp : List Nat}, OwX w ts xs fp → xs.length = ts.length * 3 := by
  induction ts with
  | nil => intro xs fp h; rw [(OwX.nil_iff.1 h).1]; rfl
  | cons t ts ih =>
    intro xs fp h
    obtain ⟨x1, x2, f1, f2, rfl, rfl, h1, h2⟩ := OwX.cons_iff.1 h
    rw [List.length_append, h1.length, ih h2, List.length_cons]; omega
theorem OwX.append {w : World} {ts us : List Tm} : ∀ {xs ys : List Value} {f g : List Nat}, OwX w ts xs f → OwX w us ys g → OwX w (ts ++ us) (xs ++ ys) (f ++ g) := by
  induction ts with
  | nil => intro xs ys f g h k; obtain ⟨rfl, rfl⟩ := OwX.nil_iff.1 h; exact k
  | cons t ts ih =>
    intro xs ys f g h k
    obtain ⟨x1, x2, f1, f2, rfl, rfl, h1, h2⟩ := OwX.cons_iff.1 h
    rw [List.cons_append]
    exact OwX.cons_iff.2 ⟨x1, x2 ++ ys, f1, f2 ++ g, by rw [List.append_assoc], by rw [List.append_assoc], h1, ih h2 k⟩
theorem OwX.one {w : World} {t : Tm} {xs : List Value} {f : List Nat} (h : OwT w t xs f) : OwX w [t] xs f :=
  OwX.cons_iff.2 ⟨xs, [], f, [], by simp, by simp, h, OwX.nil⟩

theorem OwT.oneCell {w : World} {t : Tm} {xs : List Value} {fp : List Nat} (h : OwT w t xs fp) : ∀ u, u ∈ xs → u.oneCell' = true := by
  cases t
  obtain ⟨A, c, rfl, _⟩ := OwT.iff.1 h
  intro u hu
  simp only [List.mem_cons, List.not_mem_nil, or_false] at hu
  rcases hu with rfl | rfl | rfl <;> rfl

theorem own_frame {w w' : World} : (∀ t xs fp, OwT w t xs fp → (∀ b, b ∈ fp → w'.heap[b]? = w.heap[b]?) → OwT w' t xs fp) ∧ (∀ ts xs fp, OwX w ts xs fp → (∀ b, b ∈ fp → w'.heap[b]? = w.heap[b]?) → OwX w' ts xs fp) := by
  refine Tm.ind2 (fun k n ks ih xs fp h hk => ?_) (fun xs fp h _ => OwX.nil_iff.2 (OwX.nil_iff.1 h)) (fun t ts h1 h2 xs fp h hk => ?_)
  · obtain ⟨A, c, rfl, hl, h⟩ := OwT.iff.1 h
    refine OwT.iff.2 ⟨A, c, rfl, hl, ?_⟩
    rcases h with ⟨rfl, rfl⟩ | ⟨g, cur, e, f, hne, rfl, hg, rfl, hx⟩
    · exact .inl ⟨rfl, rfl⟩
    · exact .inr ⟨g, cur, e, f, hne, rfl, (hk g (by simp)).trans hg, rfl, ih _ _ hx fun b hb => hk b (by simp [hb])⟩
  · obtain ⟨x1, x2, f1, f2, rfl, rfl, ht, hx⟩ := OwX.cons_iff.1 h
    exact OwX.cons_iff.2 ⟨x1, x2, f1, f2, rfl, rfl, h1 _ _ ht fun b hb => hk b (by simp [hb]), h2 _ _ hx fun b hb => hk b (by simp [hb])⟩
theorem OwX.frame {w w' : World} {ts : List Tm} {xs : List Value} {fp : List Nat} (h : OwX w ts xs fp) (hk : ∀ b, b ∈ fp → w'.heap[b]? = w.heap[b]?) : OwX w' ts xs fp := own_frame.2 _ _ _ h hk
theorem OwT.frame {w w' : World} {t : Tm} {xs : List Value} {fp : List Nat} (h : OwT w t xs fp) (hk : ∀ b, b ∈ fp → w'.heap[b]? = w.heap[b]?) : OwT w' t xs fp := own_frame.1 _ _ _ h hk
theorem Ow.frame {w w' : World} {A : Option Addr} {ks : List Tm} {fp : List Nat} (h : Ow w A ks fp) (hk : ∀ b, b ∈ fp → w'.heap[b]? = w.heap[b]?) : Ow w' A ks fp := by
  rcases h with ⟨rfl, rfl⟩ | ⟨g, cur, e, f, hne, rfl, hg, rfl, hx⟩
  · exact .inl ⟨rfl, rfl⟩
  · exact .inr ⟨g, cur, e, f, hne, rfl, (hk g (by simp)).trans hg, rfl, hx.frame fun b hb => hk b (by simp [hb])⟩

theorem own_lt {w : World} : (∀ t xs fp, OwT w t xs fp → ∀ b, b ∈ fp → b < w.heap.size) ∧ (∀ ts xs fp, OwX w ts xs fp → ∀ b, b ∈ fp → b < w.heap.size) := by
  refine Tm.ind2 (fun k n ks ih xs fp h b hb => ?_) (fun xs fp h b hb => ?_) (fun t ts h1 h2 xs fp h b hb => ?_)
  · obtain ⟨A, c, rfl, hl, h⟩ := OwT.iff.1 h
    rcases h with ⟨rfl, rfl⟩ | ⟨g, cur, e, f, hne, rfl, hg, rfl, hx⟩
    · simp at hb
    · rcases List.mem_cons.1 hb with rfl | hb
      · exact (Array.getElem?_eq_some_iff.1 hg).1
      · exact ih _ _ hx b hb
  · rw [(OwX.nil_iff.1 h).2] at hb; simp at hb
  · obtain ⟨x1, x2, f1, f2, rfl, rfl, ht, hx⟩ := OwX.cons_iff.1 h
    rcases List.mem_append.1 hb with hb | hb
    · exact h1 _ _ ht b hb
    · exact h2 _ _ hx b hb
theorem OwX.lt {w : World} {ts : List Tm} {xs : List Value} {fp : List Nat} (h : OwX w ts xs fp) : ∀ b, b ∈ fp → b < w.heap.size := own_lt.2 _ _ _ h
theorem OwT.lt {w : World} {t : Tm} {xs : List Value} {fp : List Nat} (h : OwT w t xs fp) : ∀ b, b ∈ fp → b < w.heap.size := own_lt.1 _ _ _ h
theorem Ow.lt {w : World} {A : Option Addr} {ks : List Tm} {fp : List Nat} (h : Ow w A ks fp) : ∀ b, b ∈ fp → b < w.heap.size := by
  intro b hb
  rcases h with ⟨rfl, rfl⟩ | ⟨g, cur, e, f, hne, rfl, hg, rfl, hx⟩
  · simp at hb
  · rcases List.mem_cons.1 hb with rfl | hb
    · exact (Array.getElem?_eq_some_iff.1 hg).1
    · exact hx.lt b hb

theorem own_rd {w : World} : (∀ t xs fp, OwT w t xs fp → ∀ g off i, (∀ j u, xs[j]? = some u → w.cell? ⟨g, off + i * 3 + j, none⟩ = some u) → RdC w g off i t) ∧
    (∀ ts xs fp, OwX w ts xs fp → ∀ g off i, (∀ j u, xs[j]? = some u → w.cell? ⟨g, off + i * 3 + j, none⟩ = some u) → Rd w (some ⟨g, off, none⟩) i ts) := by
  refine Tm.ind2 (fun k n ks ih xs fp h g off i hc => ?_) (fun xs fp h g off i hc => Rd.nil) (fun t ts h1 h2 xs fp h g off i hc => ?_)
  · obtain ⟨A, c, rfl, hl, h⟩ := OwT.iff.1 h
    refine RdC.iff.2 ⟨hc 0 _ rfl, hc 1 _ rfl, A, c, hc 2 _ rfl, hl, ?_⟩
    rcases h with ⟨rfl, rfl⟩ | ⟨g', cur, e, f, hne, rfl, hg, rfl, hx⟩
    · exact Rd.nil
    · refine ih _ _ hx g' 0 0 fun j u hu => ?_
      have e0 : 0 + 0 * 3 + j = j := by omega
      rw [e0, cell_of_row w g' j cur e (0, 0) hg]
      rw [List.getElem?_take] at hu
      split at hu
      · simpa using hu
      · cases hu
  · obtain ⟨x1, x2, f1, f2, rfl, rfl, ht, hx⟩ := OwX.cons_iff.1 h
    have hl := ht.length
    refine Rd.cons_iff.2 ⟨⟨g, off, rfl, h1 _ _ ht g off i fun j u hu => hc j u ?_⟩, h2 _ _ hx g off (i + 1) fun j u hu => ?_⟩
    · rw [List.getElem?_append_left (by have := (List.getElem?_eq_some_iff.1 hu).1; omega)]; exact hu
    · have := hc (3 + j) u (by rw [List.getElem?_append_right (by omega), hl]; simpa using hu)
      rw [show off + (i + 1) * 3 + j = off + i * 3 + (3 + j) from by omega]; exact this
theorem Ow.rd {w : World} {A : Option Addr} {ks : List Tm} {fp : List Nat} (h : Ow w A ks fp) : Rd w A 0 ks := by
  rcases h with ⟨rfl, rfl⟩ | ⟨g, cur, e, f, hne, rfl, hg, rfl, hx⟩
  · exact Rd.nil
  · refine own_rd.2 _ _ _ hx g 0 0 fun j u hu => ?_
    have e0 : 0 + 0 * 3 + j = j := by omega
    rw [e0, cell_of_row w g j cur e (0, 0) hg]
    rw [List.getElem?_take] at hu
    split at hu
    · simpa using hu
    · cases hu

/-- the terms lie in blocks of their own, all from B on -/
def Fresh (B : Nat) (w : World) (A : Option Addr) (ks : List Tm) : Prop := ∃ fp, Ow w A ks fp ∧ fp.Nodup ∧ ∀ b, b ∈ fp → B ≤ b
theorem Fresh.rd {B : Nat} {w : World} {A : Option Addr} {ks : List Tm} (h : Fresh B w A ks) : Rd w A 0 ks := by
  obtain ⟨fp, h, _⟩ := h; exact h.rd
theorem Fresh.nil {B : Nat} {w : World} {A : Option Addr} : Fresh B w A [] := ⟨[], .inl ⟨rfl, rfl⟩, List.nodup_nil, by simp⟩
theorem Fresh.mono {B B' : Nat} {w : World} {A : Option Addr} {ks : List Tm} (h : Fresh B w A ks) (hB : B' ≤ B) : Fresh B' w A ks := by
  obtain ⟨fp, h, hn, hb⟩ := h; exact ⟨fp, h, hn, fun b hx => Nat.le_trans hB (hb b hx)⟩
theorem Fresh.keep {B : Nat} {w w' : World} {A : Option Addr} {ks : List Tm} (h : Fresh B w A ks) (hk : ∀ b, B ≤ b → b < w.heap.size → w'.heap[b]? = w.heap[b]?) : Fresh B w' A ks := by
  obtain ⟨fp, h, hn, hb⟩ := h; exact ⟨fp, h.frame fun b hx => hk b (hb b hx) (h.lt b hx), hn, hb⟩
theorem Fresh.below {B : Nat} {w w' : World} {A : Option Addr} {ks : List Tm} (h : Fresh B w A ks) (hk : Below w.heap.size w w') : Fresh B w' A ks := h.keep fun b _ hb => hk.block b hb
theorem Fresh.alloc {B : Nat} {w : World} {A : Option Addr} {ks : List Tm} (h : Fresh B w A ks) (o : Obj) : Fresh B (w.alloc o) A ks := h.keep fun b _ hb => Below.heap_alloc w o b hb
theorem Fresh.drew {B : Nat} {w : World} {A : Option Addr} {ks : List Tm} (h : Fresh B w A ks) : Fresh B w.drew A ks := h.keep fun _ _ _ => rfl
theorem Fresh.setCell {B : Nat} {w : World} {A : Option Addr} {ks : List Tm} (h : Fresh B w A ks) {a : Addr} (ha : a.block < B) (u : Value) : Fresh B (w.setCell a u) A ks :=
  h.keep fun b hb _ => Below.heap_setCell w a u b (by omega)

theorem run_make_rowN {P : Program} (t e : TypeId) (i : TypeInfo) (z : Value) (ht : P.underlying t = some (.slice e)) (hi : P.info? e = some i) (hz : i.zero = some z)
    (kl kc : IntKind) (n c : Nat) (hnc : n ≤ c) (hbytes : i.bytes * c ≤ 281474976710656) (h63 : c ≤ 9223372036854775807) (w : World) :
    (Instr.makeSlice t (.int kl (n : Int)) (.int kc (c : Int))).run P w = .ok (.slice (some ⟨w.heap.size, 0, none⟩) n c) (w.alloc (.cells (madeCells z.cells (c * i.size)) e)) := by
  have hb : (i.bytes : Int) * (c : Int) ≤ 281474976710656 := by
    have h : ((i.bytes * c : Nat) : Int) ≤ 281474976710656 := by omega
    rwa [Int.natCast_mul] at h
  have hr := run_make (P := P) w t e i z ht hi hz kl kc n c (by omega) (by omega) hb (by omega)
  simp only [Int.toNat_natCast] at hr
  exact hr

/-- a row that is being filled: of its n places the first hold the terms -/
def Fill (w : World) (g n : Nat) (ts : List Tm) : Prop :=
  ∃ cur f, w.heap[g]? = some (.cells cur 48 (0, 0)) ∧ cur.size = n * 3 ∧ OwX w ts (cur.toList.take (ts.length * 3)) f ∧ f.Nodup ∧ ∀ b, b ∈ f → g < b
theorem Fill.start {w : World} {n : Nat} {cur : Array Value} (h : cur.size = n * 3) : Fill (w.alloc (.cells cur 48)) w.heap.size n [] :=
  ⟨cur, [], heap_alloc_new w _, h, by simpa using OwX.nil, List.nodup_nil, by simp⟩
theorem Fill.below {w w' : World} {g n : Nat} {ts : List Tm} (h : Fill w g n ts) (hb : Below w.heap.size w w') : Fill w' g n ts := by
  obtain ⟨cur, f, h1, h2, h3, h4, h5⟩ := h
  exact ⟨cur, f, (hb.block g (Array.getElem?_eq_some_iff.1 h1).1).trans h1, h2, h3.frame fun b hbf => hb.block b (h3.lt b hbf), h4, h5⟩
theorem Fill.lt {w : World} {g n : Nat} {ts : List Tm} (h : Fill w g n ts) : g < w.heap.size := by
  obtain ⟨cur, f, h1, _⟩ := h
  exact (Array.getElem?_eq_some_iff.1 h1).1
theorem Fill.cell {w : World} {g n : Nat} {ts : List Tm} (h : Fill w g n ts) {j : Nat} (hj : j < n * 3) : ∃ u, w.cell? ⟨g, j, none⟩ = some u := by
  obtain ⟨cur, f, h1, h2, _⟩ := h
  exact ⟨cur[j]'(by omega), by rw [cell_of_row w g j cur _ (0, 0) h1]; exact Array.getElem?_eq_getElem (by omega)⟩
theorem Fill.frozen {w : World} {g n : Nat} {ts : List Tm} (h : Fill w g n ts) (j : Nat) : w.frozen? ⟨g, j, none⟩ = false := by
  obtain ⟨cur, f, h1, h2, _⟩ := h
  simp [World.frozen?, h1]
/-- one place more is filled -/
theorem Fill.set_ {w0 w : World} {g n : Nat} {ts : List Tm} (h : Fill w0 g n ts) (hb : Below w0.heap.size w0 w) {k m : Int} {ks : List Tm} {A : Option Addr} {c j : Nat} (hfr : Fresh w0.heap.size w A ks) (hl : ks.length ≤ 9223372036854775807) (hj : ts.length = j) (hn : j < n) :
    Fill (((w.setCell ⟨g, j * 3, none⟩ (.int .i64 k)).setCell ⟨g, j * 3 + 1, none⟩ (.int .i64 m)).setCell ⟨g, j * 3 + 2, none⟩ (.slice A ks.length c)) g n (ts ++ [.mk k m ks]) := by
  subst hj
  obtain ⟨cur, f, h1, h2, h3, h4, h5⟩ := h
  obtain ⟨fp, k1, k2, k3⟩ := hfr
  have hg0 := (Array.getElem?_eq_some_iff.1 h1).1
  have hg : w.heap[g]? = some (.cells cur 48 (0, 0)) := (hb.block g hg0).trans h1
  have far : ∀ b, b ≠ g → (((w.setCell ⟨g, ts.length * 3, none⟩ (.int .i64 k)).setCell ⟨g, ts.length * 3 + 1, none⟩ (.int .i64 m)).setCell ⟨g, ts.length * 3 + 2, none⟩ (.slice A ks.length c)).heap[b]? = w.heap[b]? := fun b hbg => by
    rw [Below.heap_setCell _ _ _ _ hbg, Below.heap_setCell _ _ _ _ hbg, Below.heap_setCell _ _ _ _ hbg]
  refine ⟨((cur.setIfInBounds (ts.length * 3) (.int .i64 k)).setIfInBounds (ts.length * 3 + 1) (.int .i64 m)).setIfInBounds (ts.length * 3 + 2) (.slice A ks.length c), f ++ fp, ?_, by simpa using h2, ?_, ?_, ?_⟩
  · simp [World.setCell, Array.getElem?_modify, hg]
  · have e : ((((cur.setIfInBounds (ts.length * 3) (.int .i64 k)).setIfInBounds (ts.length * 3 + 1) (.int .i64 m)).setIfInBounds (ts.length * 3 + 2) (.slice A ks.length c)).toList.take ((ts ++ [Tm.mk k m ks]).length * 3)) =
        cur.toList.take (ts.length * 3) ++ [.int .i64 k, .int .i64 m, .slice A ks.length c] := by
      have hlen : cur.toList.length = n * 3 := by simpa using h2
      simp only [Array.toList_setIfInBounds, List.length_append, List.length_singleton]
      rw [show (ts.length + 1) * 3 = ts.length * 3 + 2 + 1 from by omega]
      rw [List.take_succ_eq_append_getElem (by simp; omega), List.take_set_of_le (by omega), List.take_succ_eq_append_getElem (by simp; omega), List.take_set_of_le (by omega), List.take_succ_eq_append_getElem (by simp; omega), List.take_set_of_le (by omega)]
      simp
    rw [e]
    refine (h3.frame fun b hbf => ?_).append (OwX.one (OwT.iff.2 ⟨A, c, rfl, hl, k1.frame fun b hbf => far b ?_⟩))
    · rw [far b (by have := h5 b hbf; omega)]
      exact hb.block b (h3.lt b hbf)
    · have := k3 b hbf; omega
  · refine List.nodup_append.2 ⟨h4, k2, fun x hx y hy e => ?_⟩
    have := h3.lt x hx; have := k3 y hy; omega
  · intro b hbm
    rcases List.mem_append.1 hbm with hbm | hbm
    · exact h5 b hbm
    · have := k3 b hbm; omega
theorem Fill.fresh {w : World} {g n : Nat} {ts : List Tm} (h : Fill w g n ts) {B : Nat} (hB : B ≤ g) : Fresh B w (some ⟨g, 0, none⟩) ts := by
  obtain ⟨cur, f, h1, h2, h3, h4, h5⟩ := h
  by_cases hts : ts = []
  · subst hts; exact Fresh.nil
  · refine ⟨g :: f, .inr ⟨g, cur, _, f, hts, rfl, h1, rfl, h3⟩, List.nodup_cons.2 ⟨fun hm => by have := h5 g hm; omega, h4⟩, fun b hb => ?_⟩
    rcases List.mem_cons.1 hb with rfl | hb
    · exact hB
    · have := h5 b hb; omega

/-- a slice value that grows: the terms lie in blocks of their own, all from B on -/
def Part (B : Nat) (w : World) (v : Value) (ts : List Tm) : Prop :=
  ∃ xs f, w.ownsRow B 48 3 v ts.length xs ∧ OwX w ts xs f ∧ f.Nodup ∧ (∀ b, b ∈ f → B ≤ b) ∧ ∀ g, v.ownBlock = some g → g ∉ f
theorem Part.nil {B : Nat} {w : World} : Part B w (.slice none 0 0) [] :=
  ⟨[], [], World.ownsRow_nil _ _ _ _, OwX.nil, List.nodup_nil, by simp, by simp⟩
theorem Part.keep {B : Nat} {w w' : World} {v : Value} {ts : List Tm} (h : Part B w v ts) (hk : ∀ b, B ≤ b → b < w.heap.size → w'.heap[b]? = w.heap[b]?) : Part B w' v ts := by
  obtain ⟨xs, f, h1, h2, h3, h4, h5⟩ := h
  refine ⟨xs, f, ⟨h1.1, ?_⟩, h2.frame fun b hb => hk b (h4 b hb) (h2.lt b hb), h3, h4, h5⟩
  rcases h1.2 with hn | ⟨g, cap, cur, rfl, hb, hg, r⟩
  · exact .inl hn
  · exact .inr ⟨g, cap, cur, rfl, hb, (hk g hb (Array.getElem?_eq_some_iff.1 hg).1).trans hg, r⟩
theorem Part.below {B : Nat} {w w' : World} {v : Value} {ts : List Tm} (h : Part B w v ts) (hk : Below w.heap.size w w') : Part B w' v ts := h.keep fun b _ hb => hk.block b hb
theorem Part.alloc {B : Nat} {w : World} {v : Value} {ts : List Tm} (h : Part B w v ts) (o : Obj) : Part B (w.alloc o) v ts := h.keep fun b _ hb => Below.heap_alloc w o b hb
theorem Part.drew {B : Nat} {w : World} {v : Value} {ts : List Tm} (h : Part B w v ts) : Part B w.drew v ts := h.keep fun _ _ _ => rfl
theorem Part.setCell {B : Nat} {w : World} {v : Value} {ts : List Tm} (h : Part B w v ts) {a : Addr} (ha : a.block < B) (u : Value) : Part B (w.setCell a u) v ts :=
  h.keep fun b hb _ => Below.heap_setCell w a u b (by omega)
/-- at the end: the slice's shape, and that its terms lie in blocks of their own -/
theorem Part.fresh {B : Nat} {w : World} {v : Value} {ts : List Tm} (h : Part B w v ts) : ∃ A c, v = .slice A ts.length c ∧ Fresh B w A ts := by
  obtain ⟨xs, f, h1, h2, h3, h4, h5⟩ := h
  rcases h1.2 with ⟨rfl, h0⟩ | ⟨g, cap, cur, rfl, hb, hg, _, _, _, htk⟩
  · have : ts = [] := List.eq_nil_of_length_eq_zero h0
    subst this
    exact ⟨none, 0, rfl, Fresh.nil⟩
  · refine ⟨_, _, rfl, ?_⟩
    by_cases hts : ts = []
    · subst hts; exact Fresh.nil
    · refine ⟨g :: f, .inr ⟨g, cur, _, f, hts, rfl, hg, rfl, by rw [htk]; exact h2⟩, List.nodup_cons.2 ⟨h5 g rfl, h3⟩, ?_⟩
      intro b hb'
      rcases List.mem_cons.1 hb' with rfl | hb'
      · exact hb
      · exact h4 b hb'
theorem Part.shape {B : Nat} {w : World} {v : Value} {ts : List Tm} (h : Part B w v ts) : ∃ A c, v = .slice A ts.length c := by
  obtain ⟨A, c, hv, _⟩ := h.fresh; exact ⟨A, c, hv⟩
end Go.Proofs.YtjpgdfndlmipcaaDoor

namespace Go.Proofs.YtjpgdfndlmipcaaDoor
open Go.RowKit
set_option linter.unusedSimpArgs false
set_option linter.unusedVariables false

theorem grownBy_alloc_ {a w : World} {row : Option Nat} (h : a.grownBy w row) (o : Obj) : a.grownBy (w.alloc o) row :=
  ⟨h.os, h.tape, h.output, Nat.le_trans h.size (by simp), fun i hi hne => (Below.heap_alloc w o i (Nat.lt_of_lt_of_le hi h.size)).trans (h.block i hi hne)⟩
theorem grownBy_drew {a w : World} {row : Option Nat} (h : a.grownBy w row) : a.grownBy w.drew row := ⟨h.os, h.tape, h.output, h.size, h.block⟩
theorem grownBy_trans {a w w' : World} {row : Option Nat} (h : a.grownBy w row) (k : w.grownBy w' row) : a.grownBy w' row :=
  ⟨k.os.trans h.os, k.tape.trans h.tape, k.output.trans h.output, Nat.le_trans h.size k.size, fun i hi hne => (k.block i (Nat.lt_of_lt_of_le hi h.size) hne).trans (h.block i hi hne)⟩
theorem grownBy_below {a w w' : World} {row : Option Nat} (h : a.grownBy w row) (k : Below w.heap.size w w') : a.grownBy w' row :=
  ⟨k.os.trans h.os, k.tape.trans h.tape, k.output.trans h.output, Nat.le_trans h.size k.size, fun i hi hne => (k.block i (Nat.lt_of_lt_of_le hi h.size)).trans (h.block i hi hne)⟩
theorem grownBy_cell {a w : World} {row : Option Nat} (h : a.grownBy w row) {b o : Nat} {u : Value} (hc : a.cell? ⟨b, o, none⟩ = some u) (hne : row ≠ some b) : w.cell? ⟨b, o, none⟩ = some u :=
  h.cell hc (fun e => hne e.symm)
theorem grownBy_frozen {a w : World} {row : Option Nat} (h : a.grownBy w row) {b o : Nat} {u : Value} (hc : a.cell? ⟨b, o, none⟩ = some u) (hz : a.frozen? ⟨b, o, none⟩ = false) (hne : row ≠ some b) : w.frozen? ⟨b, o, none⟩ = false :=
  (World.frozen?_of_block (h.block b (World.block_lt_of_cell? a _ hc) (fun e => hne e.symm))).trans hz
theorem Part.other {B : Nat} {w : World} {v : Value} {ts : List Tm} (h : Part B w v ts) {b : Nat} (hb : b < B ∨ w.heap.size ≤ b) : v.ownBlock ≠ some b := by
  obtain ⟨_, _, h1, _⟩ := h
  intro e
  have := h1.lt b e
  omega

theorem tm_info : (Tryd.prog.info? 48).map (fun i => (i.zero, i.size, i.bytes)) = some (some (.agg #[.int .i64 0, .int .i64 0, .slice none 0 0]), 3, 40) := by kernel_rfl

/-- make of so many terms -/
theorem mk_terms (n : Nat) (hn : n ≤ 1099511627776) (W : World) : (Instr.makeSlice 46 (.int .i64 (n : Int)) (.int .i64 (n : Int))).run Tryd.prog W = .ok (.slice (some ⟨W.heap.size, 0, none⟩) n n)
    (W.alloc (.cells (madeCells #[.int .i64 0, .int .i64 0, .slice none 0 0] (n * 3)) 48)) := by
  obtain ⟨i0, hi, hz0, hz1, hz2⟩ := info_parts tm_info
  have h := run_make_rowN (P := Tryd.prog) 46 48 i0 _ Tryd.underlying46 hi hz0 .i64 .i64 n n (Nat.le_refl _) (by rw [hz2]; omega) (by omega) W
  rw [hz1] at h
  exact h
theorem mk_fill (n : Nat) (W : World) : Fill (W.alloc (.cells (madeCells #[.int .i64 0, .int .i64 0, .slice none 0 0] (n * 3)) 48)) W.heap.size n [] := Fill.start (by simp [madeCells])

/-- what a call gives back: a term in blocks of its own · terms in blocks of their own · a term that is somewhere -/
def GotT (w : World) (k n : Int) (ks : List Tm) (e : Ending) (w' : World) : Prop :=
  ∃ A c, e = .returned (.agg #[.int .i64 k, .int .i64 n, .slice A ks.length c]) ∧ ks.length ≤ 9223372036854775807 ∧ Fresh w.heap.size w' A ks ∧ Below w.heap.size w w'
def GotL (w : World) (ts : List Tm) (e : Ending) (w' : World) : Prop :=
  ∃ A c, e = .returned (.slice A ts.length c) ∧ Fresh w.heap.size w' A ts ∧ Below w.heap.size w w'

/-- what append of one term does, at a world in which the term's three cells lie at an address -/
theorem run_append_tm {B : Nat} {w0 w : World} {v : Value} {ts : List Tm} {t : Tm} {x1 : List Value} {f1 : List Nat} (hp : Part B w0 v ts) (hb : Below w0.heap.size w0 w) (hB : B ≤ w0.heap.size)
    (ht : OwT w t x1 f1) (hn : f1.Nodup) (hf : ∀ b, b ∈ f1 → w0.heap.size ≤ b) (hlen : ts.length ≤ 1099511627776) (ad : Addr) (c : Nat) (hc : ∀ j u, x1[j]? = some u → w.cell? (ad.add j) = some u) (ty : TypeId) :
    ∃ v' w', (Builtin.append_ #[46, 46] ty #[v, .slice (some ad) 1 c]).run Tryd.prog w = .ok v' w' ∧ Part B w' v' (ts ++ [t]) ∧ Below B w w' ∧ w.grownBy w' v.ownBlock := by
  obtain ⟨i, hi, hz, hz1, hz2⟩ := info_parts tm_info
  have hsz := hb.size
  obtain ⟨xs, f, h1, h2, h3, h4, h5⟩ := hp
  have hlt : ∀ g, v.ownBlock = some g → g < w0.heap.size := fun g hg => (h1.lt g hg).2
  have hge : ∀ g, v.ownBlock = some g → B ≤ g := fun g hg => (h1.lt g hg).1
  have hfl := h2.lt
  have k1 : w.ownsRow B 48 3 v ts.length xs := by
    refine ⟨h1.1, ?_⟩
    rcases h1.2 with hn | ⟨g, cap, cur, rfl, hb', hg, r⟩
    · exact .inl hn
    · exact .inr ⟨g, cap, cur, rfl, hb', (hb.block g (hlt g rfl)).trans hg, r⟩
  have k2 : OwX w ts xs f := h2.frame fun b hbf => hb.block b (hfl b hbf)
  obtain ⟨v', w', hrun, hown, hg, _, hat⟩ := run_append_own_at (P := Tryd.prog) w B 46 ty 48 i _ 3 40 Tryd.underlying46 hi hz hz1 hz2 rfl (by omega) v ts.length xs k1 ad 1 c x1 ht.length hc ht.oneCell
    (by simp only [maxLen]; omega) (by omega) (by omega)
  have e1 : ∀ b, b ∈ f → w'.heap[b]? = w.heap[b]? := fun b hbf => hg.block b (by have := hfl b hbf; omega) (fun e => h5 b e.symm hbf)
  have e2 : ∀ b, b ∈ f1 → w'.heap[b]? = w.heap[b]? := fun b hbf => hg.block b (ht.lt b hbf) (fun e => by have := hlt b e.symm; have := hf b hbf; omega)
  refine ⟨v', w', hrun, ⟨xs ++ x1, f ++ f1, by simpa using hown, (k2.frame e1).append (OwX.one (ht.frame e2)), ?_, ?_, ?_⟩, ⟨hg.os, hg.tape, hg.output, hg.size, fun k hk => hg.block k (by omega) (fun e => by have := hge k e.symm; omega)⟩, hg⟩
  · refine List.nodup_append.2 ⟨h3, hn, fun x hx y hy e => ?_⟩
    have := hfl x hx; have := hf y hy; omega
  · intro b hbm
    rcases List.mem_append.1 hbm with hbm | hbm
    · exact h4 b hbm
    · have := hf b hbm; omega
  · intro g hgo hgm
    rcases hat with e | e <;> rw [e] at hgo
    · rcases List.mem_append.1 hgm with hgm | hgm
      · exact h5 g hgo hgm
      · have := hlt g hgo; have := hf g hgm; omega
    · injection hgo with hgo
      subst hgo
      rcases List.mem_append.1 hgm with hgm | hgm
      · have := hfl _ hgm; omega
      · have := ht.lt _ hgm; omega

section
variable {B : Nat} {w0 w1 : World} {v : Value} {ts : List Tm} {k n : Int} {ks : List Tm} {A : Option Addr} {c : Nat}
/-- the same behind the one-element slice that the translation lays for the term -/
theorem run_append_built (hp : Part B w0 v ts) (hb : Below w0.heap.size w0 w1) (hB : B ≤ w0.heap.size) (hfr : Fresh w0.heap.size w1 A ks) (hl : ks.length ≤ 9223372036854775807) (hlen : ts.length ≤ 1099511627776) (ty : TypeId) :
    ∃ v' w', (Builtin.append_ #[46, 46] ty #[v, .slice (some ⟨w1.heap.size, 0, none⟩) 1 1]).run Tryd.prog (w1.alloc (.cells #[.int .i64 k, .int .i64 n, .slice A ks.length c] 48)) = .ok v' w' ∧
      Part B w' v' (ts ++ [.mk k n ks]) ∧ Below B w1 w' ∧ w1.grownBy w' v.ownBlock := by
  obtain ⟨fp, h1, h2, h3⟩ := (hfr.alloc (.cells #[.int .i64 k, .int .i64 n, .slice A ks.length c] 48))
  have hs := hb.size
  obtain ⟨v', w', r1, r2, r3, r4⟩ := run_append_tm (t := .mk k n ks) (x1 := [.int .i64 k, .int .i64 n, .slice A ks.length c]) (f1 := fp) (c := 1) (ty := ty) hp (hb.alloc hs _) hB (OwT.iff.2 ⟨A, c, rfl, hl, h1⟩) h2 h3 hlen ⟨w1.heap.size, 0, none⟩ (by
    intro j u hj
    match j, hj with
    | 0, hj => simp only [List.getElem?_cons_zero, Option.some.injEq] at hj; subst hj; simp [Addr.add]
    | 1, hj => simp only [List.getElem?_cons_succ, List.getElem?_cons_zero, Option.some.injEq] at hj; subst hj; simp [Addr.add]
    | 2, hj => simp only [List.getElem?_cons_succ, List.getElem?_cons_zero, Option.some.injEq] at hj; subst hj; simp [Addr.add])
  exact ⟨v', w', r1, r2, ((Below.refl _ _).alloc (by omega) _).trans r3, grownBy_trans (grownBy_alloc_ (World.grownBy.refl _ _) _) r4⟩

/-- in a region that draws its order -/
theorem step_append_built (hp : Part B w0 v ts) (hb : Below w0.heap.size w0 w1) (hB : B ≤ w0.heap.size) (hfr : Fresh w0.heap.size w1 A ks) (hl : ks.length ≤ 9223372036854775807) {m : Nat} (hm : ts.length = m) (hlen : m ≤ 1099511627776)
    {ops : Array Oper} {o : Oper} {a : Act} {K : Act → World → Prop} {Q : Exit → Act → World → Prop} {E : Prop} (hgd : o.guard = none) (s x : Operand)
    (ho : o.op = .call { callee := .builtin .append, args := #[s, x], argTypes := #[46, 46] }) (hs : a.eval s = v) (hx : a.eval x = .slice (some ⟨w1.heap.size, 0, none⟩) 1 1)
    (h : ∀ A' c' w', Part B w' (.slice A' (m + 1) c') (ts ++ [.mk k n ks]) → Below B w1 w' → w1.grownBy w' v.ownBlock → K (a.put o.dst (.slice A' (m + 1) c')) w') :
    if Region.wanted o (yielded ops a.tmps) = true then Oper.wp Tryd.prog o a (w1.alloc (.cells #[.int .i64 k, .int .i64 n, .slice A ks.length c] 48)) K Q else E := by
  subst hm
  have hw : Region.wanted o (yielded ops a.tmps) = true := by simp [Region.wanted, hgd]
  rw [if_pos hw]
  obtain ⟨v', w', hrun, h2, h3, h4⟩ := run_append_built (k := k) (n := n) (c := c) hp hb hB hfr hl hlen o.type
  unfold Oper.wp execOp
  simp only [ho, resolve, invoke, builtin, Sem.run_bind, Sem.run_pure, Result.andThen_ok, List.map_toArray, List.map_cons, List.map_nil, hs, hx, hrun]
  obtain ⟨A', c', rfl⟩ := h2.shape
  rw [List.length_append] at h2 ⊢
  exact h A' c' w' h2 h3 h4
/-- in a plain region -/
theorem wpList_append_built (hp : Part B w0 v ts) (hb : Below w0.heap.size w0 w1) (hB : B ≤ w0.heap.size) (hfr : Fresh w0.heap.size w1 A ks) (hl : ks.length ≤ 9223372036854775807) {m : Nat} (hm : ts.length = m) (hlen : m ≤ 1099511627776)
    {ops : Array Oper} {rest : List Oper} {o : Oper} {a : Act} {Q : Exit → Act → World → Prop} (hgd : o.guard = none) (s x : Operand)
    (ho : o.op = .call { callee := .builtin .append, args := #[s, x], argTypes := #[46, 46] }) (hs : a.eval s = v) (hx : a.eval x = .slice (some ⟨w1.heap.size, 0, none⟩) 1 1)
    (h : ∀ A' c' w', Part B w' (.slice A' (m + 1) c') (ts ++ [.mk k n ks]) → Below B w1 w' → w1.grownBy w' v.ownBlock → wpList Tryd.prog ops Q rest (a.put o.dst (.slice A' (m + 1) c')) w') :
    wpList Tryd.prog ops Q (o :: rest) a (w1.alloc (.cells #[.int .i64 k, .int .i64 n, .slice A ks.length c] 48)) := by
  subst hm
  refine wpList_plain hgd fun K hK => ?_
  obtain ⟨v', w', hrun, h2, h3, h4⟩ := run_append_built (k := k) (n := n) (c := c) hp hb hB hfr hl hlen o.type
  unfold Oper.wp execOp
  simp only [ho, resolve, invoke, builtin, Sem.run_bind, Sem.run_pure, Result.andThen_ok, List.map_toArray, List.map_cons, List.map_nil, hs, hx, hrun]
  obtain ⟨A', c', rfl⟩ := h2.shape
  rw [List.length_append] at h2 ⊢
  exact hK _ _ (h A' c' w' h2 h3 h4)
end
end Go.Proofs.YtjpgdfndlmipcaaDoor

namespace Go.Proofs.YtjpgdfndlmipcaaDoor
open Go.RowKit
set_option linter.unusedSimpArgs false
set_option linter.unusedVariables false

/-- what append of one term does, at a world in which the term's three cells lie at an address -/
theorem run_append_tmG {B : Nat} {w0 w : World} {v : Value} {ts : List Tm} {t : Tm} {x1 : List Value} {f1 : List Nat} (hp : Part B w0 v ts) (hb : ∀ b, B ≤ b → b < w0.heap.size → w.heap[b]? = w0.heap[b]?) (hsz : w0.heap.size ≤ w.heap.size) (hB : B ≤ w0.heap.size)
    (ht : OwT w t x1 f1) (hn : f1.Nodup) (hf : ∀ b, b ∈ f1 → w0.heap.size ≤ b) (hlen : ts.length ≤ 1099511627776) (ad : Addr) (c : Nat) (hc : ∀ j u, x1[j]? = some u → w.cell? (ad.add j) = some u) (ty : TypeId) :
    ∃ v' w', (Builtin.append_ #[46, 46] ty #[v, .slice (some ad) 1 c]).run Tryd.prog w = .ok v' w' ∧ Part B w' v' (ts ++ [t]) ∧ Below B w w' ∧ w.grownBy w' v.ownBlock := by
  obtain ⟨i, hi, hz, hz1, hz2⟩ := info_parts tm_info
  obtain ⟨xs, f, h1, h2, h3, h4, h5⟩ := hp
  have hlt : ∀ g, v.ownBlock = some g → g < w0.heap.size := fun g hg => (h1.lt g hg).2
  have hge : ∀ g, v.ownBlock = some g → B ≤ g := fun g hg => (h1.lt g hg).1
  have hfl := h2.lt
  have k1 : w.ownsRow B 48 3 v ts.length xs := by
    refine ⟨h1.1, ?_⟩
    rcases h1.2 with hn | ⟨g, cap, cur, rfl, hb', hg, r⟩
    · exact .inl hn
    · exact .inr ⟨g, cap, cur, rfl, hb', (hb g hb' (hlt g rfl)).trans hg, r⟩
  have k2 : OwX w ts xs f := h2.frame fun b hbf => hb b (h4 b hbf) (hfl b hbf)
  obtain ⟨v', w', hrun, hown, hg, _, hat⟩ := run_append_own_at (P := Tryd.prog) w B 46 ty 48 i _ 3 40 Tryd.underlying46 hi hz hz1 hz2 rfl (by omega) v ts.length xs k1 ad 1 c x1 ht.length hc ht.oneCell
    (by simp only [maxLen]; omega) (by omega) (by omega)
  have e1 : ∀ b, b ∈ f → w'.heap[b]? = w.heap[b]? := fun b hbf => hg.block b (by have := hfl b hbf; omega) (fun e => h5 b e.symm hbf)
  have e2 : ∀ b, b ∈ f1 → w'.heap[b]? = w.heap[b]? := fun b hbf => hg.block b (ht.lt b hbf) (fun e => by have := hlt b e.symm; have := hf b hbf; omega)
  refine ⟨v', w', hrun, ⟨xs ++ x1, f ++ f1, by simpa using hown, (k2.frame e1).append (OwX.one (ht.frame e2)), ?_, ?_, ?_⟩, ⟨hg.os, hg.tape, hg.output, hg.size, fun k hk => hg.block k (by omega) (fun e => by have := hge k e.symm; omega)⟩, hg⟩
  · refine List.nodup_append.2 ⟨h3, hn, fun x hx y hy e => ?_⟩
    have := hfl x hx; have := hf y hy; omega
  · intro b hbm
    rcases List.mem_append.1 hbm with hbm | hbm
    · exact h4 b hbm
    · have := hf b hbm; omega
  · intro g hgo hgm
    rcases hat with e | e <;> rw [e] at hgo
    · rcases List.mem_append.1 hgm with hgm | hgm
      · exact h5 g hgo hgm
      · have := hlt g hgo; have := hf g hgm; omega
    · injection hgo with hgo
      subst hgo
      rcases List.mem_append.1 hgm with hgm | hgm
      · have := hfl _ hgm; omega
      · have := ht.lt _ hgm; omega

section
variable {B : Nat} {w0 w1 : World} {v : Value} {ts : List Tm} {k n : Int} {ks : List Tm} {A : Option Addr} {c : Nat}
/-- the same behind the one-element slice that the translation lays for the term -/
theorem run_append_builtG (hp : Part B w0 v ts) (hb : ∀ b, B ≤ b → b < w0.heap.size → w1.heap[b]? = w0.heap[b]?) (hs : w0.heap.size ≤ w1.heap.size) (hB : B ≤ w0.heap.size) (hfr : Fresh w0.heap.size w1 A ks) (hl : ks.length ≤ 9223372036854775807) (hlen : ts.length ≤ 1099511627776) (ty : TypeId) :
    ∃ v' w', (Builtin.append_ #[46, 46] ty #[v, .slice (some ⟨w1.heap.size, 0, none⟩) 1 1]).run Tryd.prog (w1.alloc (.cells #[.int .i64 k, .int .i64 n, .slice A ks.length c] 48)) = .ok v' w' ∧
      Part B w' v' (ts ++ [.mk k n ks]) ∧ Below B w1 w' ∧ w1.grownBy w' v.ownBlock := by
  obtain ⟨fp, h1, h2, h3⟩ := (hfr.alloc (.cells #[.int .i64 k, .int .i64 n, .slice A ks.length c] 48))
  obtain ⟨v', w', r1, r2, r3, r4⟩ := run_append_tmG (t := .mk k n ks) (x1 := [.int .i64 k, .int .i64 n, .slice A ks.length c]) (f1 := fp) (c := 1) (ty := ty) hp (fun b h1 h2 => (Below.heap_alloc w1 _ b (by omega)).trans (hb b h1 h2)) (by simp; omega) hB (OwT.iff.2 ⟨A, c, rfl, hl, h1⟩) h2 h3 hlen ⟨w1.heap.size, 0, none⟩ (by
    intro j u hj
    match j, hj with
    | 0, hj => simp only [List.getElem?_cons_zero, Option.some.injEq] at hj; subst hj; simp [Addr.add]
    | 1, hj => simp only [List.getElem?_cons_succ, List.getElem?_cons_zero, Option.some.injEq] at hj; subst hj; simp [Addr.add]
    | 2, hj => simp only [List.getElem?_cons_succ, List.getElem?_cons_zero, Option.some.injEq] at hj; subst hj; simp [Addr.add])
  exact ⟨v', w', r1, r2, ((Below.refl _ _).alloc (by omega) _).trans r3, grownBy_trans (grownBy_alloc_ (World.grownBy.refl _ _) _) r4⟩

/-- in a plain region -/
theorem wpList_append_builtG (hp : Part B w0 v ts) (hb : ∀ b, B ≤ b → b < w0.heap.size → w1.heap[b]? = w0.heap[b]?) (hs : w0.heap.size ≤ w1.heap.size) (hB : B ≤ w0.heap.size) (hfr : Fresh w0.heap.size w1 A ks) (hl : ks.length ≤ 9223372036854775807) {m : Nat} (hm : ts.length = m) (hlen : m ≤ 1099511627776)
    {ops : Array Oper} {rest : List Oper} {o : Oper} {a : Act} {Q : Exit → Act → World → Prop} (hgd : o.guard = none) (s x : Operand)
    (ho : o.op = .call { callee := .builtin .append, args := #[s, x], argTypes := #[46, 46] }) (hse : a.eval s = v) (hx : a.eval x = .slice (some ⟨w1.heap.size, 0, none⟩) 1 1)
    (h : ∀ A' c' w', Part B w' (.slice A' (m + 1) c') (ts ++ [.mk k n ks]) → Below B w1 w' → w1.grownBy w' v.ownBlock → wpList Tryd.prog ops Q rest (a.put o.dst (.slice A' (m + 1) c')) w') :
    wpList Tryd.prog ops Q (o :: rest) a (w1.alloc (.cells #[.int .i64 k, .int .i64 n, .slice A ks.length c] 48)) := by
  subst hm
  refine wpList_plain hgd fun K hK => ?_
  obtain ⟨v', w', hrun, h2, h3, h4⟩ := run_append_builtG (k := k) (n := n) (c := c) hp hb hs hB hfr hl hlen o.type
  unfold Oper.wp execOp
  simp only [ho, resolve, invoke, builtin, Sem.run_bind, Sem.run_pure, Result.andThen_ok, List.map_toArray, List.map_cons, List.map_nil, hse, hx, hrun]
  obtain ⟨A', c', rfl⟩ := h2.shape
  rw [List.length_append] at h2 ⊢
  exact hK _ _ (h A' c' w' h2 h3 h4)
end
end Go.Proofs.YtjpgdfndlmipcaaDoor

namespace Go.Proofs.YtjpgdfndlmipcaaDoor
open Go.RowKit
set_option linter.unusedSimpArgs false
set_option linter.unusedVariables false

/-- how many operands a kind has -/
def arity (k : Int) : Int :=
  if k = 1 then 0 else if k = 2 then 0 else if k = 6 then 0 else if k = 7 then 0 else if k = 8 then 1 else if k = 11 then 1 else if k = 15 then 1 else if k = 16 then 1 else
  if k = 3 then 2 else if k = 4 then 2 else if k = 5 then 2 else if k = 13 then 2 else if k = 10 then 3 else if k = 12 then 3 else if k = 14 then 3 else if k = 9 then 4 else -1
/-- the greatest N of a kind -/
def mostN (k : Int) : Int := if k = 1 then 20 else if k = 2 then 3 else 0

set_option maxHeartbeats 400000 in
theorem within_any (n lo hi : Int) (w : World) :
    Calls Tryd.prog 37 #[.int .i64 n, .int .i64 lo, .int .i64 hi] w fun e w' => e = .returned (.bool (decide (lo ≤ n) && decide (n ≤ hi))) ∧ w = w' := by
  go_enter Tryd.func37, Tryd.ntmps37
  go_wp2
  all_goals go_ret
  all_goals refine ⟨ret_bool ?_, rfl⟩
  · have h : lo ≤ n := by assumption
    simp [h]
  · have h : n < lo := by assumption
    simp [show ¬ lo ≤ n from by omega]

set_option maxRecDepth 100000 in
set_option maxHeartbeats 1000000 in
theorem l1Kids_any (k : Int) (w : World) : Calls Tryd.prog 66 #[.int .i64 k] w fun e w' => e = .returned (.int .i64 (arity k)) ∧ w = w' := by
  go_enter Tryd.func66, Tryd.ntmps66
  go_wp2
  all_goals go_ret
  all_goals refine ⟨ret_int ?_, rfl⟩
  all_goals simp_all [arity]

set_option maxHeartbeats 400000 in
theorem l1Most_any (k : Int) (w : World) : Calls Tryd.prog 65 #[.int .i64 k] w fun e w' => e = .returned (.int .i64 (mostN k)) ∧ w = w' := by
  go_enter Tryd.func65, Tryd.ntmps65
  go_wp2
  all_goals go_ret
  all_goals refine ⟨ret_int ?_, rfl⟩
  all_goals simp_all [mostN]
end Go.Proofs.YtjpgdfndlmipcaaDoor

namespace Go.Proofs.YtjpgdfndlmipcaaDoor
open Go.RowKit
set_option linter.unusedSimpArgs false
set_option linter.unusedVariables false

/-- kinds that bind in their second operand -/
def binds (k : Int) : Bool := k == 3 || k == 4 || k == 13
/-- how many variables the operand at a place lies under -/
def under (k : Int) (i : Int) : Int := if i = 1 ∧ binds k = true then 1 else 0
theorem under_le (k i : Int) : 0 ≤ under k i ∧ under k i ≤ 1 := by unfold under; split <;> omega

end Go.Proofs.YtjpgdfndlmipcaaDoor

namespace Go.Proofs.YtjpgdfndlmipcaaDoor
open Go.RowKit
set_option linter.unusedSimpArgs false
set_option linter.unusedVariables false

/-- well formed, down to a depth -/
def shape : Nat → Tm → Bool
  | 0, _ => false
  | d + 1, .mk k n ks => arity k == (ks.length : Int) && decide (0 ≤ n) && decide (n ≤ mostN k) && ks.all (shape d)

theorem shape_split (d : Nat) (k n : Int) (ks : List Tm) : shape (d + 1) (.mk k n ks) = true ↔ arity k = (ks.length : Int) ∧ 0 ≤ n ∧ n ≤ mostN k ∧ ∀ t, t ∈ ks → shape d t = true := by
  simp only [shape, Bool.and_eq_true, beq_iff_eq, decide_eq_true_eq, List.all_eq_true, and_assoc]
theorem shape_no (d : Nat) (k n : Int) (ks : List Tm) (h : ¬ (arity k = (ks.length : Int) ∧ 0 ≤ n ∧ n ≤ mostN k)) : shape (d + 1) (.mk k n ks) = false := by
  cases e : shape (d + 1) (.mk k n ks) with
  | false => rfl
  | true => have := (shape_split d k n ks).1 e; exact absurd ⟨this.1, this.2.1, this.2.2.1⟩ h

set_option maxRecDepth 100000 in
set_option maxHeartbeats 1000000 in
theorem l1Shape_any (d : Nat) : ∀ (k n : Int) (ks : List Tm) (A : Option Addr) (c : Nat) (w : World), d ≤ 1000 → ks.length ≤ 9223372036854775807 → Rd w A 0 ks →
    Calls Tryd.prog 67 #[.agg #[.int .i64 k, .int .i64 n, .slice A ks.length c], .int .i64 d] w fun e w' => e = .returned (.bool (shape d (.mk k n ks))) ∧ Below w.heap.size w w' := by
  induction d with
  | zero =>
    intro k n ks A c w hd hl hr
    go_enter Tryd.func67, Tryd.ntmps67
    go_wp2_with fail
    refine name_world ?_
    intro wx hwx
    have hb0 : Below w.heap.size w wx := by rw [hwx]; exact (Below.refl _ _).alloc (Nat.le_refl _) _
    clear hwx
    refine wp_region_class (fun w' => Below wx.heap.size wx w') (by kernel_rfl) (by kernel_rfl) (Below.refl _ _).drew ?_
    repeat (first | ((refine quiet_skip (a' := ?_) ?_ ?_ ?_); (rotate_left); (· (simp [Region.wanted, yielded]; done)); (· (simp only [Act.put, List.setIfInBounds_toArray, List.set_cons_zero, List.set_cons_succ]; exact rfl))) | ((refine quiet_one (v := ?_) (a' := ?_) ?_ ?_ ?_ ?_); (rotate_left 2); (· (simp [Region.wanted, yielded]; done)); (· (intro w' hS'; go_simp; try (with_reducible rfl))); (· (simp only [Act.put, List.setIfInBounds_toArray, List.set_cons_zero, List.set_cons_succ]; exact rfl))))
    refine quiet_nil ?_
    intro w2 hb2
    go_wp2_with fail
    go_ret
    exact ⟨rfl, hb0.trans (hb2.mono hb0.size)⟩
  | succ d ih =>
    intro k n ks A c w hd hl hr
    have hz := hide (shape_split d k n ks)
    rw [show ((d + 1 : Nat) : Int) = (d : Int) + 1 from by omega]
    have q0 : decide ((d : Int) + 1 < 1) = false := by simp; omega
    by_cases h1 : arity k = (ks.length : Int)
    · have q1 : (arity k != (ks.length : Int)) = false := by simpa using h1
      by_cases h2 : 0 ≤ n
      · by_cases h3 : n ≤ mostN k
        · have H := hide (And.intro h1 (And.intro h2 h3))
          have q2 : decide (n < 0) = false := by simp; omega
          have q3 : decide (mostN k < n) = false := by simp; omega
          clear h1
          go_enter Tryd.func67, Tryd.ntmps67
          go_wp2_with fail
          refine name_world ?_
          intro wx hwx
          have hb0 : Below w.heap.size w wx := by rw [hwx]; exact (Below.refl _ _).alloc (Nat.le_refl _) _
          have hB : Blk wx w.heap.size #[.int .i64 k, .int .i64 n, .slice A ks.length c] := by rw [hwx]; exact Blk.new _ _ _
          have hrx : Rd wx A 0 ks := by rw [hwx]; exact hr.alloc _
          have r0 := hB.rule (i := 0) rfl
          have r1 := hB.rule (i := 1) rfl
          have r2 := hB.rule (i := 2) rfl
          clear hwx
          refine wp_region_class (fun w' => Below wx.heap.size wx w') (by kernel_rfl) (by kernel_rfl) (Below.refl _ _).drew ?_
          repeat (first | ((refine quiet_skip (a' := ?_) ?_ ?_ ?_); (rotate_left); (· (simp [Region.wanted, yielded]; done)); (· (simp only [Act.put, List.setIfInBounds_toArray, List.set_cons_zero, List.set_cons_succ]; exact rfl))) | ((refine quiet_one (v := ?_) (a' := ?_) ?_ ?_ ?_ ?_); (rotate_left 2); (· (simp [Region.wanted, yielded]; done)); (· (intro w' hS'; go_simp; try (with_reducible rfl))); (· (simp only [Act.put, List.setIfInBounds_toArray, List.set_cons_zero, List.set_cons_succ]; exact rfl))) | ((refine quiet_same (v := ?_) (a' := ?_) 66 ?_ ?_ ?_ ?_ ?_ ?_); (rotate_left 3); (· (simp [Region.wanted, yielded]; done)); (· (intro w' hS'; go_simp; try (with_reducible rfl))); (· (intro w' hS'; exact l1Kids_any _ _)); (· (simp only [Act.put, List.setIfInBounds_toArray, List.set_cons_zero, List.set_cons_succ]; exact rfl))) | ((refine quiet_same (v := ?_) (a' := ?_) 65 ?_ ?_ ?_ ?_ ?_ ?_); (rotate_left 3); (· (simp [Region.wanted, yielded]; done)); (· (intro w' hS'; go_simp; try (with_reducible rfl))); (· (intro w' hS'; exact l1Most_any _ _)); (· (simp only [Act.put, List.setIfInBounds_toArray, List.set_cons_zero, List.set_cons_succ]; exact rfl))))
          refine quiet_nil ?_
          intro w2 hb2
          replace hB := hB.keep hb2
          replace hrx := hrx.below hb2
          replace hb0 := hb0.trans (hb2.mono hb0.size)
          clear r0 r1 r2 hb2
          go_wp2_with fail
          go_loopw [5] (fun i wr => ∃ j : Nat, j ≤ ks.length ∧ i = .int .i64 j ∧ Hid (∀ t, t ∈ ks.take j → shape d t = true) ∧ Below w2.heap.size w2 wr) (fun i _ => ks.length - (intOf i).toNat)
          case atStart => exact ⟨0, Nat.zero_le _, rfl, hide (by simp), Below.refl _ _⟩
          case round =>
            obtain ⟨j, hj, rfl, hall, hb⟩ := hrel
            replace hB := hB.keep hb
            have c2 := hB.at_ (i := 2) rfl
            by_cases hlt : j < ks.length
            · obtain ⟨b, off, k1, n1, ks1, A1, c1, rfl, hkj, hc1, hc2, hc3, hl1, hr1⟩ := (hrx.below hb).at_ hlt
              have H3 := hide hkj
              clear hkj
              go_wp2_with (go_at_call 67; refine (ih k1 n1 ks1 A1 c1 _ (by omega) hl1 hr1).mono ?_; rintro e w3 ⟨rfl, hb3⟩)
              · go_ret
                have hne : (!shape d (.mk k1 n1 ks1)) = true := by assumption
                refine ⟨ret_bool ?_, hb0.trans ((hb.trans (hb3.mono hb.size)).mono hb0.size)⟩
                cases e : shape (d + 1) (.mk k n ks) with
                | false => rfl
                | true =>
                  have := (hz.out.1 e).2.2.2 ks[j] (List.getElem_mem hlt)
                  rw [H3.out] at this
                  rw [this] at hne
                  cases hne
              · have hne : (!shape d (.mk k1 n1 ks1)) = false := by assumption
                go_roundw
                case rel =>
                  refine ⟨j + 1, by omega, by go_num, hide ?_, hb.trans (hb3.mono hb.size)⟩
                  rw [List.take_succ_eq_append_getElem hlt, H3.out]
                  intro t ht
                  rcases List.mem_append.1 ht with ht | ht
                  · exact hall.out t ht
                  · simp only [List.mem_singleton] at ht
                    subst ht
                    simpa using hne
                case measure => simp [intOf]; omega
            · go_wp2_with fail
              go_ret
              have hjl : j = ks.length := by omega
              have hall' := hall.out
              rw [hjl, List.take_length] at hall'
              exact ⟨ret_bool (hz.out.2 ⟨H.out.1, H.out.2.1, H.out.2.2, hall'⟩).symm, hb0.trans (hb.mono hb0.size)⟩
        · have H := hide h3
          have q2 : decide (n < 0) = false := by simp; omega
          have q3 : decide (mostN k < n) = true := by simp; omega
          clear h1
          go_enter Tryd.func67, Tryd.ntmps67
          go_wp2_with fail
          refine name_world ?_
          intro wx hwx
          have hb0 : Below w.heap.size w wx := by rw [hwx]; exact (Below.refl _ _).alloc (Nat.le_refl _) _
          have hB : Blk wx w.heap.size #[.int .i64 k, .int .i64 n, .slice A ks.length c] := by rw [hwx]; exact Blk.new _ _ _
          have hrx : Rd wx A 0 ks := by rw [hwx]; exact hr.alloc _
          have r0 := hB.rule (i := 0) rfl
          have r1 := hB.rule (i := 1) rfl
          have r2 := hB.rule (i := 2) rfl
          clear hwx
          refine wp_region_class (fun w' => Below wx.heap.size wx w') (by kernel_rfl) (by kernel_rfl) (Below.refl _ _).drew ?_
          repeat (first | ((refine quiet_skip (a' := ?_) ?_ ?_ ?_); (rotate_left); (· (simp [Region.wanted, yielded]; done)); (· (simp only [Act.put, List.setIfInBounds_toArray, List.set_cons_zero, List.set_cons_succ]; exact rfl))) | ((refine quiet_one (v := ?_) (a' := ?_) ?_ ?_ ?_ ?_); (rotate_left 2); (· (simp [Region.wanted, yielded]; done)); (· (intro w' hS'; go_simp; try (with_reducible rfl))); (· (simp only [Act.put, List.setIfInBounds_toArray, List.set_cons_zero, List.set_cons_succ]; exact rfl))) | ((refine quiet_same (v := ?_) (a' := ?_) 66 ?_ ?_ ?_ ?_ ?_ ?_); (rotate_left 3); (· (simp [Region.wanted, yielded]; done)); (· (intro w' hS'; go_simp; try (with_reducible rfl))); (· (intro w' hS'; exact l1Kids_any _ _)); (· (simp only [Act.put, List.setIfInBounds_toArray, List.set_cons_zero, List.set_cons_succ]; exact rfl))) | ((refine quiet_same (v := ?_) (a' := ?_) 65 ?_ ?_ ?_ ?_ ?_ ?_); (rotate_left 3); (· (simp [Region.wanted, yielded]; done)); (· (intro w' hS'; go_simp; try (with_reducible rfl))); (· (intro w' hS'; exact l1Most_any _ _)); (· (simp only [Act.put, List.setIfInBounds_toArray, List.set_cons_zero, List.set_cons_succ]; exact rfl))))
          refine quiet_nil ?_
          intro w2 hb2
          replace hB := hB.keep hb2
          replace hrx := hrx.below hb2
          replace hb0 := hb0.trans (hb2.mono hb0.size)
          clear r0 r1 r2 hb2
          go_wp2_with fail
          go_ret
          exact ⟨ret_bool (shape_no _ _ _ _ (by have := H.out; omega)).symm, hb0⟩
      · have H := hide h2
        have q2 : decide (n < 0) = true := by simp; omega
        clear h1
        go_enter Tryd.func67, Tryd.ntmps67
        go_wp2_with fail
        refine name_world ?_
        intro wx hwx
        have hb0 : Below w.heap.size w wx := by rw [hwx]; exact (Below.refl _ _).alloc (Nat.le_refl _) _
        have hB : Blk wx w.heap.size #[.int .i64 k, .int .i64 n, .slice A ks.length c] := by rw [hwx]; exact Blk.new _ _ _
        have hrx : Rd wx A 0 ks := by rw [hwx]; exact hr.alloc _
        have r0 := hB.rule (i := 0) rfl
        have r1 := hB.rule (i := 1) rfl
        have r2 := hB.rule (i := 2) rfl
        clear hwx
        refine wp_region_class (fun w' => Below wx.heap.size wx w') (by kernel_rfl) (by kernel_rfl) (Below.refl _ _).drew ?_
        repeat (first | ((refine quiet_skip (a' := ?_) ?_ ?_ ?_); (rotate_left); (· (simp [Region.wanted, yielded]; done)); (· (simp only [Act.put, List.setIfInBounds_toArray, List.set_cons_zero, List.set_cons_succ]; exact rfl))) | ((refine quiet_one (v := ?_) (a' := ?_) ?_ ?_ ?_ ?_); (rotate_left 2); (· (simp [Region.wanted, yielded]; done)); (· (intro w' hS'; go_simp; try (with_reducible rfl))); (· (simp only [Act.put, List.setIfInBounds_toArray, List.set_cons_zero, List.set_cons_succ]; exact rfl))) | ((refine quiet_same (v := ?_) (a' := ?_) 66 ?_ ?_ ?_ ?_ ?_ ?_); (rotate_left 3); (· (simp [Region.wanted, yielded]; done)); (· (intro w' hS'; go_simp; try (with_reducible rfl))); (· (intro w' hS'; exact l1Kids_any _ _)); (· (simp only [Act.put, List.setIfInBounds_toArray, List.set_cons_zero, List.set_cons_succ]; exact rfl))) | ((refine quiet_same (v := ?_) (a' := ?_) 65 ?_ ?_ ?_ ?_ ?_ ?_); (rotate_left 3); (· (simp [Region.wanted, yielded]; done)); (· (intro w' hS'; go_simp; try (with_reducible rfl))); (· (intro w' hS'; exact l1Most_any _ _)); (· (simp only [Act.put, List.setIfInBounds_toArray, List.set_cons_zero, List.set_cons_succ]; exact rfl))))
        refine quiet_nil ?_
        intro w2 hb2
        replace hB := hB.keep hb2
        replace hrx := hrx.below hb2
        replace hb0 := hb0.trans (hb2.mono hb0.size)
        clear r0 r1 r2 hb2
        go_wp2_with fail
        go_ret
        exact ⟨ret_bool (shape_no _ _ _ _ (by have := H.out; omega)).symm, hb0⟩
    · have q1 : (arity k != (ks.length : Int)) = true := by simpa using h1
      have H := hide h1
      clear h1
      go_enter Tryd.func67, Tryd.ntmps67
      go_wp2_with fail
      refine name_world ?_
      intro wx hwx
      have hb0 : Below w.heap.size w wx := by rw [hwx]; exact (Below.refl _ _).alloc (Nat.le_refl _) _
      have hB : Blk wx w.heap.size #[.int .i64 k, .int .i64 n, .slice A ks.length c] := by rw [hwx]; exact Blk.new _ _ _
      have hrx : Rd wx A 0 ks := by rw [hwx]; exact hr.alloc _
      have r0 := hB.rule (i := 0) rfl
      have r1 := hB.rule (i := 1) rfl
      have r2 := hB.rule (i := 2) rfl
      clear hwx
      refine wp_region_class (fun w' => Below wx.heap.size wx w') (by kernel_rfl) (by kernel_rfl) (Below.refl _ _).drew ?_
      repeat (first | ((refine quiet_skip (a' := ?_) ?_ ?_ ?_); (rotate_left); (· (simp [Region.wanted, yielded]; done)); (· (simp only [Act.put, List.setIfInBounds_toArray, List.set_cons_zero, List.set_cons_succ]; exact rfl))) | ((refine quiet_one (v := ?_) (a' := ?_) ?_ ?_ ?_ ?_); (rotate_left 2); (· (simp [Region.wanted, yielded]; done)); (· (intro w' hS'; go_simp; try (with_reducible rfl))); (· (simp only [Act.put, List.setIfInBounds_toArray, List.set_cons_zero, List.set_cons_succ]; exact rfl))) | ((refine quiet_same (v := ?_) (a' := ?_) 66 ?_ ?_ ?_ ?_ ?_ ?_); (rotate_left 3); (· (simp [Region.wanted, yielded]; done)); (· (intro w' hS'; go_simp; try (with_reducible rfl))); (· (intro w' hS'; exact l1Kids_any _ _)); (· (simp only [Act.put, List.setIfInBounds_toArray, List.set_cons_zero, List.set_cons_succ]; exact rfl))) | ((refine quiet_same (v := ?_) (a' := ?_) 65 ?_ ?_ ?_ ?_ ?_ ?_); (rotate_left 3); (· (simp [Region.wanted, yielded]; done)); (· (intro w' hS'; go_simp; try (with_reducible rfl))); (· (intro w' hS'; exact l1Most_any _ _)); (· (simp only [Act.put, List.setIfInBounds_toArray, List.set_cons_zero, List.set_cons_succ]; exact rfl))))
      refine quiet_nil ?_
      intro w2 hb2
      replace hB := hB.keep hb2
      replace hrx := hrx.below hb2
      replace hb0 := hb0.trans (hb2.mono hb0.size)
      clear r0 r1 r2 hb2
      go_wp2_with fail
      go_ret
      exact ⟨ret_bool (shape_no _ _ _ _ (by have := H.out; omega)).symm, hb0⟩
end Go.Proofs.YtjpgdfndlmipcaaDoor

namespace Go.Proofs.YtjpgdfndlmipcaaDoor
open Go.RowKit
set_option linter.unusedSimpArgs false
set_option linter.unusedVariables false

mutual
/-- every variable replaced by what f says of it and of how many variables stand between -/
def chg (f : Int → Int → Tm) : Int → Tm → Tm
  | d, .mk k n ks => if k = 1 then f n d else .mk k n (chgs f k d 0 ks)
def chgs (f : Int → Int → Tm) : Int → Int → Nat → List Tm → List Tm
  | _, _, _, [] => []
  | k, d, i, t :: ts => chg f (d + under k i) t :: chgs f k d (i + 1) ts
end
mutual
/-- whether each replacement went well -/
def chgOk (ok : Int → Int → Bool) : Int → Tm → Bool
  | d, .mk k n ks => if k = 1 then ok n d else chgsOk ok k d 0 ks
def chgsOk (ok : Int → Int → Bool) : Int → Int → Nat → List Tm → Bool
  | _, _, _, [] => true
  | k, d, i, t :: ts => chgOk ok (d + under k i) t && chgsOk ok k d (i + 1) ts
end
theorem chgs_append (f : Int → Int → Tm) (k d : Int) (us : List Tm) : ∀ (ts : List Tm) (i : Nat), chgs f k d i (ts ++ us) = chgs f k d i ts ++ chgs f k d (i + ts.length) us
  | [], i => by simp [chgs]
  | t :: ts, i => by rw [List.cons_append, chgs, chgs, chgs_append f k d us ts (i + 1), List.cons_append, List.length_cons, show i + 1 + ts.length = i + (ts.length + 1) from by omega]
theorem chgs_length (f : Int → Int → Tm) (k d : Int) : ∀ (ts : List Tm) (i : Nat), (chgs f k d i ts).length = ts.length
  | [], i => by simp [chgs]
  | t :: ts, i => by rw [chgs, List.length_cons, List.length_cons, chgs_length f k d ts (i + 1)]
theorem chgsOk_append (ok : Int → Int → Bool) (k d : Int) (us : List Tm) : ∀ (ts : List Tm) (i : Nat), chgsOk ok k d i (ts ++ us) = (chgsOk ok k d i ts && chgsOk ok k d (i + ts.length) us)
  | [], i => by simp [chgsOk]
  | t :: ts, i => by rw [List.cons_append, chgsOk, chgsOk, chgsOk_append ok k d us ts (i + 1), List.length_cons, show i + 1 + ts.length = i + (ts.length + 1) from by omega, Bool.and_assoc]
theorem chgs_take (f : Int → Int → Tm) (k d : Int) {ks : List Tm} {j : Nat} (hj : j < ks.length) : chgs f k d 0 (ks.take (j + 1)) = chgs f k d 0 (ks.take j) ++ [chg f (d + under k j) ks[j]] := by
  rw [List.take_succ_eq_append_getElem hj, chgs_append, List.length_take, Nat.min_eq_left (Nat.le_of_lt hj), Nat.zero_add, chgs, chgs]
theorem chgsOk_take (ok : Int → Int → Bool) (k d : Int) {ks : List Tm} {j : Nat} (hj : j < ks.length) : chgsOk ok k d 0 (ks.take (j + 1)) = (chgsOk ok k d 0 (ks.take j) && chgOk ok (d + under k j) ks[j]) := by
  rw [List.take_succ_eq_append_getElem hj, chgsOk_append, List.length_take, Nat.min_eq_left (Nat.le_of_lt hj), Nat.zero_add, chgsOk, chgsOk, Bool.and_true]

theorem tm_eta (t : Tm) : ∃ k n ks, t = .mk k n ks := by cases t; exact ⟨_, _, _, rfl⟩
/-- a term handed back in new memory, a flag's block turned -/
def GotG (g : Nat) (w : World) (t : Tm) (b : Bool) (e : Ending) (w' : World) : Prop :=
  ∃ A c, e = .returned (.agg #[.int .i64 t.k, .int .i64 t.n, .slice A t.ks.length c]) ∧ t.ks.length ≤ 9223372036854775807 ∧ Fresh w.heap.size w' A t.ks ∧ Blk w' g #[.bool b] ∧ w.grownBy w' (some g)
theorem gotG_mk {g : Nat} {w : World} {k n : Int} {ks : List Tm} {b : Bool} {e : Ending} {w' : World} (h : GotG g w (.mk k n ks) b e w') :
    ∃ A c, e = .returned (.agg #[.int .i64 k, .int .i64 n, .slice A ks.length c]) ∧ ks.length ≤ 9223372036854775807 ∧ Fresh w.heap.size w' A ks ∧ Blk w' g #[.bool b] ∧ w.grownBy w' (some g) := h
theorem only_belowB {a w w' : World} {row : Option Nat} {B : Nat} (h : a.grownBy w row) (k : Below B w w') (hB : a.heap.size ≤ B) : a.grownBy w' row :=
  ⟨k.os.trans h.os, k.tape.trans h.tape, k.output.trans h.output, Nat.le_trans h.size k.size, fun i hi hne => (k.block i (by omega)).trans (h.block i hi hne)⟩
/-- what is asked of the function that is handed over -/
def FunOk (F : Nat) (caps : List Value) (W0 : World) (g : Nat) (f : Int → Int → Tm) (ok : Int → Int → Bool) : Prop :=
  ∀ (n d : Int) (w : World) (b : Bool), 0 ≤ n → n ≤ 20 → 0 ≤ d → d ≤ 60 → W0.grownBy w (some g) → Blk w g #[.bool b] → Calls Tryd.prog F (.int .i64 n :: .int .i64 d :: caps).toArray w (GotG g w (f n d) (b && ok n d))
theorem grown_trans {a w w' : World} {row : Option Nat} (h : a.grownBy w row) (k : w.grownBy w' row) : a.grownBy w' row := only_trans h k
theorem Blk.ruleG {wx : World} {g b : Nat} {cs : Array Value} (h : Blk wx b cs) (hb : b ≠ g) {i : Nat} {v : Value} (hi : cs[i]? = some v) : ∀ w' : World, wx.grownBy w' (some g) → w'.cell? ⟨b, i, none⟩ = some v :=
  fun _ hw => (h.grown hw (by simpa using hb)).at_ hi

theorem run_enter {F : Nat} {fn : Func} (hf : Tryd.prog.funcs[F]? = some fn) (h1 : (fn.name == "runtime.NumGoroutine") = false) (h2 : fn.body.isNone = false) (args : Array Value) (w : World) : (callFunc F args).run Tryd.prog w = .ok (.enter F args) w := by
  have h1' : fn.name ≠ "runtime.NumGoroutine" := by simpa using h1
  have h2' : fn.body ≠ none := by intro e; rw [e] at h2; cases h2
  simp [callFunc, go_sem, hf, h1', h2']

end Go.Proofs.YtjpgdfndlmipcaaDoor
