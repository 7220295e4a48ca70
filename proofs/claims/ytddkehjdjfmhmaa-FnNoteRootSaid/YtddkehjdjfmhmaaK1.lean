/-
 Contracts of the functions that the law reaches, and plain lemmas. No condition.
-/
import Derived.Test.YtddkehjdjfmhmaaRows
import Derived.WalkKit
import Derived.Maps.AppendAt
import Derived.Deep.AppendLies
import Derived.RegionTactic
import Derived.OwnWalk
import Derived.Laws.MakeOwn
namespace Go.Proofs.Ytddkehjdjfmhmaa
set_option linter.unusedSimpArgs false
set_option linter.unusedVariables false
open Go.RowKit
theorem hide {p : Prop} (h : p) : Hid p := h
theorem ret_int {k : IntKind} {a b : Int} (h : a = b) : Ending.returned (.int k a) = .returned (.int k b) := by rw [h]
theorem ret_bool {a b : Bool} (h : a = b) : Ending.returned (.bool a) = .returned (.bool b) := by rw [h]
inductive Tm where
 | mk (k n : Int) (ks : List Tm)
def Tm.k : Tm → Int | .mk k _ _ => k
def Tm.n : Tm → Int | .mk _ n _ => n
def Tm.ks : Tm → List Tm | .mk _ _ ks => ks
instance : Inhabited Tm := ⟨.mk 0 0 []⟩
theorem Tm.ind2 {p : Tm → Prop} {q : List Tm → Prop} (h1 : ∀ k n ks, q ks → p (.mk k n ks)) (h2 : q []) (h3 : ∀ t ts, p t → q ts → q (t :: ts)) : (∀ t, p t) ∧ (∀ ts, q ts) :=
 ⟨Tm.rec (motive_1 := p) (motive_2 := q) h1 h2 h3, Tm.rec_1 (motive_1 := p) (motive_2 := q) h1 h2 h3⟩
mutual
def Tm.size : Tm → Nat | .mk _ _ ks => sizes ks + 1
def sizes : List Tm → Nat | [] => 0 | t :: ts => t.size + sizes ts
end
theorem sizes_le {ts : List Tm} {t : Tm} (h : t ∈ ts) : t.size ≤ sizes ts := by
 induction ts with
 | nil => cases h
 | cons x r ih =>
  rw [sizes]
  rcases List.mem_cons.1 h with rfl | h
  ·omega
  ·have := ih h; omega
theorem Tm.size_pos (t : Tm) : 0 < t.size := by cases t; rw [Tm.size]; omega
theorem length_le_sizes (ts : List Tm) : ts.length ≤ sizes ts := by
 induction ts with
 | nil => simp [sizes]
 | cons x r ih => rw [sizes, List.length_cons]; have := x.size_pos; omega
theorem sizes_append (a b : List Tm) : sizes (a ++ b) = sizes a + sizes b := by
 induction a with
 | nil => simp [sizes]
 | cons x r ih => simp only [List.cons_append, sizes, ih]; omega
mutual
def RdC (w : World) (b off i : Nat) : Tm → Prop
 | .mk k n ks => w.cell? ⟨b, off + i * 3, none⟩ = some (.int .i64 k) ∧ w.cell? ⟨b, off + i * 3 + 1, none⟩ = some (.int .i64 n) ∧
   ∃ A c, w.cell? ⟨b, off + i * 3 + 2, none⟩ = some (.slice A ks.length c) ∧ ks.length ≤ 9223372036854775807 ∧ Rd w A 0 ks
def Rd (w : World) (A : Option Addr) (i : Nat) : List Tm → Prop
 | [] => True
 | t :: ts => (∃ b off, A = some ⟨b, off, none⟩ ∧ RdC w b off i t) ∧ Rd w A (i + 1) ts
end
def Keeps (w w' : World) : Prop := ∀ a v, w.cell? a = some v → w'.cell? a = some v
theorem Keeps.refl (w : World) : Keeps w w := fun _ _ h => h
theorem Keeps.trans {a b c : World} (h : Keeps a b) (k : Keeps b c) : Keeps a c := fun x v e => k x v (h x v e)
theorem Keeps.of_below {w w' : World} (h : Below w.heap.size w w') : Keeps w w' := fun a _ e => (h.cell (World.block_lt_of_cell? w a e)).trans e
theorem Keeps.alloc (w : World) (o : Obj) : Keeps w (w.alloc o) := fun a _ e => (World.cell?_alloc_lt w o a (World.block_lt_of_cell? w a e)).trans e
theorem Rd.nil {w : World} {A : Option Addr} {i : Nat} : Rd w A i [] := by simp only [Rd]
theorem Rd.cons_iff {w : World} {A : Option Addr} {i : Nat} {t : Tm} {ts : List Tm} : Rd w A i (t :: ts) ↔ (∃ b off, A = some ⟨b, off, none⟩ ∧ RdC w b off i t) ∧ Rd w A (i + 1) ts := by
 simp only [Rd]
theorem RdC.iff {w : World} {b off i : Nat} {k n : Int} {ks : List Tm} : RdC w b off i (.mk k n ks) ↔
  w.cell? ⟨b, off + i * 3, none⟩ = some (.int .i64 k) ∧ w.cell? ⟨b, off + i * 3 + 1, none⟩ = some (.int .i64 n) ∧
   ∃ A c, w.cell? ⟨b, off + i * 3 + 2, none⟩ = some (.slice A ks.length c) ∧ ks.length ≤ 9223372036854775807 ∧ Rd w A 0 ks := by
 simp only [RdC]
theorem rd_keeps {w w' : World} (h : Keeps w w') : (∀ t b off i, RdC w b off i t → RdC w' b off i t) ∧ (∀ ks A i, Rd w A i ks → Rd w' A i ks) := by
 refine Tm.ind2 (fun k n ks ih b off i hh => ?_) (fun _ _ _ => Rd.nil) (fun t ts h1 h2 A i hh => ?_)
 ·rw [RdC.iff] at hh ⊢
  obtain ⟨h1, h2, A, c, h3, h4, h5⟩ := hh
  exact ⟨h _ _ h1, h _ _ h2, A, c, h _ _ h3, h4, ih _ _ h5⟩
 ·rw [Rd.cons_iff] at hh ⊢
  obtain ⟨⟨b, off, hA, hc⟩, hr⟩ := hh
  exact ⟨⟨b, off, hA, h1 _ _ _ hc⟩, h2 _ _ hr⟩
theorem Rd.keeps {w w' : World} {A : Option Addr} {i : Nat} {ks : List Tm} (hr : Rd w A i ks) (h : Keeps w w') : Rd w' A i ks := (rd_keeps h).2 _ _ _ hr
theorem Rd.below {w w' : World} {A : Option Addr} {i : Nat} {ks : List Tm} (hr : Rd w A i ks) (h : Below w.heap.size w w') : Rd w' A i ks := hr.keeps (.of_below h)
theorem Rd.alloc {w : World} {A : Option Addr} {i : Nat} {ks : List Tm} (hr : Rd w A i ks) (o : Obj) : Rd (w.alloc o) A i ks := hr.keeps (.alloc w o)
theorem Rd.drew {w : World} {A : Option Addr} {i : Nat} {ks : List Tm} (hr : Rd w A i ks) : Rd w.drew A i ks := hr.keeps fun _ _ h => h
theorem Rd.get {w : World} {A : Option Addr} {ks : List Tm} : ∀ {i : Nat}, Rd w A i ks → ∀ {j : Nat} (hj : j < ks.length), ∃ b off, A = some ⟨b, off, none⟩ ∧ RdC w b off (i + j) ks[j] := by
 induction ks with
 | nil => intro i _ j hj; simp at hj
 | cons t ts ih =>
  intro i hr j hj
  rw [Rd.cons_iff] at hr
  cases j with
  | zero => simpa using hr.1
  | succ j =>
   obtain ⟨b, off, hA, hc⟩ := ih hr.2 (j := j) (by simpa using hj)
   exact ⟨b, off, hA, by rw [show i + (j + 1) = i + 1 + j from by omega]; simpa using hc⟩
def Blk (w : World) (g : Nat) (cs : Array Value) : Prop := ∃ t, w.heap[g]? = some (.cells cs t (0, 0))
section
variable {w w' : World} {g : Nat} {cs : Array Value}
theorem Blk.lt (h : Blk w g cs) : g < w.heap.size := by obtain ⟨t, h⟩ := h; exact (Array.getElem?_eq_some_iff.1 h).1
theorem Blk.cell (h : Blk w g cs) (i : Nat) : w.cell? ⟨g, i, none⟩ = cs[i]? := by obtain ⟨t, h⟩ := h; exact cell_of_row w g i cs t (0, 0) h
theorem Blk.frozen (h : Blk w g cs) (i : Nat) : w.frozen? ⟨g, i, none⟩ = false := by
 obtain ⟨t, h⟩ := h
 simp [World.frozen?, h]
theorem Blk.new (w : World) (t : TypeId) (cs : Array Value) : Blk (w.alloc (.cells cs t)) w.heap.size cs := ⟨t, heap_alloc_new w _⟩
theorem Blk.new_ {n : Nat} (w : World) (t : TypeId) (cs : Array Value) (h : n = w.heap.size) : Blk (w.alloc (.cells cs t)) n cs := by subst h; exact ⟨t, heap_alloc_new w _⟩
theorem Blk.drew (h : Blk w g cs) : Blk w.drew g cs := h
theorem Blk.alloc (h : Blk w g cs) (o : Obj) : Blk (w.alloc o) g cs := by have hl := h.lt; obtain ⟨t, h⟩ := h; exact ⟨t, (Below.heap_alloc w o g hl).trans h⟩
theorem Blk.set_ (h : Blk w g cs) (i : Nat) (u : Value) : Blk (w.setCell ⟨g, i, none⟩ u) g (cs.setIfInBounds i u) := by
 obtain ⟨t, h⟩ := h
 refine ⟨t, ?_⟩
 simp [World.setCell, Array.getElem?_modify, h]
theorem Blk.far (h : Blk w g cs) {p : Addr} (hp : g ≠ p.block) (u : Value) : Blk (w.setCell p u) g cs := by obtain ⟨t, h⟩ := h; exact ⟨t, (Below.heap_setCell w p u g hp).trans h⟩
theorem Blk.below {B : Nat} (h : Blk w g cs) (hb : Below B w w') (hg : g < B) : Blk w' g cs := by obtain ⟨t, h⟩ := h; exact ⟨t, (hb.block g hg).trans h⟩
theorem Blk.keep (h : Blk w g cs) (hb : Below w.heap.size w w') : Blk w' g cs := h.below hb h.lt
theorem Blk.grown {row : Option Nat} (h : Blk w g cs) (hb : w.grownBy w' row) (hg : some g ≠ row) : Blk w' g cs := by have hl := h.lt; obtain ⟨t, h⟩ := h; exact ⟨t, (hb.block g hl hg).trans h⟩
theorem Blk.at_ (h : Blk w g cs) {i : Nat} {v : Value} (hi : cs[i]? = some v) : w.cell? ⟨g, i, none⟩ = some v := (h.cell i).trans hi
theorem Blk.rule {wx : World} (h : Blk wx g cs) {i : Nat} {v : Value} (hi : cs[i]? = some v) : ∀ w' : World, Below wx.heap.size wx w' → w'.cell? ⟨g, i, none⟩ = some v :=
 fun _ hb => (hb.cell h.lt).trans (h.at_ hi)
theorem rule_of {wx : World} {b o : Nat} {v : Value} (h : wx.cell? ⟨b, o, none⟩ = some v) : ∀ w' : World, Below wx.heap.size wx w' → w'.cell? ⟨b, o, none⟩ = some v :=
 fun _ hb => (hb.cell (World.block_lt_of_cell? wx _ h)).trans h
theorem bcell {W w1 : World} (hb : Below W.heap.size W w1) : (∀ b o, b < W.heap.size → w1.cell? ⟨b, o, none⟩ = W.cell? ⟨b, o, none⟩) ∧ (∀ b o, b < W.heap.size → w1.frozen? ⟨b, o, none⟩ = W.frozen? ⟨b, o, none⟩) :=
 ⟨fun b o h => hb.cell (p := ⟨b, o, none⟩) h, fun b o h => hb.frozen (p := ⟨b, o, none⟩) h⟩
end
theorem name_world {P : Program} {c : Code} {Q : Exit → Act → World → Prop} {a : Act} {w : World} (h : ∀ wx, wx = w → c.wp P Q a wx) : c.wp P Q a w := h w rfl
theorem Rd.at_ {w : World} {A : Option Addr} {ks : List Tm} (hr : Rd w A 0 ks) {j : Nat} (hj : j < ks.length) :
  ∃ b off k n ks' A' c, A = some ⟨b, off, none⟩ ∧ ks[j] = .mk k n ks' ∧ w.cell? ⟨b, off + j * 3, none⟩ = some (.int .i64 k) ∧ w.cell? ⟨b, off + j * 3 + 1, none⟩ = some (.int .i64 n) ∧
   w.cell? ⟨b, off + j * 3 + 2, none⟩ = some (.slice A' ks'.length c) ∧ ks'.length ≤ 9223372036854775807 ∧ Rd w A' 0 ks' := by
 obtain ⟨b, off, hA, hc⟩ := hr.get hj
 rw [Nat.zero_add] at hc
 generalize ks[j] = t at hc ⊢
 obtain ⟨k, n, ks'⟩ := t
 obtain ⟨h1, h2, A', c, h3, h4, h5⟩ := RdC.iff.1 hc
 exact ⟨b, off, k, n, ks', A', c, hA, rfl, h1, h2, h3, h4, h5⟩
mutual
def RdPC (p : Nat → Prop) (w : World) (b off i : Nat) : Tm → Prop
 | .mk k n ks => p b ∧ w.cell? ⟨b, off + i * 3, none⟩ = some (.int .i64 k) ∧ w.cell? ⟨b, off + i * 3 + 1, none⟩ = some (.int .i64 n) ∧
   ∃ A c, w.cell? ⟨b, off + i * 3 + 2, none⟩ = some (.slice A ks.length c) ∧ ks.length ≤ 9223372036854775807 ∧ RdP p w A 0 ks
def RdP (p : Nat → Prop) (w : World) (A : Option Addr) (i : Nat) : List Tm → Prop
 | [] => True
 | t :: ts => (∃ b off, A = some ⟨b, off, none⟩ ∧ RdPC p w b off i t) ∧ RdP p w A (i + 1) ts
end
section
variable {p q : Nat → Prop} {w w' : World} {A : Option Addr} {i : Nat} {ks : List Tm}
theorem RdP.nil : RdP p w A i [] := by simp only [RdP]
theorem RdP.cons_iff {t : Tm} {ts : List Tm} : RdP p w A i (t :: ts) ↔ (∃ b off, A = some ⟨b, off, none⟩ ∧ RdPC p w b off i t) ∧ RdP p w A (i + 1) ts := by
 simp only [RdP]
theorem RdPC.iff {b off : Nat} {k n : Int} : RdPC p w b off i (.mk k n ks) ↔
  p b ∧ w.cell? ⟨b, off + i * 3, none⟩ = some (.int .i64 k) ∧ w.cell? ⟨b, off + i * 3 + 1, none⟩ = some (.int .i64 n) ∧
   ∃ A c, w.cell? ⟨b, off + i * 3 + 2, none⟩ = some (.slice A ks.length c) ∧ ks.length ≤ 9223372036854775807 ∧ RdP p w A 0 ks := by
 simp only [RdPC]
theorem rdp_keeps (hq : ∀ b, p b → q b) (h : ∀ b o v, p b → w.cell? ⟨b, o, none⟩ = some v → w'.cell? ⟨b, o, none⟩ = some v) : (∀ t b off i, RdPC p w b off i t → RdPC q w' b off i t) ∧ (∀ ks A i, RdP p w A i ks → RdP q w' A i ks) := by
 refine Tm.ind2 (fun k n ks ih b off i hh => ?_) (fun _ _ _ => RdP.nil) (fun t ts h1 h2 A i hh => ?_)
 ·rw [RdPC.iff] at hh ⊢
  obtain ⟨hp, h1, h2, A, c, h3, h4, h5⟩ := hh
  exact ⟨hq _ hp, h _ _ _ hp h1, h _ _ _ hp h2, A, c, h _ _ _ hp h3, h4, ih _ _ h5⟩
 ·rw [RdP.cons_iff] at hh ⊢
  obtain ⟨⟨b, off, hA, hc⟩, hr⟩ := hh
  exact ⟨⟨b, off, hA, h1 _ _ _ hc⟩, h2 _ _ hr⟩
theorem RdP.keeps (hr : RdP p w A i ks) (h : ∀ b o v, p b → w.cell? ⟨b, o, none⟩ = some v → w'.cell? ⟨b, o, none⟩ = some v) : RdP p w' A i ks := (rdp_keeps (fun _ h => h) h).2 _ _ _ hr
theorem RdP.keepsAll (hr : RdP p w A i ks) (h : Keeps w w') : RdP p w' A i ks := hr.keeps fun _ _ _ _ e => h _ _ e
theorem RdP.below (hr : RdP p w A i ks) (h : Below w.heap.size w w') : RdP p w' A i ks := hr.keepsAll (.of_below h)
theorem RdP.alloc (hr : RdP p w A i ks) (o : Obj) : RdP p (w.alloc o) A i ks := hr.keepsAll (.alloc w o)
theorem RdP.drew (hr : RdP p w A i ks) : RdP p w.drew A i ks := hr.keeps fun _ _ _ _ e => e
theorem RdP.mono (hr : RdP p w A i ks) (hq : ∀ b, p b → q b) : RdP q w A i ks := (rdp_keeps hq (fun _ _ _ _ e => e)).2 _ _ _ hr
theorem RdP.blocks (hr : RdP p w A i ks) (h : ∀ b, p b → b < w.heap.size → w'.heap[b]? = w.heap[b]?) : RdP p w' A i ks :=
 hr.keeps fun b o v hb e => (World.cell?_of_block (w := w) (a := ⟨b, o, none⟩) (h b hb (World.block_lt_of_cell? w _ e))).trans e
theorem RdP.grown {row : Option Nat} (hr : RdP p w A i ks) (h : w.grownBy w' row) (hp : ∀ b, p b → some b ≠ row) : RdP p w' A i ks := hr.blocks fun b hb hl => h.block b hl (hp b hb)
theorem RdP.setCell (hr : RdP p w A i ks) {a : Addr} (hp : ¬ p a.block) (u : Value) : RdP p (w.setCell a u) A i ks := hr.blocks fun b hb _ => Below.heap_setCell w a u b (fun e => hp (e ▸ hb))
theorem rdp_rd : (∀ t b off i, RdPC p w b off i t → RdC w b off i t) ∧ (∀ ks A i, RdP p w A i ks → Rd w A i ks) := by
 refine Tm.ind2 (fun k n ks ih b off i hh => ?_) (fun _ _ _ => Rd.nil) (fun t ts h1 h2 A i hh => ?_)
 ·obtain ⟨hp, h1, h2, A, c, h3, h4, h5⟩ := RdPC.iff.1 hh
  exact RdC.iff.2 ⟨h1, h2, A, c, h3, h4, ih _ _ h5⟩
 ·obtain ⟨⟨b, off, hA, hc⟩, hr⟩ := RdP.cons_iff.1 hh
  exact Rd.cons_iff.2 ⟨⟨b, off, hA, h1 _ _ _ hc⟩, h2 _ _ hr⟩
theorem RdP.rd (h : RdP p w A i ks) : Rd w A i ks := rdp_rd.2 _ _ _ h
theorem rd_rdp : (∀ t b off i, RdC w b off i t → RdPC (· < w.heap.size) w b off i t) ∧ (∀ ks A i, Rd w A i ks → RdP (· < w.heap.size) w A i ks) := by
 refine Tm.ind2 (fun k n ks ih b off i hh => ?_) (fun _ _ _ => RdP.nil) (fun t ts h1 h2 A i hh => ?_)
 ·obtain ⟨h1, h2, A, c, h3, h4, h5⟩ := RdC.iff.1 hh
  exact RdPC.iff.2 ⟨World.block_lt_of_cell? w _ h1, h1, h2, A, c, h3, h4, ih _ _ h5⟩
 ·obtain ⟨⟨b, off, hA, hc⟩, hr⟩ := Rd.cons_iff.1 hh
  exact RdP.cons_iff.2 ⟨⟨b, off, hA, h1 _ _ _ hc⟩, h2 _ _ hr⟩
theorem Rd.rdp (h : Rd w A i ks) : RdP (· < w.heap.size) w A i ks := rd_rdp.2 _ _ _ h
theorem RdP.get : ∀ {i : Nat}, RdP p w A i ks → ∀ {j : Nat} (hj : j < ks.length), ∃ b off, A = some ⟨b, off, none⟩ ∧ RdPC p w b off (i + j) ks[j] := by
 induction ks with
 | nil => intro i _ j hj; simp at hj
 | cons t ts ih =>
  intro i hr j hj
  rw [RdP.cons_iff] at hr
  cases j with
  | zero => simpa using hr.1
  | succ j =>
   obtain ⟨b, off, hA, hc⟩ := ih hr.2 (j := j) (by simpa using hj)
   exact ⟨b, off, hA, by rw [show i + (j + 1) = i + 1 + j from by omega]; simpa using hc⟩
theorem RdP.at_ (hr : RdP p w A 0 ks) {j : Nat} (hj : j < ks.length) :
  ∃ b off k n ks' A' c, A = some ⟨b, off, none⟩ ∧ ks[j] = .mk k n ks' ∧ w.cell? ⟨b, off + j * 3, none⟩ = some (.int .i64 k) ∧ w.cell? ⟨b, off + j * 3 + 1, none⟩ = some (.int .i64 n) ∧
   w.cell? ⟨b, off + j * 3 + 2, none⟩ = some (.slice A' ks'.length c) ∧ ks'.length ≤ 9223372036854775807 ∧ RdP p w A' 0 ks' := by
 obtain ⟨b, off, hA, hc⟩ := hr.get hj
 rw [Nat.zero_add] at hc
 generalize ks[j] = t at hc ⊢
 obtain ⟨k, n, ks'⟩ := t
 obtain ⟨hp, h1, h2, A', c, h3, h4, h5⟩ := RdPC.iff.1 hc
 exact ⟨b, off, k, n, ks', A', c, hA, rfl, h1, h2, h3, h4, h5⟩
end
theorem only_alloc {a w : World} {row : Option Nat} (h : a.grownBy w row) (o : Obj) : a.grownBy (w.alloc o) row :=
 ⟨h.os, h.tape, h.output, Nat.le_trans h.size (by simp), fun i hi hne => (Below.heap_alloc w o i (Nat.lt_of_lt_of_le hi h.size)).trans (h.block i hi hne)⟩
theorem only_drew {a w : World} {row : Option Nat} (h : a.grownBy w row) : a.grownBy w.drew row := ⟨h.os, h.tape, h.output, h.size, h.block⟩
theorem only_trans {a w w' : World} {row : Option Nat} (h : a.grownBy w row) (k : w.grownBy w' row) : a.grownBy w' row :=
 ⟨k.os.trans h.os, k.tape.trans h.tape, k.output.trans h.output, Nat.le_trans h.size k.size, fun i hi hne => (k.block i (Nat.lt_of_lt_of_le hi h.size) hne).trans (h.block i hi hne)⟩
theorem only_below {a w w' : World} {row : Option Nat} (h : a.grownBy w row) (k : Below w.heap.size w w') : a.grownBy w' row :=
 ⟨k.os.trans h.os, k.tape.trans h.tape, k.output.trans h.output, Nat.le_trans h.size k.size, fun i hi hne => (k.block i (Nat.lt_of_lt_of_le hi h.size)).trans (h.block i hi hne)⟩
theorem only_setCell {a w : World} {g : Nat} (h : a.grownBy w (some g)) {p : Addr} (hp : p.block = g ∨ a.heap.size ≤ p.block) (u : Value) : a.grownBy (w.setCell p u) (some g) :=
 ⟨h.os, h.tape, h.output, by simpa [World.setCell] using h.size, fun i hi hne => (Below.heap_setCell w p u i (by
  rintro rfl
  rcases hp with hp | hp
  ·exact hne (by rw [hp])
  ·omega)).trans (h.block i hi hne)⟩
open Go.RowKit
mutual
def OwT (w : World) : Tm → List Value → List Nat → Prop
 | .mk k n ks, xs, fp => ∃ A c, xs = [.int .i64 k, .int .i64 n, .slice A ks.length c] ∧ ks.length ≤ 9223372036854775807 ∧
   ((ks = [] ∧ fp = []) ∨ ∃ g cur e f, ks ≠ [] ∧ A = some ⟨g, 0, none⟩ ∧ w.heap[g]? = some (.cells cur e (0, 0)) ∧ fp = g :: f ∧ OwX w ks (cur.toList.take (ks.length * 3)) f)
def OwX (w : World) : List Tm → List Value → List Nat → Prop
 | [], xs, fp => xs = [] ∧ fp = []
 | t :: ts, xs, fp => ∃ x1 x2 f1 f2, xs = x1 ++ x2 ∧ fp = f1 ++ f2 ∧ OwT w t x1 f1 ∧ OwX w ts x2 f2
end
def Ow (w : World) (A : Option Addr) (ks : List Tm) (fp : List Nat) : Prop :=
 (ks = [] ∧ fp = []) ∨ ∃ g cur e f, ks ≠ [] ∧ A = some ⟨g, 0, none⟩ ∧ w.heap[g]? = some (.cells cur e (0, 0)) ∧ fp = g :: f ∧ OwX w ks (cur.toList.take (ks.length * 3)) f
theorem OwT.iff {w : World} {k n : Int} {ks : List Tm} {xs : List Value} {fp : List Nat} : OwT w (.mk k n ks) xs fp ↔
  ∃ A c, xs = [.int .i64 k, .int .i64 n, .slice A ks.length c] ∧ ks.length ≤ 9223372036854775807 ∧ Ow w A ks fp := by
 simp only [OwT, Ow]
theorem OwX.nil_iff {w : World} {xs : List Value} {fp : List Nat} : OwX w [] xs fp ↔ xs = [] ∧ fp = [] := by simp only [OwX]
theorem OwX.cons_iff {w : World} {t : Tm} {ts : List Tm} {xs : List Value} {fp : List Nat} : OwX w (t :: ts) xs fp ↔
  ∃ x1 x2 f1 f2, xs = x1 ++ x2 ∧ fp = f1 ++ f2 ∧ OwT w t x1 f1 ∧ OwX w ts x2 f2 := by simp only [OwX]
theorem OwX.nil {w : World} : OwX w [] [] [] := OwX.nil_iff.2 ⟨rfl, rfl⟩
theorem OwT.length {w : World} {t : Tm} {xs : List Value} {fp : List Nat} (h : OwT w t xs fp) : xs.length = 3 := by
 cases t
 obtain ⟨A, c, rfl, _⟩ := OwT.iff.1 h
 rfl
theorem OwX.length {w : World} {ts : List Tm} : ∀ {xs : List Value} {fp : List Nat}, OwX w ts xs fp → xs.length = ts.length * 3 := by
 induction ts with
 | nil => intro xs fp h; rw [(OwX.nil_iff.1 h).1]; rfl
 | cons t ts ih =>
  intro xs fp h
  obtain ⟨x1, x2, f1, f2, rfl, rfl, h1, h2⟩ := OwX.cons_iff.1 h
  rw [List.length_append, h1.length, ih h2, List.length_cons]; omega
theorem OwX.append {w : World} {ts us : List Tm} : ∀ {xs ys : List Value} {f g : List Nat}, OwX w ts xs f → OwX w us ys g → OwX w (ts ++ us) (xs ++ ys) (f ++ g) := by
 induction ts with
 | nil => intro xs ys f g h k; obtain ⟨rfl, rfl⟩ := OwX.nil_iff.1 h; exact k
 | cons t ts ih =>
  intro xs ys f g h k
  obtain ⟨x1, x2, f1, f2, rfl, rfl, h1, h2⟩ := OwX.cons_iff.1 h
  rw [List.cons_append]
  exact OwX.cons_iff.2 ⟨x1, x2 ++ ys, f1, f2 ++ g, by rw [List.append_assoc], by rw [List.append_assoc], h1, ih h2 k⟩
theorem OwX.one {w : World} {t : Tm} {xs : List Value} {f : List Nat} (h : OwT w t xs f) : OwX w [t] xs f :=
 OwX.cons_iff.2 ⟨xs, [], f, [], by simp, by simp, h, OwX.nil⟩
theorem OwT.oneCell {w : World} {t : Tm} {xs : List Value} {fp : List Nat} (h : OwT w t xs fp) : ∀ u, u ∈ xs → u.oneCell' = true := by
 cases t
 obtain ⟨A, c, rfl, _⟩ := OwT.iff.1 h
 intro u hu
 simp only [List.mem_cons, List.not_mem_nil, or_false] at hu
 rcases hu with rfl | rfl | rfl <;> rfl
theorem own_frame {w w' : World} : (∀ t xs fp, OwT w t xs fp → (∀ b, b ∈ fp → w'.heap[b]? = w.heap[b]?) → OwT w' t xs fp) ∧ (∀ ts xs fp, OwX w ts xs fp → (∀ b, b ∈ fp → w'.heap[b]? = w.heap[b]?) → OwX w' ts xs fp) := by
 refine Tm.ind2 (fun k n ks ih xs fp h hk => ?_) (fun xs fp h _ => OwX.nil_iff.2 (OwX.nil_iff.1 h)) (fun t ts h1 h2 xs fp h hk => ?_)
 ·obtain ⟨A, c, rfl, hl, h⟩ := OwT.iff.1 h
  refine OwT.iff.2 ⟨A, c, rfl, hl, ?_⟩
  rcases h with ⟨rfl, rfl⟩ | ⟨g, cur, e, f, hne, rfl, hg, rfl, hx⟩
  ·exact .inl ⟨rfl, rfl⟩
  ·exact .inr ⟨g, cur, e, f, hne, rfl, (hk g (by simp)).trans hg, rfl, ih _ _ hx fun b hb => hk b (by simp [hb])⟩
 ·obtain ⟨x1, x2, f1, f2, rfl, rfl, ht, hx⟩ := OwX.cons_iff.1 h
  exact OwX.cons_iff.2 ⟨x1, x2, f1, f2, rfl, rfl, h1 _ _ ht fun b hb => hk b (by simp [hb]), h2 _ _ hx fun b hb => hk b (by simp [hb])⟩
theorem OwX.frame {w w' : World} {ts : List Tm} {xs : List Value} {fp : List Nat} (h : OwX w ts xs fp) (hk : ∀ b, b ∈ fp → w'.heap[b]? = w.heap[b]?) : OwX w' ts xs fp := own_frame.2 _ _ _ h hk
theorem OwT.frame {w w' : World} {t : Tm} {xs : List Value} {fp : List Nat} (h : OwT w t xs fp) (hk : ∀ b, b ∈ fp → w'.heap[b]? = w.heap[b]?) : OwT w' t xs fp := own_frame.1 _ _ _ h hk
theorem Ow.frame {w w' : World} {A : Option Addr} {ks : List Tm} {fp : List Nat} (h : Ow w A ks fp) (hk : ∀ b, b ∈ fp → w'.heap[b]? = w.heap[b]?) : Ow w' A ks fp := by
 rcases h with ⟨rfl, rfl⟩ | ⟨g, cur, e, f, hne, rfl, hg, rfl, hx⟩
 ·exact .inl ⟨rfl, rfl⟩
 ·exact .inr ⟨g, cur, e, f, hne, rfl, (hk g (by simp)).trans hg, rfl, hx.frame fun b hb => hk b (by simp [hb])⟩
theorem own_lt {w : World} : (∀ t xs fp, OwT w t xs fp → ∀ b, b ∈ fp → b < w.heap.size) ∧ (∀ ts xs fp, OwX w ts xs fp → ∀ b, b ∈ fp → b < w.heap.size) := by
 refine Tm.ind2 (fun k n ks ih xs fp h b hb => ?_) (fun xs fp h b hb => ?_) (fun t ts h1 h2 xs fp h b hb => ?_)
 ·obtain ⟨A, c, rfl, hl, h⟩ := OwT.iff.1 h
  rcases h with ⟨rfl, rfl⟩ | ⟨g, cur, e, f, hne, rfl, hg, rfl, hx⟩
  ·simp at hb
  ·rcases List.mem_cons.1 hb with rfl | hb
   ·exact (Array.getElem?_eq_some_iff.1 hg).1
   ·exact ih _ _ hx b hb
 ·rw [(OwX.nil_iff.1 h).2] at hb; simp at hb
 ·obtain ⟨x1, x2, f1, f2, rfl, rfl, ht, hx⟩ := OwX.cons_iff.1 h
  rcases List.mem_append.1 hb with hb | hb
  ·exact h1 _ _ ht b hb
  ·exact h2 _ _ hx b hb
theorem OwX.lt {w : World} {ts : List Tm} {xs : List Value} {fp : List Nat} (h : OwX w ts xs fp) : ∀ b, b ∈ fp → b < w.heap.size := own_lt.2 _ _ _ h
theorem OwT.lt {w : World} {t : Tm} {xs : List Value} {fp : List Nat} (h : OwT w t xs fp) : ∀ b, b ∈ fp → b < w.heap.size := own_lt.1 _ _ _ h
theorem Ow.lt {w : World} {A : Option Addr} {ks : List Tm} {fp : List Nat} (h : Ow w A ks fp) : ∀ b, b ∈ fp → b < w.heap.size := by
 intro b hb
 rcases h with ⟨rfl, rfl⟩ | ⟨g, cur, e, f, hne, rfl, hg, rfl, hx⟩
 ·simp at hb
 ·rcases List.mem_cons.1 hb with rfl | hb
  ·exact (Array.getElem?_eq_some_iff.1 hg).1
  ·exact hx.lt b hb
theorem own_rd {w : World} : (∀ t xs fp, OwT w t xs fp → ∀ g off i, (∀ j u, xs[j]? = some u → w.cell? ⟨g, off + i * 3 + j, none⟩ = some u) → RdC w g off i t) ∧
  (∀ ts xs fp, OwX w ts xs fp → ∀ g off i, (∀ j u, xs[j]? = some u → w.cell? ⟨g, off + i * 3 + j, none⟩ = some u) → Rd w (some ⟨g, off, none⟩) i ts) := by
 refine Tm.ind2 (fun k n ks ih xs fp h g off i hc => ?_) (fun xs fp h g off i hc => Rd.nil) (fun t ts h1 h2 xs fp h g off i hc => ?_)
 ·obtain ⟨A, c, rfl, hl, h⟩ := OwT.iff.1 h
  refine RdC.iff.2 ⟨hc 0 _ rfl, hc 1 _ rfl, A, c, hc 2 _ rfl, hl, ?_⟩
  rcases h with ⟨rfl, rfl⟩ | ⟨g', cur, e, f, hne, rfl, hg, rfl, hx⟩
  ·exact Rd.nil
  ·refine ih _ _ hx g' 0 0 fun j u hu => ?_
   have e0 : 0 + 0 * 3 + j = j := by omega
   rw [e0, cell_of_row w g' j cur e (0, 0) hg]
   rw [List.getElem?_take] at hu
   split at hu
   ·simpa using hu
   ·cases hu
 ·obtain ⟨x1, x2, f1, f2, rfl, rfl, ht, hx⟩ := OwX.cons_iff.1 h
  have hl := ht.length
  refine Rd.cons_iff.2 ⟨⟨g, off, rfl, h1 _ _ ht g off i fun j u hu => hc j u ?_⟩, h2 _ _ hx g off (i + 1) fun j u hu => ?_⟩
  ·rw [List.getElem?_append_left (by have := (List.getElem?_eq_some_iff.1 hu).1; omega)]; exact hu
  ·have := hc (3 + j) u (by rw [List.getElem?_append_right (by omega), hl]; simpa using hu)
   rw [show off + (i + 1) * 3 + j = off + i * 3 + (3 + j) from by omega]; exact this
theorem Ow.rd {w : World} {A : Option Addr} {ks : List Tm} {fp : List Nat} (h : Ow w A ks fp) : Rd w A 0 ks := by
 rcases h with ⟨rfl, rfl⟩ | ⟨g, cur, e, f, hne, rfl, hg, rfl, hx⟩
 ·exact Rd.nil
 ·refine own_rd.2 _ _ _ hx g 0 0 fun j u hu => ?_
  have e0 : 0 + 0 * 3 + j = j := by omega
  rw [e0, cell_of_row w g j cur e (0, 0) hg]
  rw [List.getElem?_take] at hu
  split at hu
  ·simpa using hu
  ·cases hu
def Fresh (B : Nat) (w : World) (A : Option Addr) (ks : List Tm) : Prop := ∃ fp, Ow w A ks fp ∧ fp.Nodup ∧ ∀ b, b ∈ fp → B ≤ b
theorem Fresh.rd {B : Nat} {w : World} {A : Option Addr} {ks : List Tm} (h : Fresh B w A ks) : Rd w A 0 ks := by
 obtain ⟨fp, h, _⟩ := h; exact h.rd
theorem Fresh.nil {B : Nat} {w : World} {A : Option Addr} : Fresh B w A [] := ⟨[], .inl ⟨rfl, rfl⟩, List.nodup_nil, by simp⟩
theorem Fresh.mono {B B' : Nat} {w : World} {A : Option Addr} {ks : List Tm} (h : Fresh B w A ks) (hB : B' ≤ B) : Fresh B' w A ks := by
 obtain ⟨fp, h, hn, hb⟩ := h; exact ⟨fp, h, hn, fun b hx => Nat.le_trans hB (hb b hx)⟩
theorem Fresh.keep {B : Nat} {w w' : World} {A : Option Addr} {ks : List Tm} (h : Fresh B w A ks) (hk : ∀ b, B ≤ b → b < w.heap.size → w'.heap[b]? = w.heap[b]?) : Fresh B w' A ks := by
 obtain ⟨fp, h, hn, hb⟩ := h; exact ⟨fp, h.frame fun b hx => hk b (hb b hx) (h.lt b hx), hn, hb⟩
theorem Fresh.below {B : Nat} {w w' : World} {A : Option Addr} {ks : List Tm} (h : Fresh B w A ks) (hk : Below w.heap.size w w') : Fresh B w' A ks := h.keep fun b _ hb => hk.block b hb
theorem Fresh.alloc {B : Nat} {w : World} {A : Option Addr} {ks : List Tm} (h : Fresh B w A ks) (o : Obj) : Fresh B (w.alloc o) A ks := h.keep fun b _ hb => Below.heap_alloc w o b hb
theorem Fresh.drew {B : Nat} {w : World} {A : Option Addr} {ks : List Tm} (h : Fresh B w A ks) : Fresh B w.drew A ks := h.keep fun _ _ _ => rfl
theorem Fresh.setCell {B : Nat} {w : World} {A : Option Addr} {ks : List Tm} (h : Fresh B w A ks) {a : Addr} (ha : a.block < B) (u : Value) : Fresh B (w.setCell a u) A ks :=
 h.keep fun b hb _ => Below.heap_setCell w a u b (by omega)
def Fill (w : World) (g n : Nat) (ts : List Tm) : Prop :=
 ∃ cur f, w.heap[g]? = some (.cells cur 25 (0, 0)) ∧ cur.size = n * 3 ∧ OwX w ts (cur.toList.take (ts.length * 3)) f ∧ f.Nodup ∧ ∀ b, b ∈ f → g < b
theorem Fill.start {w : World} {n : Nat} {cur : Array Value} (h : cur.size = n * 3) : Fill (w.alloc (.cells cur 25)) w.heap.size n [] :=
 ⟨cur, [], heap_alloc_new w _, h, by simpa using OwX.nil, List.nodup_nil, by simp⟩
theorem Fill.below {w w' : World} {g n : Nat} {ts : List Tm} (h : Fill w g n ts) (hb : Below w.heap.size w w') : Fill w' g n ts := by
 obtain ⟨cur, f, h1, h2, h3, h4, h5⟩ := h
 exact ⟨cur, f, (hb.block g (Array.getElem?_eq_some_iff.1 h1).1).trans h1, h2, h3.frame fun b hbf => hb.block b (h3.lt b hbf), h4, h5⟩
theorem Fill.lt {w : World} {g n : Nat} {ts : List Tm} (h : Fill w g n ts) : g < w.heap.size := by
 obtain ⟨cur, f, h1, _⟩ := h
 exact (Array.getElem?_eq_some_iff.1 h1).1
theorem Fill.cell {w : World} {g n : Nat} {ts : List Tm} (h : Fill w g n ts) {j : Nat} (hj : j < n * 3) : ∃ u, w.cell? ⟨g, j, none⟩ = some u := by
 obtain ⟨cur, f, h1, h2, _⟩ := h
 exact ⟨cur[j]'(by omega), by rw [cell_of_row w g j cur _ (0, 0) h1]; exact Array.getElem?_eq_getElem (by omega)⟩
theorem Fill.frozen {w : World} {g n : Nat} {ts : List Tm} (h : Fill w g n ts) (j : Nat) : w.frozen? ⟨g, j, none⟩ = false := by
 obtain ⟨cur, f, h1, h2, _⟩ := h
 simp [World.frozen?, h1]
theorem Fill.set_ {w0 w : World} {g n : Nat} {ts : List Tm} (h : Fill w0 g n ts) (hb : Below w0.heap.size w0 w) {k m : Int} {ks : List Tm} {A : Option Addr} {c j : Nat} (hfr : Fresh w0.heap.size w A ks) (hl : ks.length ≤ 9223372036854775807) (hj : ts.length = j) (hn : j < n) :
    Fill (((w.setCell ⟨g, j * 3, none⟩ (.int .i64 k)).setCell ⟨g, j * 3 + 1, none⟩ (.int .i64 m)).setCell ⟨g, j * 3 + 2, none⟩ (.slice A ks.length c)) g n (ts ++ [.mk k m ks]) := by
  subst hj
  obtain ⟨cur, f, h1, h2, h3, h4, h5⟩ := h
  obtain ⟨fp, k1, k2, k3⟩ := hfr
  have hg0 := (Array.getElem?_eq_some_iff.1 h1).1
  have hg : w.heap[g]? = some (.cells cur 25 (0, 0)) := (hb.block g hg0).trans h1
  have far : ∀ b, b ≠ g → (((w.setCell ⟨g, ts.length * 3, none⟩ (.int .i64 k)).setCell ⟨g, ts.length * 3 + 1, none⟩ (.int .i64 m)).setCell ⟨g, ts.length * 3 + 2, none⟩ (.slice A ks.length c)).heap[b]? = w.heap[b]? := fun b hbg => by
    rw [Below.heap_setCell _ _ _ _ hbg, Below.heap_setCell _ _ _ _ hbg, Below.heap_setCell _ _ _ _ hbg]
  refine ⟨((cur.setIfInBounds (ts.length * 3) (.int .i64 k)).setIfInBounds (ts.length * 3 + 1) (.int .i64 m)).setIfInBounds (ts.length * 3 + 2) (.slice A ks.length c), f ++ fp, ?_, by simpa using h2, ?_, ?_, ?_⟩
  · simp [World.setCell, Array.getElem?_modify, hg]
  · have e : ((((cur.setIfInBounds (ts.length * 3) (.int .i64 k)).setIfInBounds (ts.length * 3 + 1) (.int .i64 m)).setIfInBounds (ts.length * 3 + 2) (.slice A ks.length c)).toList.take ((ts ++ [Tm.mk k m ks]).length * 3)) =
        cur.toList.take (ts.length * 3) ++ [.int .i64 k, .int .i64 m, .slice A ks.length c] := by
      have hlen : cur.toList.length = n * 3 := by simpa using h2
      simp only [Array.toList_setIfInBounds, List.length_append, List.length_singleton]
      rw [show (ts.length + 1) * 3 = ts.length * 3 + 2 + 1 from by omega]
      rw [List.take_succ_eq_append_getElem (by simp; omega), List.take_set_of_le (by omega), List.take_succ_eq_append_getElem (by simp; omega), List.take_set_of_le (by omega), List.take_succ_eq_append_getElem (by simp; omega), List.take_set_of_le (by omega)]
      simp
    rw [e]
    refine (h3.frame fun b hbf => ?_).append (OwX.one (OwT.iff.2 ⟨A, c, rfl, hl, k1.frame fun b hbf => far b ?_⟩))
    · rw [far b (by have := h5 b hbf; omega)]
      exact hb.block b (h3.lt b hbf)
    · have := k3 b hbf; omega
  · refine List.nodup_append.2 ⟨h4, k2, fun x hx y hy e => ?_⟩
    have := h3.lt x hx; have := k3 y hy; omega
  · intro b hbm
    rcases List.mem_append.1 hbm with hbm | hbm
    · exact h5 b hbm
    · have := k3 b hbm; omega
theorem Fill.fresh {w : World} {g n : Nat} {ts : List Tm} (h : Fill w g n ts) {B : Nat} (hB : B ≤ g) : Fresh B w (some ⟨g, 0, none⟩) ts := by
 obtain ⟨cur, f, h1, h2, h3, h4, h5⟩ := h
 by_cases hts : ts = []
 ·subst hts; exact Fresh.nil
 ·refine ⟨g :: f, .inr ⟨g, cur, _, f, hts, rfl, h1, rfl, h3⟩, List.nodup_cons.2 ⟨fun hm => by have := h5 g hm; omega, h4⟩, fun b hb => ?_⟩
  rcases List.mem_cons.1 hb with rfl | hb
  ·exact hB
  ·have := h5 b hb; omega
def Part (B : Nat) (w : World) (v : Value) (ts : List Tm) : Prop :=
 ∃ xs f, w.ownsRow B 25 3 v ts.length xs ∧ OwX w ts xs f ∧ f.Nodup ∧ (∀ b, b ∈ f → B ≤ b) ∧ ∀ g, v.ownBlock = some g → g ∉ f
theorem Part.nil {B : Nat} {w : World} : Part B w (.slice none 0 0) [] :=
 ⟨[], [], World.ownsRow_nil _ _ _ _, OwX.nil, List.nodup_nil, by simp, by simp⟩
theorem Part.keep {B : Nat} {w w' : World} {v : Value} {ts : List Tm} (h : Part B w v ts) (hk : ∀ b, B ≤ b → b < w.heap.size → w'.heap[b]? = w.heap[b]?) : Part B w' v ts := by
 obtain ⟨xs, f, h1, h2, h3, h4, h5⟩ := h
 refine ⟨xs, f, ⟨h1.1, ?_⟩, h2.frame fun b hb => hk b (h4 b hb) (h2.lt b hb), h3, h4, h5⟩
 rcases h1.2 with hn | ⟨g, cap, cur, rfl, hb, hg, r⟩
 ·exact .inl hn
 ·exact .inr ⟨g, cap, cur, rfl, hb, (hk g hb (Array.getElem?_eq_some_iff.1 hg).1).trans hg, r⟩
theorem Part.below {B : Nat} {w w' : World} {v : Value} {ts : List Tm} (h : Part B w v ts) (hk : Below w.heap.size w w') : Part B w' v ts := h.keep fun b _ hb => hk.block b hb
theorem Part.alloc {B : Nat} {w : World} {v : Value} {ts : List Tm} (h : Part B w v ts) (o : Obj) : Part B (w.alloc o) v ts := h.keep fun b _ hb => Below.heap_alloc w o b hb
theorem Part.drew {B : Nat} {w : World} {v : Value} {ts : List Tm} (h : Part B w v ts) : Part B w.drew v ts := h.keep fun _ _ _ => rfl
theorem Part.setCell {B : Nat} {w : World} {v : Value} {ts : List Tm} (h : Part B w v ts) {a : Addr} (ha : a.block < B) (u : Value) : Part B (w.setCell a u) v ts :=
 h.keep fun b hb _ => Below.heap_setCell w a u b (by omega)
theorem Part.fresh {B : Nat} {w : World} {v : Value} {ts : List Tm} (h : Part B w v ts) : ∃ A c, v = .slice A ts.length c ∧ Fresh B w A ts := by
 obtain ⟨xs, f, h1, h2, h3, h4, h5⟩ := h
 rcases h1.2 with ⟨rfl, h0⟩ | ⟨g, cap, cur, rfl, hb, hg, _, _, _, htk⟩
 ·have : ts = [] := List.eq_nil_of_length_eq_zero h0
  subst this
  exact ⟨none, 0, rfl, Fresh.nil⟩
 ·refine ⟨_, _, rfl, ?_⟩
  by_cases hts : ts = []
  ·subst hts; exact Fresh.nil
  ·refine ⟨g :: f, .inr ⟨g, cur, _, f, hts, rfl, hg, rfl, by rw [htk]; exact h2⟩, List.nodup_cons.2 ⟨h5 g rfl, h3⟩, ?_⟩
   intro b hb'
   rcases List.mem_cons.1 hb' with rfl | hb'
   ·exact hb
   ·exact h4 b hb'
theorem Part.shape {B : Nat} {w : World} {v : Value} {ts : List Tm} (h : Part B w v ts) : ∃ A c, v = .slice A ts.length c := by
 obtain ⟨A, c, hv, _⟩ := h.fresh; exact ⟨A, c, hv⟩
open Go.RowKit
theorem grownBy_alloc_ {a w : World} {row : Option Nat} (h : a.grownBy w row) (o : Obj) : a.grownBy (w.alloc o) row :=
 ⟨h.os, h.tape, h.output, Nat.le_trans h.size (by simp), fun i hi hne => (Below.heap_alloc w o i (Nat.lt_of_lt_of_le hi h.size)).trans (h.block i hi hne)⟩
theorem grownBy_trans {a w w' : World} {row : Option Nat} (h : a.grownBy w row) (k : w.grownBy w' row) : a.grownBy w' row :=
 ⟨k.os.trans h.os, k.tape.trans h.tape, k.output.trans h.output, Nat.le_trans h.size k.size, fun i hi hne => (k.block i (Nat.lt_of_lt_of_le hi h.size) hne).trans (h.block i hi hne)⟩
theorem Part.other {B : Nat} {w : World} {v : Value} {ts : List Tm} (h : Part B w v ts) {b : Nat} (hb : b < B ∨ w.heap.size ≤ b) : v.ownBlock ≠ some b := by
 obtain ⟨_, _, h1, _⟩ := h
 intro e
 have := h1.lt b e
 omega
theorem tm_info : (Try.prog.info? 25).map (fun i => (i.zero, i.size, i.bytes)) = some (some (.agg #[.int .i64 0, .int .i64 0, .slice none 0 0]), 3, 40) := by kernel_rfl
def GotT (w : World) (k n : Int) (ks : List Tm) (e : Ending) (w' : World) : Prop :=
 ∃ A c, e = .returned (.agg #[.int .i64 k, .int .i64 n, .slice A ks.length c]) ∧ ks.length ≤ 9223372036854775807 ∧ Fresh w.heap.size w' A ks ∧ Below w.heap.size w w'
def GotL (w : World) (ts : List Tm) (e : Ending) (w' : World) : Prop :=
 ∃ A c, e = .returned (.slice A ts.length c) ∧ Fresh w.heap.size w' A ts ∧ Below w.heap.size w w'
theorem run_append_tm {B : Nat} {w0 w : World} {v : Value} {ts : List Tm} {t : Tm} {x1 : List Value} {f1 : List Nat} (hp : Part B w0 v ts) (hb : Below w0.heap.size w0 w) (hB : B ≤ w0.heap.size)
  (ht : OwT w t x1 f1) (hn : f1.Nodup) (hf : ∀ b, b ∈ f1 → w0.heap.size ≤ b) (hlen : ts.length ≤ 1099511627776) (ad : Addr) (c : Nat) (hc : ∀ j u, x1[j]? = some u → w.cell? (ad.add j) = some u) (ty : TypeId) :
  ∃ v' w', (Builtin.append_ #[23, 23] ty #[v, .slice (some ad) 1 c]).run Try.prog w = .ok v' w' ∧ Part B w' v' (ts ++ [t]) ∧ Below B w w' ∧ w.grownBy w' v.ownBlock := by
 obtain ⟨i, hi, hz, hz1, hz2⟩ := info_parts tm_info
 have hsz := hb.size
 obtain ⟨xs, f, h1, h2, h3, h4, h5⟩ := hp
 have hlt : ∀ g, v.ownBlock = some g → g < w0.heap.size := fun g hg => (h1.lt g hg).2
 have hge : ∀ g, v.ownBlock = some g → B ≤ g := fun g hg => (h1.lt g hg).1
 have hfl := h2.lt
 have k1 : w.ownsRow B 25 3 v ts.length xs := by
  refine ⟨h1.1, ?_⟩
  rcases h1.2 with hn | ⟨g, cap, cur, rfl, hb', hg, r⟩
  ·exact .inl hn
  ·exact .inr ⟨g, cap, cur, rfl, hb', (hb.block g (hlt g rfl)).trans hg, r⟩
 have k2 : OwX w ts xs f := h2.frame fun b hbf => hb.block b (hfl b hbf)
 obtain ⟨v', w', hrun, hown, hg, _, hat⟩ := run_append_own_at (P := Try.prog) w B 23 ty 25 i _ 3 40 Try.underlying23 hi hz hz1 hz2 rfl (by omega) v ts.length xs k1 ad 1 c x1 ht.length hc ht.oneCell
  (by simp only [maxLen]; omega) (by omega) (by omega)
 have e1 : ∀ b, b ∈ f → w'.heap[b]? = w.heap[b]? := fun b hbf => hg.block b (by have := hfl b hbf; omega) (fun e => h5 b e.symm hbf)
 have e2 : ∀ b, b ∈ f1 → w'.heap[b]? = w.heap[b]? := fun b hbf => hg.block b (ht.lt b hbf) (fun e => by have := hlt b e.symm; have := hf b hbf; omega)
 refine ⟨v', w', hrun, ⟨xs ++ x1, f ++ f1, by simpa using hown, (k2.frame e1).append (OwX.one (ht.frame e2)), ?_, ?_, ?_⟩, ⟨hg.os, hg.tape, hg.output, hg.size, fun k hk => hg.block k (by omega) (fun e => by have := hge k e.symm; omega)⟩, hg⟩
 ·refine List.nodup_append.2 ⟨h3, hn, fun x hx y hy e => ?_⟩
  have := hfl x hx; have := hf y hy; omega
 ·intro b hbm
  rcases List.mem_append.1 hbm with hbm | hbm
  ·exact h4 b hbm
  ·have := hf b hbm; omega
 ·intro g hgo hgm
  rcases hat with e | e <;> rw [e] at hgo
  ·rcases List.mem_append.1 hgm with hgm | hgm
   ·exact h5 g hgo hgm
   ·have := hlt g hgo; have := hf g hgm; omega
  ·injection hgo with hgo
   subst hgo
   rcases List.mem_append.1 hgm with hgm | hgm
   ·have := hfl _ hgm; omega
   ·have := ht.lt _ hgm; omega
section
variable {B : Nat} {w0 w1 : World} {v : Value} {ts : List Tm} {k n : Int} {ks : List Tm} {A : Option Addr} {c : Nat}
theorem run_append_built (hp : Part B w0 v ts) (hb : Below w0.heap.size w0 w1) (hB : B ≤ w0.heap.size) (hfr : Fresh w0.heap.size w1 A ks) (hl : ks.length ≤ 9223372036854775807) (hlen : ts.length ≤ 1099511627776) (ty : TypeId) :
  ∃ v' w', (Builtin.append_ #[23, 23] ty #[v, .slice (some ⟨w1.heap.size, 0, none⟩) 1 1]).run Try.prog (w1.alloc (.cells #[.int .i64 k, .int .i64 n, .slice A ks.length c] 25)) = .ok v' w' ∧
   Part B w' v' (ts ++ [.mk k n ks]) ∧ Below B w1 w' ∧ w1.grownBy w' v.ownBlock := by
 obtain ⟨fp, h1, h2, h3⟩ := (hfr.alloc (.cells #[.int .i64 k, .int .i64 n, .slice A ks.length c] 25))
 have hs := hb.size
 obtain ⟨v', w', r1, r2, r3, r4⟩ := run_append_tm (t := .mk k n ks) (x1 := [.int .i64 k, .int .i64 n, .slice A ks.length c]) (f1 := fp) (c := 1) (ty := ty) hp (hb.alloc hs _) hB (OwT.iff.2 ⟨A, c, rfl, hl, h1⟩) h2 h3 hlen ⟨w1.heap.size, 0, none⟩ (by
  intro j u hj
  match j, hj with
  | 0, hj => simp only [List.getElem?_cons_zero, Option.some.injEq] at hj; subst hj; simp [Addr.add]
  | 1, hj => simp only [List.getElem?_cons_succ, List.getElem?_cons_zero, Option.some.injEq] at hj; subst hj; simp [Addr.add]
  | 2, hj => simp only [List.getElem?_cons_succ, List.getElem?_cons_zero, Option.some.injEq] at hj; subst hj; simp [Addr.add])
 exact ⟨v', w', r1, r2, ((Below.refl _ _).alloc (by omega) _).trans r3, grownBy_trans (grownBy_alloc_ (World.grownBy.refl _ _) _) r4⟩
theorem wpList_append_built (hp : Part B w0 v ts) (hb : Below w0.heap.size w0 w1) (hB : B ≤ w0.heap.size) (hfr : Fresh w0.heap.size w1 A ks) (hl : ks.length ≤ 9223372036854775807) {m : Nat} (hm : ts.length = m) (hlen : m ≤ 1099511627776)
  {ops : Array Oper} {rest : List Oper} {o : Oper} {a : Act} {Q : Exit → Act → World → Prop} (hgd : o.guard = none) (s x : Operand)
  (ho : o.op = .call { callee := .builtin .append, args := #[s, x], argTypes := #[23, 23] }) (hs : a.eval s = v) (hx : a.eval x = .slice (some ⟨w1.heap.size, 0, none⟩) 1 1)
  (h : ∀ A' c' w', Part B w' (.slice A' (m + 1) c') (ts ++ [.mk k n ks]) → Below B w1 w' → w1.grownBy w' v.ownBlock → wpList Try.prog ops Q rest (a.put o.dst (.slice A' (m + 1) c')) w') :
  wpList Try.prog ops Q (o :: rest) a (w1.alloc (.cells #[.int .i64 k, .int .i64 n, .slice A ks.length c] 25)) := by
 subst hm
 refine wpList_plain hgd fun K hK => ?_
 obtain ⟨v', w', hrun, h2, h3, h4⟩ := run_append_built (k := k) (n := n) (c := c) hp hb hB hfr hl hlen o.type
 unfold Oper.wp execOp
 simp only [ho, resolve, invoke, builtin, Sem.run_bind, Sem.run_pure, Result.andThen_ok, List.map_toArray, List.map_cons, List.map_nil, hs, hx, hrun]
 obtain ⟨A', c', rfl⟩ := h2.shape
 rw [List.length_append] at h2 ⊢
 exact hK _ _ (h A' c' w' h2 h3 h4)
end
end Go.Proofs.Ytddkehjdjfmhmaa
