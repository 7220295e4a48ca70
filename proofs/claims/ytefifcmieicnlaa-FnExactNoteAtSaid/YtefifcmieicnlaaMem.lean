/-
  Terms as a Lean type, and what it means that memory holds them: reading ('Rd'), owning ('Ow'), and how both survive later memory. No condition.
-/
import Derived.Test.YtefifcmieicnlaaRows
import Derived.WalkKit
namespace Go.Proofs.Ytefifcmieicnlaa
open Go.RowKit
set_option linter.unusedSimpArgs false
set_option linter.unusedVariables false

theorem hide {p : Prop} (h : p) : Hid p := h
theorem unhide {p : Prop} (h : Hid p) : p := h
theorem ret_int {k : IntKind} {a b : Int} (h : a = b) : Ending.returned (.int k a) = .returned (.int k b) := by rw [h]
theorem ret_bool {a b : Bool} (h : a = b) : Ending.returned (.bool a) = .returned (.bool b) := by rw [h]

/-- a term of Go's: kind, number, operands -/
inductive Tm where
  | mk (k n : Int) (ks : List Tm)

def Tm.k : Tm → Int | .mk k _ _ => k
def Tm.n : Tm → Int | .mk _ n _ => n
def Tm.ks : Tm → List Tm | .mk _ _ ks => ks
instance : Inhabited Tm := ⟨.mk 0 0 []⟩

theorem Tm.ind {p : Tm → Prop} (h : ∀ k n ks, (∀ t, t ∈ ks → p t) → p (.mk k n ks)) (t : Tm) : p t :=
  Tm.rec (motive_1 := p) (motive_2 := fun ks => ∀ t, t ∈ ks → p t) (fun k n ks ih => h k n ks ih) (fun _ ht => absurd ht List.not_mem_nil)
    (fun _ _ h1 h2 _ ht => (List.mem_cons.1 ht).elim (fun e => e ▸ h1) (fun e => h2 _ e)) t

theorem Tm.ind2 {p : Tm → Prop} {q : List Tm → Prop} (h1 : ∀ k n ks, q ks → p (.mk k n ks)) (h2 : q []) (h3 : ∀ t ts, p t → q ts → q (t :: ts)) : (∀ t, p t) ∧ (∀ ts, q ts) :=
  ⟨Tm.rec (motive_1 := p) (motive_2 := q) h1 h2 h3, Tm.rec_1 (motive_1 := p) (motive_2 := q) h1 h2 h3⟩

mutual
/-- how many nodes -/
def Tm.size : Tm → Nat | .mk _ _ ks => sizes ks + 1
def sizes : List Tm → Nat | [] => 0 | t :: ts => t.size + sizes ts
end

theorem sizes_le {ts : List Tm} {t : Tm} (h : t ∈ ts) : t.size ≤ sizes ts := by
  induction ts with
  | nil => cases h
  | cons x r ih =>
    rw [sizes]
    rcases List.mem_cons.1 h with rfl | h
    · omega
    · have := ih h; omega
theorem Tm.size_pos (t : Tm) : 0 < t.size := by cases t; rw [Tm.size]; omega
theorem length_le_sizes (ts : List Tm) : ts.length ≤ sizes ts := by
  induction ts with
  | nil => simp [sizes]
  | cons x r ih => rw [sizes, List.length_cons]; have := x.size_pos; omega
theorem sizes_append (a b : List Tm) : sizes (a ++ b) = sizes a + sizes b := by
  induction a with
  | nil => simp [sizes]
  | cons x r ih => simp only [List.cons_append, sizes, ih]; omega

mutual
/-- the term lies as element i of the row at b, off -/
def RdC (w : World) (b off i : Nat) : Tm → Prop
  | .mk k n ks => w.cell? ⟨b, off + i * 3, none⟩ = some (.int .i64 k) ∧ w.cell? ⟨b, off + i * 3 + 1, none⟩ = some (.int .i64 n) ∧
      ∃ A c, w.cell? ⟨b, off + i * 3 + 2, none⟩ = some (.slice A ks.length c) ∧ ks.length ≤ 9223372036854775807 ∧ Rd w A 0 ks
/-- the terms lie at the address, from element i on -/
def Rd (w : World) (A : Option Addr) (i : Nat) : List Tm → Prop
  | [] => True
  | t :: ts => (∃ b off, A = some ⟨b, off, none⟩ ∧ RdC w b off i t) ∧ Rd w A (i + 1) ts
end

/-- every cell that was there holds what it held -/
def Keeps (w w' : World) : Prop := ∀ a v, w.cell? a = some v → w'.cell? a = some v
theorem Keeps.refl (w : World) : Keeps w w := fun _ _ h => h
theorem Keeps.trans {a b c : World} (h : Keeps a b) (k : Keeps b c) : Keeps a c := fun x v e => k x v (h x v e)
theorem Keeps.of_below {w w' : World} (h : Below w.heap.size w w') : Keeps w w' := fun a _ e => (h.cell (World.block_lt_of_cell? w a e)).trans e
theorem Keeps.alloc (w : World) (o : Obj) : Keeps w (w.alloc o) := fun a _ e => (World.cell?_alloc_lt w o a (World.block_lt_of_cell? w a e)).trans e

theorem Rd.nil {w : World} {A : Option Addr} {i : Nat} : Rd w A i [] := by simp only [Rd]
theorem Rd.cons_iff {w : World} {A : Option Addr} {i : Nat} {t : Tm} {ts : List Tm} : Rd w A i (t :: ts) ↔ (∃ b off, A = some ⟨b, off, none⟩ ∧ RdC w b off i t) ∧ Rd w A (i + 1) ts := by
  simp only [Rd]
theorem RdC.iff {w : World} {b off i : Nat} {k n : Int} {ks : List Tm} : RdC w b off i (.mk k n ks) ↔
    w.cell? ⟨b, off + i * 3, none⟩ = some (.int .i64 k) ∧ w.cell? ⟨b, off + i * 3 + 1, none⟩ = some (.int .i64 n) ∧
      ∃ A c, w.cell? ⟨b, off + i * 3 + 2, none⟩ = some (.slice A ks.length c) ∧ ks.length ≤ 9223372036854775807 ∧ Rd w A 0 ks := by
  simp only [RdC]

theorem rd_keeps {w w' : World} (h : Keeps w w') : (∀ t b off i, RdC w b off i t → RdC w' b off i t) ∧ (∀ ks A i, Rd w A i ks → Rd w' A i ks) := by
  refine Tm.ind2 (fun k n ks ih b off i hh => ?_) (fun _ _ _ => Rd.nil) (fun t ts h1 h2 A i hh => ?_)
  · rw [RdC.iff] at hh ⊢
    obtain ⟨h1, h2, A, c, h3, h4, h5⟩ := hh
    exact ⟨h _ _ h1, h _ _ h2, A, c, h _ _ h3, h4, ih _ _ h5⟩
  · rw [Rd.cons_iff] at hh ⊢
    obtain ⟨⟨b, off, hA, hc⟩, hr⟩ := hh
    exact ⟨⟨b, off, hA, h1 _ _ _ hc⟩, h2 _ _ hr⟩
theorem Rd.keeps {w w' : World} {A : Option Addr} {i : Nat} {ks : List Tm} (hr : Rd w A i ks) (h : Keeps w w') : Rd w' A i ks := (rd_keeps h).2 _ _ _ hr
theorem Rd.below {w w' : World} {A : Option Addr} {i : Nat} {ks : List Tm} (hr : Rd w A i ks) (h : Below w.heap.size w w') : Rd w' A i ks := hr.keeps (.of_below h)
theorem Rd.alloc {w : World} {A : Option Addr} {i : Nat} {ks : List Tm} (hr : Rd w A i ks) (o : Obj) : Rd (w.alloc o) A i ks := hr.keeps (.alloc w o)
theorem Rd.drew {w : World} {A : Option Addr} {i : Nat} {ks : List Tm} (hr : Rd w A i ks) : Rd w.drew A i ks := hr.keeps fun _ _ h => h

/-- element j, asked for -/
theorem Rd.get {w : World} {A : Option Addr} {ks : List Tm} : ∀ {i : Nat}, Rd w A i ks → ∀ {j : Nat} (hj : j < ks.length), ∃ b off, A = some ⟨b, off, none⟩ ∧ RdC w b off (i + j) ks[j] := by
  induction ks with
  | nil => intro i _ j hj; simp at hj
  | cons t ts ih =>
    intro i hr j hj
    rw [Rd.cons_iff] at hr
    cases j with
    | zero => simpa using hr.1
    | succ j =>
      obtain ⟨b, off, hA, hc⟩ := ih hr.2 (j := j) (by simpa using hj)
      exact ⟨b, off, hA, by rw [show i + (j + 1) = i + 1 + j from by omega]; simpa using hc⟩
theorem Rd.of_get {w : World} {A : Option Addr} {ks : List Tm} : ∀ {i : Nat}, (∀ j (hj : j < ks.length), ∃ b off, A = some ⟨b, off, none⟩ ∧ RdC w b off (i + j) ks[j]) → Rd w A i ks := by
  induction ks with
  | nil => intro i _; exact Rd.nil
  | cons t ts ih =>
    intro i h
    refine Rd.cons_iff.2 ⟨(by obtain ⟨b, off, hA, hc⟩ := h 0 (by simp); exact ⟨b, off, hA, hc⟩), ih fun j hj => ?_⟩
    obtain ⟨b, off, hA, hc⟩ := h (j + 1) (by simpa using hj)
    exact ⟨b, off, hA, by rw [show i + 1 + j = i + (j + 1) from by omega]; simpa using hc⟩

/-- a block that is known whole -/
def Blk (w : World) (g : Nat) (cs : Array Value) : Prop := ∃ t, w.heap[g]? = some (.cells cs t (0, 0))
section
variable {w w' : World} {g : Nat} {cs : Array Value}
theorem Blk.lt (h : Blk w g cs) : g < w.heap.size := by obtain ⟨t, h⟩ := h; exact (Array.getElem?_eq_some_iff.1 h).1
theorem Blk.cell (h : Blk w g cs) (i : Nat) : w.cell? ⟨g, i, none⟩ = cs[i]? := by obtain ⟨t, h⟩ := h; exact cell_of_row w g i cs t (0, 0) h
theorem Blk.frozen (h : Blk w g cs) (i : Nat) : w.frozen? ⟨g, i, none⟩ = false := by
  obtain ⟨t, h⟩ := h
  simp [World.frozen?, h]
theorem Blk.new (w : World) (t : TypeId) (cs : Array Value) : Blk (w.alloc (.cells cs t)) w.heap.size cs := ⟨t, heap_alloc_new w _⟩
theorem Blk.new_ {n : Nat} (w : World) (t : TypeId) (cs : Array Value) (h : n = w.heap.size) : Blk (w.alloc (.cells cs t)) n cs := by subst h; exact ⟨t, heap_alloc_new w _⟩
theorem Blk.drew (h : Blk w g cs) : Blk w.drew g cs := h
theorem Blk.alloc (h : Blk w g cs) (o : Obj) : Blk (w.alloc o) g cs := by have hl := h.lt; obtain ⟨t, h⟩ := h; exact ⟨t, (Below.heap_alloc w o g hl).trans h⟩
theorem Blk.set_ (h : Blk w g cs) (i : Nat) (u : Value) : Blk (w.setCell ⟨g, i, none⟩ u) g (cs.setIfInBounds i u) := by
  obtain ⟨t, h⟩ := h
  refine ⟨t, ?_⟩
  simp [World.setCell, Array.getElem?_modify, h]
theorem Blk.far (h : Blk w g cs) {p : Addr} (hp : g ≠ p.block) (u : Value) : Blk (w.setCell p u) g cs := by obtain ⟨t, h⟩ := h; exact ⟨t, (Below.heap_setCell w p u g hp).trans h⟩
theorem Blk.below {B : Nat} (h : Blk w g cs) (hb : Below B w w') (hg : g < B) : Blk w' g cs := by obtain ⟨t, h⟩ := h; exact ⟨t, (hb.block g hg).trans h⟩
theorem Blk.keep (h : Blk w g cs) (hb : Below w.heap.size w w') : Blk w' g cs := h.below hb h.lt
theorem Blk.grown {row : Option Nat} (h : Blk w g cs) (hb : w.grownBy w' row) (hg : some g ≠ row) : Blk w' g cs := by have hl := h.lt; obtain ⟨t, h⟩ := h; exact ⟨t, (hb.block g hl hg).trans h⟩
theorem Blk.at_ (h : Blk w g cs) {i : Nat} {v : Value} (hi : cs[i]? = some v) : w.cell? ⟨g, i, none⟩ = some v := (h.cell i).trans hi
theorem Blk.rule {wx : World} (h : Blk wx g cs) {i : Nat} {v : Value} (hi : cs[i]? = some v) : ∀ w' : World, Below wx.heap.size wx w' → w'.cell? ⟨g, i, none⟩ = some v :=
  fun _ hb => (hb.cell h.lt).trans (h.at_ hi)
theorem rule_of {wx : World} {b o : Nat} {v : Value} (h : wx.cell? ⟨b, o, none⟩ = some v) : ∀ w' : World, Below wx.heap.size wx w' → w'.cell? ⟨b, o, none⟩ = some v :=
  fun _ hb => (hb.cell (World.block_lt_of_cell? wx _ h)).trans h
theorem bcell {W w1 : World} (hb : Below W.heap.size W w1) : (∀ b o, b < W.heap.size → w1.cell? ⟨b, o, none⟩ = W.cell? ⟨b, o, none⟩) ∧ (∀ b o, b < W.heap.size → w1.frozen? ⟨b, o, none⟩ = W.frozen? ⟨b, o, none⟩) :=
  ⟨fun b o h => hb.cell (p := ⟨b, o, none⟩) h, fun b o h => hb.frozen (p := ⟨b, o, none⟩) h⟩
end
/-- the world under a name -/
theorem name_world {P : Program} {c : Code} {Q : Exit → Act → World → Prop} {a : Act} {w : World} (h : ∀ wx, wx = w → c.wp P Q a wx) : c.wp P Q a w := h w rfl

/-- element j, laid out -/
theorem Rd.at_ {w : World} {A : Option Addr} {ks : List Tm} (hr : Rd w A 0 ks) {j : Nat} (hj : j < ks.length) :
    ∃ b off k n ks' A' c, A = some ⟨b, off, none⟩ ∧ ks[j] = .mk k n ks' ∧ w.cell? ⟨b, off + j * 3, none⟩ = some (.int .i64 k) ∧ w.cell? ⟨b, off + j * 3 + 1, none⟩ = some (.int .i64 n) ∧
      w.cell? ⟨b, off + j * 3 + 2, none⟩ = some (.slice A' ks'.length c) ∧ ks'.length ≤ 9223372036854775807 ∧ Rd w A' 0 ks' := by
  obtain ⟨b, off, hA, hc⟩ := hr.get hj
  rw [Nat.zero_add] at hc
  generalize ks[j] = t at hc ⊢
  obtain ⟨k, n, ks'⟩ := t
  obtain ⟨h1, h2, A', c, h3, h4, h5⟩ := RdC.iff.1 hc
  exact ⟨b, off, k, n, ks', A', c, hA, rfl, h1, h2, h3, h4, h5⟩

mutual
/-- the same, all in blocks of which p holds -/
def RdPC (p : Nat → Prop) (w : World) (b off i : Nat) : Tm → Prop
  | .mk k n ks => p b ∧ w.cell? ⟨b, off + i * 3, none⟩ = some (.int .i64 k) ∧ w.cell? ⟨b, off + i * 3 + 1, none⟩ = some (.int .i64 n) ∧
      ∃ A c, w.cell? ⟨b, off + i * 3 + 2, none⟩ = some (.slice A ks.length c) ∧ ks.length ≤ 9223372036854775807 ∧ RdP p w A 0 ks
def RdP (p : Nat → Prop) (w : World) (A : Option Addr) (i : Nat) : List Tm → Prop
  | [] => True
  | t :: ts => (∃ b off, A = some ⟨b, off, none⟩ ∧ RdPC p w b off i t) ∧ RdP p w A (i + 1) ts
end
section
variable {p q : Nat → Prop} {w w' : World} {A : Option Addr} {i : Nat} {ks : List Tm}
theorem RdP.nil : RdP p w A i [] := by simp only [RdP]
theorem RdP.cons_iff {t : Tm} {ts : List Tm} : RdP p w A i (t :: ts) ↔ (∃ b off, A = some ⟨b, off, none⟩ ∧ RdPC p w b off i t) ∧ RdP p w A (i + 1) ts := by
  simp only [RdP]
theorem RdPC.iff {b off : Nat} {k n : Int} : RdPC p w b off i (.mk k n ks) ↔
    p b ∧ w.cell? ⟨b, off + i * 3, none⟩ = some (.int .i64 k) ∧ w.cell? ⟨b, off + i * 3 + 1, none⟩ = some (.int .i64 n) ∧
      ∃ A c, w.cell? ⟨b, off + i * 3 + 2, none⟩ = some (.slice A ks.length c) ∧ ks.length ≤ 9223372036854775807 ∧ RdP p w A 0 ks := by
  simp only [RdPC]
theorem rdp_keeps (hq : ∀ b, p b → q b) (h : ∀ b o v, p b → w.cell? ⟨b, o, none⟩ = some v → w'.cell? ⟨b, o, none⟩ = some v) : (∀ t b off i, RdPC p w b off i t → RdPC q w' b off i t) ∧ (∀ ks A i, RdP p w A i ks → RdP q w' A i ks) := by
  refine Tm.ind2 (fun k n ks ih b off i hh => ?_) (fun _ _ _ => RdP.nil) (fun t ts h1 h2 A i hh => ?_)
  · rw [RdPC.iff] at hh ⊢
    obtain ⟨hp, h1, h2, A, c, h3, h4, h5⟩ := hh
    exact ⟨hq _ hp, h _ _ _ hp h1, h _ _ _ hp h2, A, c, h _ _ _ hp h3, h4, ih _ _ h5⟩
  · rw [RdP.cons_iff] at hh ⊢
    obtain ⟨⟨b, off, hA, hc⟩, hr⟩ := hh
    exact ⟨⟨b, off, hA, h1 _ _ _ hc⟩, h2 _ _ hr⟩
theorem RdP.keeps (hr : RdP p w A i ks) (h : ∀ b o v, p b → w.cell? ⟨b, o, none⟩ = some v → w'.cell? ⟨b, o, none⟩ = some v) : RdP p w' A i ks := (rdp_keeps (fun _ h => h) h).2 _ _ _ hr
theorem RdP.keepsAll (hr : RdP p w A i ks) (h : Keeps w w') : RdP p w' A i ks := hr.keeps fun _ _ _ _ e => h _ _ e
theorem RdP.below (hr : RdP p w A i ks) (h : Below w.heap.size w w') : RdP p w' A i ks := hr.keepsAll (.of_below h)
theorem RdP.alloc (hr : RdP p w A i ks) (o : Obj) : RdP p (w.alloc o) A i ks := hr.keepsAll (.alloc w o)
theorem RdP.drew (hr : RdP p w A i ks) : RdP p w.drew A i ks := hr.keeps fun _ _ _ _ e => e
theorem RdP.mono (hr : RdP p w A i ks) (hq : ∀ b, p b → q b) : RdP q w A i ks := (rdp_keeps hq (fun _ _ _ _ e => e)).2 _ _ _ hr
theorem RdP.blocks (hr : RdP p w A i ks) (h : ∀ b, p b → b < w.heap.size → w'.heap[b]? = w.heap[b]?) : RdP p w' A i ks :=
  hr.keeps fun b o v hb e => (World.cell?_of_block (w := w) (a := ⟨b, o, none⟩) (h b hb (World.block_lt_of_cell? w _ e))).trans e
theorem RdP.grown {row : Option Nat} (hr : RdP p w A i ks) (h : w.grownBy w' row) (hp : ∀ b, p b → some b ≠ row) : RdP p w' A i ks := hr.blocks fun b hb hl => h.block b hl (hp b hb)
theorem RdP.setCell (hr : RdP p w A i ks) {a : Addr} (hp : ¬ p a.block) (u : Value) : RdP p (w.setCell a u) A i ks := hr.blocks fun b hb _ => Below.heap_setCell w a u b (fun e => hp (e ▸ hb))
theorem rdp_rd : (∀ t b off i, RdPC p w b off i t → RdC w b off i t) ∧ (∀ ks A i, RdP p w A i ks → Rd w A i ks) := by
  refine Tm.ind2 (fun k n ks ih b off i hh => ?_) (fun _ _ _ => Rd.nil) (fun t ts h1 h2 A i hh => ?_)
  · obtain ⟨hp, h1, h2, A, c, h3, h4, h5⟩ := RdPC.iff.1 hh
    exact RdC.iff.2 ⟨h1, h2, A, c, h3, h4, ih _ _ h5⟩
  · obtain ⟨⟨b, off, hA, hc⟩, hr⟩ := RdP.cons_iff.1 hh
    exact Rd.cons_iff.2 ⟨⟨b, off, hA, h1 _ _ _ hc⟩, h2 _ _ hr⟩
theorem RdP.rd (h : RdP p w A i ks) : Rd w A i ks := rdp_rd.2 _ _ _ h
theorem rd_rdp : (∀ t b off i, RdC w b off i t → RdPC (· < w.heap.size) w b off i t) ∧ (∀ ks A i, Rd w A i ks → RdP (· < w.heap.size) w A i ks) := by
  refine Tm.ind2 (fun k n ks ih b off i hh => ?_) (fun _ _ _ => RdP.nil) (fun t ts h1 h2 A i hh => ?_)
  · obtain ⟨h1, h2, A, c, h3, h4, h5⟩ := RdC.iff.1 hh
    exact RdPC.iff.2 ⟨World.block_lt_of_cell? w _ h1, h1, h2, A, c, h3, h4, ih _ _ h5⟩
  · obtain ⟨⟨b, off, hA, hc⟩, hr⟩ := Rd.cons_iff.1 hh
    exact RdP.cons_iff.2 ⟨⟨b, off, hA, h1 _ _ _ hc⟩, h2 _ _ hr⟩
/-- what lies in memory lies in blocks that are there -/
theorem Rd.rdp (h : Rd w A i ks) : RdP (· < w.heap.size) w A i ks := rd_rdp.2 _ _ _ h
theorem RdP.get : ∀ {i : Nat}, RdP p w A i ks → ∀ {j : Nat} (hj : j < ks.length), ∃ b off, A = some ⟨b, off, none⟩ ∧ RdPC p w b off (i + j) ks[j] := by
  induction ks with
  | nil => intro i _ j hj; simp at hj
  | cons t ts ih =>
    intro i hr j hj
    rw [RdP.cons_iff] at hr
    cases j with
    | zero => simpa using hr.1
    | succ j =>
      obtain ⟨b, off, hA, hc⟩ := ih hr.2 (j := j) (by simpa using hj)
      exact ⟨b, off, hA, by rw [show i + (j + 1) = i + 1 + j from by omega]; simpa using hc⟩
theorem RdP.at_ (hr : RdP p w A 0 ks) {j : Nat} (hj : j < ks.length) :
    ∃ b off k n ks' A' c, A = some ⟨b, off, none⟩ ∧ ks[j] = .mk k n ks' ∧ w.cell? ⟨b, off + j * 3, none⟩ = some (.int .i64 k) ∧ w.cell? ⟨b, off + j * 3 + 1, none⟩ = some (.int .i64 n) ∧
      w.cell? ⟨b, off + j * 3 + 2, none⟩ = some (.slice A' ks'.length c) ∧ ks'.length ≤ 9223372036854775807 ∧ RdP p w A' 0 ks' := by
  obtain ⟨b, off, hA, hc⟩ := hr.get hj
  rw [Nat.zero_add] at hc
  generalize ks[j] = t at hc ⊢
  obtain ⟨k, n, ks'⟩ := t
  obtain ⟨hp, h1, h2, A', c, h3, h4, h5⟩ := RdPC.iff.1 hc
  exact ⟨b, off, k, n, ks', A', c, hA, rfl, h1, h2, h3, h4, h5⟩
end

theorem only_alloc {a w : World} {row : Option Nat} (h : a.grownBy w row) (o : Obj) : a.grownBy (w.alloc o) row :=
  ⟨h.os, h.tape, h.output, Nat.le_trans h.size (by simp), fun i hi hne => (Below.heap_alloc w o i (Nat.lt_of_lt_of_le hi h.size)).trans (h.block i hi hne)⟩
theorem only_drew {a w : World} {row : Option Nat} (h : a.grownBy w row) : a.grownBy w.drew row := ⟨h.os, h.tape, h.output, h.size, h.block⟩
theorem only_trans {a w w' : World} {row : Option Nat} (h : a.grownBy w row) (k : w.grownBy w' row) : a.grownBy w' row :=
  ⟨k.os.trans h.os, k.tape.trans h.tape, k.output.trans h.output, Nat.le_trans h.size k.size, fun i hi hne => (k.block i (Nat.lt_of_lt_of_le hi h.size) hne).trans (h.block i hi hne)⟩
theorem only_below {a w w' : World} {row : Option Nat} (h : a.grownBy w row) (k : Below w.heap.size w w') : a.grownBy w' row :=
  ⟨k.os.trans h.os, k.tape.trans h.tape, k.output.trans h.output, Nat.le_trans h.size k.size, fun i hi hne => (k.block i (Nat.lt_of_lt_of_le hi h.size)).trans (h.block i hi hne)⟩
theorem only_setCell {a w : World} {g : Nat} (h : a.grownBy w (some g)) {p : Addr} (hp : p.block = g ∨ a.heap.size ≤ p.block) (u : Value) : a.grownBy (w.setCell p u) (some g) :=
  ⟨h.os, h.tape, h.output, by simpa [World.setCell] using h.size, fun i hi hne => (Below.heap_setCell w p u i (by
    rintro rfl
    rcases hp with hp | hp
    · exact hne (by rw [hp])
    · omega)).trans (h.block i hi hne)⟩

end Go.Proofs.Ytefifcmieicnlaa
