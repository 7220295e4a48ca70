/-
  Texts of this claim, merged: contracts of the functions that the law reaches. No condition.
-/
import Derived.Test.YtjpgdfndlmipcaaDoorK1
import Derived.Test.YtjpgdfndlmipcaaDoorK2
import Derived.Maps.AppendAt
import Derived.Deep.AppendLies
import Derived.RegionTactic
import Derived.OwnWalk
import Derived.Laws.MakeOwn
import Derived.WalkSpells
import Derived.WalkLawsBesides

namespace Go.Proofs.YtjpgdfndlmipcaaDoor.Cd
open Go.RowKit
set_option linter.unusedSimpArgs false
set_option linter.unusedVariables false

mutual
/-- three cells that hold a term; the blocks of its operands, in order -/
def OwT (w : World) : Tm → List Value → List Nat → Prop
  | .mk k n ks, xs, fp => ∃ A c, xs = [.int .i64 k, .int .i64 n, .slice A ks.length c] ∧ ks.length ≤ 9223372036854775807 ∧
      ((ks = [] ∧ fp = []) ∨ ∃ g cur e f, ks ≠ [] ∧ A = some ⟨g, 0, none⟩ ∧ w.heap[g]? = some (.cells cur e (0, 0)) ∧ fp = g :: f ∧ OwX w ks (cur.toList.take (ks.length * 3)) f)
/-- cells that hold terms, one behind the other -/
def OwX (w : World) : List Tm → List Value → List Nat → Prop
  | [], xs, fp => xs = [] ∧ fp = []
  | t :: ts, xs, fp => ∃ x1 x2 f1 f2, xs = x1 ++ x2 ∧ fp = f1 ++ f2 ∧ OwT w t x1 f1 ∧ OwX w ts x2 f2
end

/-- a slice's address, whose block holds the terms -/
def Ow (w : World) (A : Option Addr) (ks : List Tm) (fp : List Nat) : Prop :=
  (ks = [] ∧ fp = []) ∨ ∃ g cur e f, ks ≠ [] ∧ A = some ⟨g, 0, none⟩ ∧ w.heap[g]? = some (.cells cur e (0, 0)) ∧ fp = g :: f ∧ OwX w ks (cur.toList.take (ks.length * 3)) f

theorem OwT.iff {w : World} {k n : Int} {ks : List Tm} {xs : List Value} {fp : List Nat} : OwT w (.mk k n ks) xs fp ↔
    ∃ A c, xs = [.int .i64 k, .int .i64 n, .slice A ks.length c] ∧ ks.length ≤ 9223372036854775807 ∧ Ow w A ks fp := by
  simp only [OwT, Ow]
theorem OwX.nil_iff {w : World} {xs : List Value} {fp : List Nat} : OwX w [] xs fp ↔ xs = [] ∧ fp = [] := by simp only [OwX]
theorem OwX.cons_iff {w : World} {t : Tm} {ts : List Tm} {xs : List Value} {fp : List Nat} : OwX w (t :: ts) xs fp ↔
    ∃ x1 x2 f1 f2, xs = x1 ++ x2 ∧ fp = f1 ++ f2 ∧ OwT w t x1 f1 ∧ OwX w ts x2 f2 := by simp only [OwX]
theorem OwX.nil {w : World} : OwX w [] [] [] := OwX.nil_iff.2 ⟨rfl, rfl⟩
theorem OwT.length {w : World} {t : Tm} {xs : List Value} {fp : List Nat} (h : OwT w t xs fp) : xs.length = 3 := by
  cases t
  obtain ⟨A, c, rfl, _⟩ := OwT.iff.1 h
  rfl
theorem OwX.length {w : World} {ts : List Tm} : ∀ {xs : List Value} {fp : List Nat}, OwX w ts xs fp → xs.length = ts.length * 3 := by
  induction ts with
  | nil => intro xs fp h; rw [(OwX.nil_iff.1 h).1]; rfl
  | cons t ts ih =>
    intro xs fp h
    obtain ⟨x1, x2, f1, f2, rfl, rfl, h1, h2⟩ := OwX.cons_iff.1 h
    rw [List.length_append, h1.length, ih h2, List.length_cons]; omega
theorem OwX.append {w : World} {ts us : List Tm} : ∀ {xs ys : List Value} {f g : List Nat}, OwX w ts xs f → OwX w us ys g → OwX w (ts ++ us) (xs ++ ys) (f ++ g) := by
  induction ts with
  | nil => intro xs ys f g h k; obtain ⟨rfl, rfl⟩ := OwX.nil_iff.1 h; exact k
  | cons t ts ih =>
    intro xs ys f g h k
    obtain ⟨x1, x2, f1, f2, rfl, rfl, h1, h2⟩ := OwX.cons_iff.1 h
    rw [List.cons_append]
    exact OwX.cons_iff.2 ⟨x1, x2 ++ ys, f1, f2 ++ g, by rw [List.append_assoc], by rw [List.append_assoc], h1, ih h2 k⟩
theorem OwX.one {w : World} {t : Tm} {xs : List Value} {f : List Nat} (h : OwT w t xs f) : OwX w [t] xs f :=
  OwX.cons_iff.2 ⟨xs, [], f, [], by simp, by simp, h, OwX.nil⟩

theorem OwT.oneCell {w : World} {t : Tm} {xs : List Value} {fp : List Nat} (h : OwT w t xs fp) : ∀ u, u ∈ xs → u.oneCell' = true := by
  cases t
  obtain ⟨A, c, rfl, _⟩ := OwT.iff.1 h
  intro u hu
  simp only [List.mem_cons, List.not_mem_nil, or_false] at hu
  rcases hu with rfl | rfl | rfl <;> rfl

theorem own_frame {w w' : World} : (∀ t xs fp, OwT w t xs fp → (∀ b, b ∈ fp → w'.heap[b]? = w.heap[b]?) → OwT w' t xs fp) ∧ (∀ ts xs fp, OwX w ts xs fp → (∀ b, b ∈ fp → w'.heap[b]? = w.heap[b]?) → OwX w' ts xs fp) := by
  refine Tm.ind2 (fun k n ks ih xs fp h hk => ?_) (fun xs fp h _ => OwX.nil_iff.2 (OwX.nil_iff.1 h)) (fun t ts h1 h2 xs fp h hk => ?_)
  · obtain ⟨A, c, rfl, hl, h⟩ := OwT.iff.1 h
    refine OwT.iff.2 ⟨A, c, rfl, hl, ?_⟩
    rcases h with ⟨rfl, rfl⟩ | ⟨g, cur, e, f, hne, rfl, hg, rfl, hx⟩
    · exact .inl ⟨rfl, rfl⟩
    · exact .inr ⟨g, cur, e, f, hne, rfl, (hk g (by simp)).trans hg, rfl, ih _ _ hx fun b hb => hk b (by simp [hb])⟩
  · obtain ⟨x1, x2, f1, f2, rfl, rfl, ht, hx⟩ := OwX.cons_iff.1 h
    exact OwX.cons_iff.2 ⟨x1, x2, f1, f2, rfl, rfl, h1 _ _ ht fun b hb => hk b (by simp [hb]), h2 _ _ hx fun b hb => hk b (by simp [hb])⟩
theorem OwX.frame {w w' : World} {ts : List Tm} {xs : List Value} {fp : List Nat} (h : OwX w ts xs fp) (hk : ∀ b, b ∈ fp → w'.heap[b]? = w.heap[b]?) : OwX w' ts xs fp := own_frame.2 _ _ _ h hk
theorem OwT.frame {w w' : World} {t : Tm} {xs : List Value} {fp : List Nat} (h : OwT w t xs fp) (hk : ∀ b, b ∈ fp → w'.heap[b]? = w.heap[b]?) : OwT w' t xs fp := own_frame.1 _ _ _ h hk
theorem Ow.frame {w w' : World} {A : Option Addr} {ks : List Tm} {fp : List Nat} (h : Ow w A ks fp) (hk : ∀ b, b ∈ fp → w'.heap[b]? = w.heap[b]?) : Ow w' A ks fp := by
  rcases h with ⟨rfl, rfl⟩ | ⟨g, cur, e, f, hne, rfl, hg, rfl, hx⟩
  · exact .inl ⟨rfl, rfl⟩
  · exact .inr ⟨g, cur, e, f, hne, rfl, (hk g (by simp)).trans hg, rfl, hx.frame fun b hb => hk b (by simp [hb])⟩

theorem own_lt {w : World} : (∀ t xs fp, OwT w t xs fp → ∀ b, b ∈ fp → b < w.heap.size) ∧ (∀ ts xs fp, OwX w ts xs fp → ∀ b, b ∈ fp → b < w.heap.size) := by
  refine Tm.ind2 (fun k n ks ih xs fp h b hb => ?_) (fun xs fp h b hb => ?_) (fun t ts h1 h2 xs fp h b hb => ?_)
  · obtain ⟨A, c, rfl, hl, h⟩ := OwT.iff.1 h
    rcases h with ⟨rfl, rfl⟩ | ⟨g, cur, e, f, hne, rfl, hg, rfl, hx⟩
    · simp at hb
    · rcases List.mem_cons.1 hb with rfl | hb
      · exact (Array.getElem?_eq_some_iff.1 hg).1
      · exact ih _ _ hx b hb
  · rw [(OwX.nil_iff.1 h).2] at hb; simp at hb
  · obtain ⟨x1, x2, f1, f2, rfl, rfl, ht, hx⟩ := OwX.cons_iff.1 h
    rcases List.mem_append.1 hb with hb | hb
    · exact h1 _ _ ht b hb
    · exact h2 _ _ hx b hb
theorem OwX.lt {w : World} {ts : List Tm} {xs : List Value} {fp : List Nat} (h : OwX w ts xs fp) : ∀ b, b ∈ fp → b < w.heap.size := own_lt.2 _ _ _ h
theorem OwT.lt {w : World} {t : Tm} {xs : List Value} {fp : List Nat} (h : OwT w t xs fp) : ∀ b, b ∈ fp → b < w.heap.size := own_lt.1 _ _ _ h
theorem Ow.lt {w : World} {A : Option Addr} {ks : List Tm} {fp : List Nat} (h : Ow w A ks fp) : ∀ b, b ∈ fp → b < w.heap.size := by
  intro b hb
  rcases h with ⟨rfl, rfl⟩ | ⟨g, cur, e, f, hne, rfl, hg, rfl, hx⟩
  · simp at hb
  · rcases List.mem_cons.1 hb with rfl | hb
    · exact (Array.getElem?_eq_some_iff.1 hg).1
    · exact hx.lt b hb

theorem own_rd {w : World} : (∀ t xs fp, OwT w t xs fp → ∀ g off i, (∀ j u, xs[j]? = some u → w.cell? ⟨g, off + i * 3 + j, none⟩ = some u) → RdC w g off i t) ∧
    (∀ ts xs fp, OwX w ts xs fp → ∀ g off i, (∀ j u, xs[j]? = some u → w.cell? ⟨g, off + i * 3 + j, none⟩ = some u) → Rd w (some ⟨g, off, none⟩) i ts) := by
  refine Tm.ind2 (fun k n ks ih xs fp h g off i hc => ?_) (fun xs fp h g off i hc => Rd.nil) (fun t ts h1 h2 xs fp h g off i hc => ?_)
  · obtain ⟨A, c, rfl, hl, h⟩ := OwT.iff.1 h
    refine RdC.iff.2 ⟨hc 0 _ rfl, hc 1 _ rfl, A, c, hc 2 _ rfl, hl, ?_⟩
    rcases h with ⟨rfl, rfl⟩ | ⟨g', cur, e, f, hne, rfl, hg, rfl, hx⟩
    · exact Rd.nil
    · refine ih _ _ hx g' 0 0 fun j u hu => ?_
      have e0 : 0 + 0 * 3 + j = j := by omega
      rw [e0, cell_of_row w g' j cur e (0, 0) hg]
      rw [List.getElem?_take] at hu
      split at hu
      · simpa using hu
      · cases hu
  · obtain ⟨x1, x2, f1, f2, rfl, rfl, ht, hx⟩ := OwX.cons_iff.1 h
    have hl := ht.length
    refine Rd.cons_iff.2 ⟨⟨g, off, rfl, h1 _ _ ht g off i fun j u hu => hc j u ?_⟩, h2 _ _ hx g off (i + 1) fun j u hu => ?_⟩
    · rw [List.getElem?_append_left (by have := (List.getElem?_eq_some_iff.1 hu).1; omega)]; exact hu
    · have := hc (3 + j) u (by rw [List.getElem?_append_right (by omega), hl]; simpa using hu)
      rw [show off + (i + 1) * 3 + j = off + i * 3 + (3 + j) from by omega]; exact this
theorem Ow.rd {w : World} {A : Option Addr} {ks : List Tm} {fp : List Nat} (h : Ow w A ks fp) : Rd w A 0 ks := by
  rcases h with ⟨rfl, rfl⟩ | ⟨g, cur, e, f, hne, rfl, hg, rfl, hx⟩
  · exact Rd.nil
  · refine own_rd.2 _ _ _ hx g 0 0 fun j u hu => ?_
    have e0 : 0 + 0 * 3 + j = j := by omega
    rw [e0, cell_of_row w g j cur e (0, 0) hg]
    rw [List.getElem?_take] at hu
    split at hu
    · simpa using hu
    · cases hu

/-- the terms lie in blocks of their own, all from B on -/
def Fresh (B : Nat) (w : World) (A : Option Addr) (ks : List Tm) : Prop := ∃ fp, Ow w A ks fp ∧ fp.Nodup ∧ ∀ b, b ∈ fp → B ≤ b
theorem Fresh.rd {B : Nat} {w : World} {A : Option Addr} {ks : List Tm} (h : Fresh B w A ks) : Rd w A 0 ks := by
  obtain ⟨fp, h, _⟩ := h; exact h.rd
theorem Fresh.nil {B : Nat} {w : World} {A : Option Addr} : Fresh B w A [] := ⟨[], .inl ⟨rfl, rfl⟩, List.nodup_nil, by simp⟩
theorem Fresh.mono {B B' : Nat} {w : World} {A : Option Addr} {ks : List Tm} (h : Fresh B w A ks) (hB : B' ≤ B) : Fresh B' w A ks := by
  obtain ⟨fp, h, hn, hb⟩ := h; exact ⟨fp, h, hn, fun b hx => Nat.le_trans hB (hb b hx)⟩
theorem Fresh.keep {B : Nat} {w w' : World} {A : Option Addr} {ks : List Tm} (h : Fresh B w A ks) (hk : ∀ b, B ≤ b → b < w.heap.size → w'.heap[b]? = w.heap[b]?) : Fresh B w' A ks := by
  obtain ⟨fp, h, hn, hb⟩ := h; exact ⟨fp, h.frame fun b hx => hk b (hb b hx) (h.lt b hx), hn, hb⟩
theorem Fresh.below {B : Nat} {w w' : World} {A : Option Addr} {ks : List Tm} (h : Fresh B w A ks) (hk : Below w.heap.size w w') : Fresh B w' A ks := h.keep fun b _ hb => hk.block b hb
theorem Fresh.alloc {B : Nat} {w : World} {A : Option Addr} {ks : List Tm} (h : Fresh B w A ks) (o : Obj) : Fresh B (w.alloc o) A ks := h.keep fun b _ hb => Below.heap_alloc w o b hb
theorem Fresh.drew {B : Nat} {w : World} {A : Option Addr} {ks : List Tm} (h : Fresh B w A ks) : Fresh B w.drew A ks := h.keep fun _ _ _ => rfl
theorem Fresh.setCell {B : Nat} {w : World} {A : Option Addr} {ks : List Tm} (h : Fresh B w A ks) {a : Addr} (ha : a.block < B) (u : Value) : Fresh B (w.setCell a u) A ks :=
  h.keep fun b hb _ => Below.heap_setCell w a u b (by omega)

theorem run_make_rowN {P : Program} (t e : TypeId) (i : TypeInfo) (z : Value) (ht : P.underlying t = some (.slice e)) (hi : P.info? e = some i) (hz : i.zero = some z)
    (kl kc : IntKind) (n c : Nat) (hnc : n ≤ c) (hbytes : i.bytes * c ≤ 281474976710656) (h63 : c ≤ 9223372036854775807) (w : World) :
    (Instr.makeSlice t (.int kl (n : Int)) (.int kc (c : Int))).run P w = .ok (.slice (some ⟨w.heap.size, 0, none⟩) n c) (w.alloc (.cells (madeCells z.cells (c * i.size)) e)) := by
  have hb : (i.bytes : Int) * (c : Int) ≤ 281474976710656 := by
    have h : ((i.bytes * c : Nat) : Int) ≤ 281474976710656 := by omega
    rwa [Int.natCast_mul] at h
  have hr := run_make (P := P) w t e i z ht hi hz kl kc n c (by omega) (by omega) hb (by omega)
  simp only [Int.toNat_natCast] at hr
  exact hr

/-- a row that is being filled: of its n places the first hold the terms -/
def Fill (w : World) (g n : Nat) (ts : List Tm) : Prop :=
  ∃ cur f, w.heap[g]? = some (.cells cur 25 (0, 0)) ∧ cur.size = n * 3 ∧ OwX w ts (cur.toList.take (ts.length * 3)) f ∧ f.Nodup ∧ ∀ b, b ∈ f → g < b
theorem Fill.start {w : World} {n : Nat} {cur : Array Value} (h : cur.size = n * 3) : Fill (w.alloc (.cells cur 25)) w.heap.size n [] :=
  ⟨cur, [], heap_alloc_new w _, h, by simpa using OwX.nil, List.nodup_nil, by simp⟩
theorem Fill.below {w w' : World} {g n : Nat} {ts : List Tm} (h : Fill w g n ts) (hb : Below w.heap.size w w') : Fill w' g n ts := by
  obtain ⟨cur, f, h1, h2, h3, h4, h5⟩ := h
  exact ⟨cur, f, (hb.block g (Array.getElem?_eq_some_iff.1 h1).1).trans h1, h2, h3.frame fun b hbf => hb.block b (h3.lt b hbf), h4, h5⟩
theorem Fill.lt {w : World} {g n : Nat} {ts : List Tm} (h : Fill w g n ts) : g < w.heap.size := by
  obtain ⟨cur, f, h1, _⟩ := h
  exact (Array.getElem?_eq_some_iff.1 h1).1
theorem Fill.cell {w : World} {g n : Nat} {ts : List Tm} (h : Fill w g n ts) {j : Nat} (hj : j < n * 3) : ∃ u, w.cell? ⟨g, j, none⟩ = some u := by
  obtain ⟨cur, f, h1, h2, _⟩ := h
  exact ⟨cur[j]'(by omega), by rw [cell_of_row w g j cur _ (0, 0) h1]; exact Array.getElem?_eq_getElem (by omega)⟩
theorem Fill.frozen {w : World} {g n : Nat} {ts : List Tm} (h : Fill w g n ts) (j : Nat) : w.frozen? ⟨g, j, none⟩ = false := by
  obtain ⟨cur, f, h1, h2, _⟩ := h
  simp [World.frozen?, h1]
/-- one place more is filled -/
theorem Fill.set_ {w0 w : World} {g n : Nat} {ts : List Tm} (h : Fill w0 g n ts) (hb : Below w0.heap.size w0 w) {k m : Int} {ks : List Tm} {A : Option Addr} {c j : Nat} (hfr : Fresh w0.heap.size w A ks) (hl : ks.length ≤ 9223372036854775807) (hj : ts.length = j) (hn : j < n) :
    Fill (((w.setCell ⟨g, j * 3, none⟩ (.int .i64 k)).setCell ⟨g, j * 3 + 1, none⟩ (.int .i64 m)).setCell ⟨g, j * 3 + 2, none⟩ (.slice A ks.length c)) g n (ts ++ [.mk k m ks]) := by
  subst hj
  obtain ⟨cur, f, h1, h2, h3, h4, h5⟩ := h
  obtain ⟨fp, k1, k2, k3⟩ := hfr
  have hg0 := (Array.getElem?_eq_some_iff.1 h1).1
  have hg : w.heap[g]? = some (.cells cur 25 (0, 0)) := (hb.block g hg0).trans h1
  have far : ∀ b, b ≠ g → (((w.setCell ⟨g, ts.length * 3, none⟩ (.int .i64 k)).setCell ⟨g, ts.length * 3 + 1, none⟩ (.int .i64 m)).setCell ⟨g, ts.length * 3 + 2, none⟩ (.slice A ks.length c)).heap[b]? = w.heap[b]? := fun b hbg => by
    rw [Below.heap_setCell _ _ _ _ hbg, Below.heap_setCell _ _ _ _ hbg, Below.heap_setCell _ _ _ _ hbg]
  refine ⟨((cur.setIfInBounds (ts.length * 3) (.int .i64 k)).setIfInBounds (ts.length * 3 + 1) (.int .i64 m)).setIfInBounds (ts.length * 3 + 2) (.slice A ks.length c), f ++ fp, ?_, by simpa using h2, ?_, ?_, ?_⟩
  · simp [World.setCell, Array.getElem?_modify, hg]
  · have e : ((((cur.setIfInBounds (ts.length * 3) (.int .i64 k)).setIfInBounds (ts.length * 3 + 1) (.int .i64 m)).setIfInBounds (ts.length * 3 + 2) (.slice A ks.length c)).toList.take ((ts ++ [Tm.mk k m ks]).length * 3)) =
        cur.toList.take (ts.length * 3) ++ [.int .i64 k, .int .i64 m, .slice A ks.length c] := by
      have hlen : cur.toList.length = n * 3 := by simpa using h2
      simp only [Array.toList_setIfInBounds, List.length_append, List.length_singleton]
      rw [show (ts.length + 1) * 3 = ts.length * 3 + 2 + 1 from by omega]
      rw [List.take_succ_eq_append_getElem (by simp; omega), List.take_set_of_le (by omega), List.take_succ_eq_append_getElem (by simp; omega), List.take_set_of_le (by omega), List.take_succ_eq_append_getElem (by simp; omega), List.take_set_of_le (by omega)]
      simp
    rw [e]
    refine (h3.frame fun b hbf => ?_).append (OwX.one (OwT.iff.2 ⟨A, c, rfl, hl, k1.frame fun b hbf => far b ?_⟩))
    · rw [far b (by have := h5 b hbf; omega)]
      exact hb.block b (h3.lt b hbf)
    · have := k3 b hbf; omega
  · refine List.nodup_append.2 ⟨h4, k2, fun x hx y hy e => ?_⟩
    have := h3.lt x hx; have := k3 y hy; omega
  · intro b hbm
    rcases List.mem_append.1 hbm with hbm | hbm
    · exact h5 b hbm
    · have := k3 b hbm; omega
theorem Fill.fresh {w : World} {g n : Nat} {ts : List Tm} (h : Fill w g n ts) {B : Nat} (hB : B ≤ g) : Fresh B w (some ⟨g, 0, none⟩) ts := by
  obtain ⟨cur, f, h1, h2, h3, h4, h5⟩ := h
  by_cases hts : ts = []
  · subst hts; exact Fresh.nil
  · refine ⟨g :: f, .inr ⟨g, cur, _, f, hts, rfl, h1, rfl, h3⟩, List.nodup_cons.2 ⟨fun hm => by have := h5 g hm; omega, h4⟩, fun b hb => ?_⟩
    rcases List.mem_cons.1 hb with rfl | hb
    · exact hB
    · have := h5 b hb; omega

/-- a slice value that grows: the terms lie in blocks of their own, all from B on -/
def Part (B : Nat) (w : World) (v : Value) (ts : List Tm) : Prop :=
  ∃ xs f, w.ownsRow B 25 3 v ts.length xs ∧ OwX w ts xs f ∧ f.Nodup ∧ (∀ b, b ∈ f → B ≤ b) ∧ ∀ g, v.ownBlock = some g → g ∉ f
theorem Part.nil {B : Nat} {w : World} : Part B w (.slice none 0 0) [] :=
  ⟨[], [], World.ownsRow_nil _ _ _ _, OwX.nil, List.nodup_nil, by simp, by simp⟩
theorem Part.keep {B : Nat} {w w' : World} {v : Value} {ts : List Tm} (h : Part B w v ts) (hk : ∀ b, B ≤ b → b < w.heap.size → w'.heap[b]? = w.heap[b]?) : Part B w' v ts := by
  obtain ⟨xs, f, h1, h2, h3, h4, h5⟩ := h
  refine ⟨xs, f, ⟨h1.1, ?_⟩, h2.frame fun b hb => hk b (h4 b hb) (h2.lt b hb), h3, h4, h5⟩
  rcases h1.2 with hn | ⟨g, cap, cur, rfl, hb, hg, r⟩
  · exact .inl hn
  · exact .inr ⟨g, cap, cur, rfl, hb, (hk g hb (Array.getElem?_eq_some_iff.1 hg).1).trans hg, r⟩
theorem Part.below {B : Nat} {w w' : World} {v : Value} {ts : List Tm} (h : Part B w v ts) (hk : Below w.heap.size w w') : Part B w' v ts := h.keep fun b _ hb => hk.block b hb
theorem Part.alloc {B : Nat} {w : World} {v : Value} {ts : List Tm} (h : Part B w v ts) (o : Obj) : Part B (w.alloc o) v ts := h.keep fun b _ hb => Below.heap_alloc w o b hb
theorem Part.drew {B : Nat} {w : World} {v : Value} {ts : List Tm} (h : Part B w v ts) : Part B w.drew v ts := h.keep fun _ _ _ => rfl
theorem Part.setCell {B : Nat} {w : World} {v : Value} {ts : List Tm} (h : Part B w v ts) {a : Addr} (ha : a.block < B) (u : Value) : Part B (w.setCell a u) v ts :=
  h.keep fun b hb _ => Below.heap_setCell w a u b (by omega)
/-- at the end: the slice's shape, and that its terms lie in blocks of their own -/
theorem Part.fresh {B : Nat} {w : World} {v : Value} {ts : List Tm} (h : Part B w v ts) : ∃ A c, v = .slice A ts.length c ∧ Fresh B w A ts := by
  obtain ⟨xs, f, h1, h2, h3, h4, h5⟩ := h
  rcases h1.2 with ⟨rfl, h0⟩ | ⟨g, cap, cur, rfl, hb, hg, _, _, _, htk⟩
  · have : ts = [] := List.eq_nil_of_length_eq_zero h0
    subst this
    exact ⟨none, 0, rfl, Fresh.nil⟩
  · refine ⟨_, _, rfl, ?_⟩
    by_cases hts : ts = []
    · subst hts; exact Fresh.nil
    · refine ⟨g :: f, .inr ⟨g, cur, _, f, hts, rfl, hg, rfl, by rw [htk]; exact h2⟩, List.nodup_cons.2 ⟨h5 g rfl, h3⟩, ?_⟩
      intro b hb'
      rcases List.mem_cons.1 hb' with rfl | hb'
      · exact hb
      · exact h4 b hb'
theorem Part.shape {B : Nat} {w : World} {v : Value} {ts : List Tm} (h : Part B w v ts) : ∃ A c, v = .slice A ts.length c := by
  obtain ⟨A, c, hv, _⟩ := h.fresh; exact ⟨A, c, hv⟩
end Go.Proofs.YtjpgdfndlmipcaaDoor.Cd

namespace Go.Proofs.YtjpgdfndlmipcaaDoor.Cd
open Go.RowKit
set_option linter.unusedSimpArgs false
set_option linter.unusedVariables false

theorem grownBy_alloc_ {a w : World} {row : Option Nat} (h : a.grownBy w row) (o : Obj) : a.grownBy (w.alloc o) row :=
  ⟨h.os, h.tape, h.output, Nat.le_trans h.size (by simp), fun i hi hne => (Below.heap_alloc w o i (Nat.lt_of_lt_of_le hi h.size)).trans (h.block i hi hne)⟩
theorem grownBy_drew {a w : World} {row : Option Nat} (h : a.grownBy w row) : a.grownBy w.drew row := ⟨h.os, h.tape, h.output, h.size, h.block⟩
theorem grownBy_trans {a w w' : World} {row : Option Nat} (h : a.grownBy w row) (k : w.grownBy w' row) : a.grownBy w' row :=
  ⟨k.os.trans h.os, k.tape.trans h.tape, k.output.trans h.output, Nat.le_trans h.size k.size, fun i hi hne => (k.block i (Nat.lt_of_lt_of_le hi h.size) hne).trans (h.block i hi hne)⟩
theorem grownBy_below {a w w' : World} {row : Option Nat} (h : a.grownBy w row) (k : Below w.heap.size w w') : a.grownBy w' row :=
  ⟨k.os.trans h.os, k.tape.trans h.tape, k.output.trans h.output, Nat.le_trans h.size k.size, fun i hi hne => (k.block i (Nat.lt_of_lt_of_le hi h.size)).trans (h.block i hi hne)⟩
theorem grownBy_cell {a w : World} {row : Option Nat} (h : a.grownBy w row) {b o : Nat} {u : Value} (hc : a.cell? ⟨b, o, none⟩ = some u) (hne : row ≠ some b) : w.cell? ⟨b, o, none⟩ = some u :=
  h.cell hc (fun e => hne e.symm)
theorem grownBy_frozen {a w : World} {row : Option Nat} (h : a.grownBy w row) {b o : Nat} {u : Value} (hc : a.cell? ⟨b, o, none⟩ = some u) (hz : a.frozen? ⟨b, o, none⟩ = false) (hne : row ≠ some b) : w.frozen? ⟨b, o, none⟩ = false :=
  (World.frozen?_of_block (h.block b (World.block_lt_of_cell? a _ hc) (fun e => hne e.symm))).trans hz
theorem Part.other {B : Nat} {w : World} {v : Value} {ts : List Tm} (h : Part B w v ts) {b : Nat} (hb : b < B ∨ w.heap.size ≤ b) : v.ownBlock ≠ some b := by
  obtain ⟨_, _, h1, _⟩ := h
  intro e
  have := h1.lt b e
  omega

theorem tm_info : (Tryd.prog.info? 25).map (fun i => (i.zero, i.size, i.bytes)) = some (some (.agg #[.int .i64 0, .int .i64 0, .slice none 0 0]), 3, 40) := by kernel_rfl

/-- make of so many terms -/
theorem mk_terms (n : Nat) (hn : n ≤ 1099511627776) (W : World) : (Instr.makeSlice 23 (.int .i64 (n : Int)) (.int .i64 (n : Int))).run Tryd.prog W = .ok (.slice (some ⟨W.heap.size, 0, none⟩) n n)
    (W.alloc (.cells (madeCells #[.int .i64 0, .int .i64 0, .slice none 0 0] (n * 3)) 25)) := by
  obtain ⟨i0, hi, hz0, hz1, hz2⟩ := info_parts tm_info
  have h := run_make_rowN (P := Tryd.prog) 23 25 i0 _ Tryd.underlying23 hi hz0 .i64 .i64 n n (Nat.le_refl _) (by rw [hz2]; omega) (by omega) W
  rw [hz1] at h
  exact h
theorem mk_fill (n : Nat) (W : World) : Fill (W.alloc (.cells (madeCells #[.int .i64 0, .int .i64 0, .slice none 0 0] (n * 3)) 25)) W.heap.size n [] := Fill.start (by simp [madeCells])

/-- what a call gives back: a term in blocks of its own · terms in blocks of their own · a term that is somewhere -/
def GotT (w : World) (k n : Int) (ks : List Tm) (e : Ending) (w' : World) : Prop :=
  ∃ A c, e = .returned (.agg #[.int .i64 k, .int .i64 n, .slice A ks.length c]) ∧ ks.length ≤ 9223372036854775807 ∧ Fresh w.heap.size w' A ks ∧ Below w.heap.size w w'
def GotL (w : World) (ts : List Tm) (e : Ending) (w' : World) : Prop :=
  ∃ A c, e = .returned (.slice A ts.length c) ∧ Fresh w.heap.size w' A ts ∧ Below w.heap.size w w'

/-- what append of one term does, at a world in which the term's three cells lie at an address -/
theorem run_append_tm {B : Nat} {w0 w : World} {v : Value} {ts : List Tm} {t : Tm} {x1 : List Value} {f1 : List Nat} (hp : Part B w0 v ts) (hb : Below w0.heap.size w0 w) (hB : B ≤ w0.heap.size)
    (ht : OwT w t x1 f1) (hn : f1.Nodup) (hf : ∀ b, b ∈ f1 → w0.heap.size ≤ b) (hlen : ts.length ≤ 1099511627776) (ad : Addr) (c : Nat) (hc : ∀ j u, x1[j]? = some u → w.cell? (ad.add j) = some u) (ty : TypeId) :
    ∃ v' w', (Builtin.append_ #[23, 23] ty #[v, .slice (some ad) 1 c]).run Tryd.prog w = .ok v' w' ∧ Part B w' v' (ts ++ [t]) ∧ Below B w w' ∧ w.grownBy w' v.ownBlock := by
  obtain ⟨i, hi, hz, hz1, hz2⟩ := info_parts tm_info
  have hsz := hb.size
  obtain ⟨xs, f, h1, h2, h3, h4, h5⟩ := hp
  have hlt : ∀ g, v.ownBlock = some g → g < w0.heap.size := fun g hg => (h1.lt g hg).2
  have hge : ∀ g, v.ownBlock = some g → B ≤ g := fun g hg => (h1.lt g hg).1
  have hfl := h2.lt
  have k1 : w.ownsRow B 25 3 v ts.length xs := by
    refine ⟨h1.1, ?_⟩
    rcases h1.2 with hn | ⟨g, cap, cur, rfl, hb', hg, r⟩
    · exact .inl hn
    · exact .inr ⟨g, cap, cur, rfl, hb', (hb.block g (hlt g rfl)).trans hg, r⟩
  have k2 : OwX w ts xs f := h2.frame fun b hbf => hb.block b (hfl b hbf)
  obtain ⟨v', w', hrun, hown, hg, _, hat⟩ := run_append_own_at (P := Tryd.prog) w B 23 ty 25 i _ 3 40 Tryd.underlying23 hi hz hz1 hz2 rfl (by omega) v ts.length xs k1 ad 1 c x1 ht.length hc ht.oneCell
    (by simp only [maxLen]; omega) (by omega) (by omega)
  have e1 : ∀ b, b ∈ f → w'.heap[b]? = w.heap[b]? := fun b hbf => hg.block b (by have := hfl b hbf; omega) (fun e => h5 b e.symm hbf)
  have e2 : ∀ b, b ∈ f1 → w'.heap[b]? = w.heap[b]? := fun b hbf => hg.block b (ht.lt b hbf) (fun e => by have := hlt b e.symm; have := hf b hbf; omega)
  refine ⟨v', w', hrun, ⟨xs ++ x1, f ++ f1, by simpa using hown, (k2.frame e1).append (OwX.one (ht.frame e2)), ?_, ?_, ?_⟩, ⟨hg.os, hg.tape, hg.output, hg.size, fun k hk => hg.block k (by omega) (fun e => by have := hge k e.symm; omega)⟩, hg⟩
  · refine List.nodup_append.2 ⟨h3, hn, fun x hx y hy e => ?_⟩
    have := hfl x hx; have := hf y hy; omega
  · intro b hbm
    rcases List.mem_append.1 hbm with hbm | hbm
    · exact h4 b hbm
    · have := hf b hbm; omega
  · intro g hgo hgm
    rcases hat with e | e <;> rw [e] at hgo
    · rcases List.mem_append.1 hgm with hgm | hgm
      · exact h5 g hgo hgm
      · have := hlt g hgo; have := hf g hgm; omega
    · injection hgo with hgo
      subst hgo
      rcases List.mem_append.1 hgm with hgm | hgm
      · have := hfl _ hgm; omega
      · have := ht.lt _ hgm; omega

section
variable {B : Nat} {w0 w1 : World} {v : Value} {ts : List Tm} {k n : Int} {ks : List Tm} {A : Option Addr} {c : Nat}
/-- the same behind the one-element slice that the translation lays for the term -/
theorem run_append_built (hp : Part B w0 v ts) (hb : Below w0.heap.size w0 w1) (hB : B ≤ w0.heap.size) (hfr : Fresh w0.heap.size w1 A ks) (hl : ks.length ≤ 9223372036854775807) (hlen : ts.length ≤ 1099511627776) (ty : TypeId) :
    ∃ v' w', (Builtin.append_ #[23, 23] ty #[v, .slice (some ⟨w1.heap.size, 0, none⟩) 1 1]).run Tryd.prog (w1.alloc (.cells #[.int .i64 k, .int .i64 n, .slice A ks.length c] 25)) = .ok v' w' ∧
      Part B w' v' (ts ++ [.mk k n ks]) ∧ Below B w1 w' ∧ w1.grownBy w' v.ownBlock := by
  obtain ⟨fp, h1, h2, h3⟩ := (hfr.alloc (.cells #[.int .i64 k, .int .i64 n, .slice A ks.length c] 25))
  have hs := hb.size
  obtain ⟨v', w', r1, r2, r3, r4⟩ := run_append_tm (t := .mk k n ks) (x1 := [.int .i64 k, .int .i64 n, .slice A ks.length c]) (f1 := fp) (c := 1) (ty := ty) hp (hb.alloc hs _) hB (OwT.iff.2 ⟨A, c, rfl, hl, h1⟩) h2 h3 hlen ⟨w1.heap.size, 0, none⟩ (by
    intro j u hj
    match j, hj with
    | 0, hj => simp only [List.getElem?_cons_zero, Option.some.injEq] at hj; subst hj; simp [Addr.add]
    | 1, hj => simp only [List.getElem?_cons_succ, List.getElem?_cons_zero, Option.some.injEq] at hj; subst hj; simp [Addr.add]
    | 2, hj => simp only [List.getElem?_cons_succ, List.getElem?_cons_zero, Option.some.injEq] at hj; subst hj; simp [Addr.add])
  exact ⟨v', w', r1, r2, ((Below.refl _ _).alloc (by omega) _).trans r3, grownBy_trans (grownBy_alloc_ (World.grownBy.refl _ _) _) r4⟩

/-- in a region that draws its order -/
theorem step_append_built (hp : Part B w0 v ts) (hb : Below w0.heap.size w0 w1) (hB : B ≤ w0.heap.size) (hfr : Fresh w0.heap.size w1 A ks) (hl : ks.length ≤ 9223372036854775807) {m : Nat} (hm : ts.length = m) (hlen : m ≤ 1099511627776)
    {ops : Array Oper} {o : Oper} {a : Act} {K : Act → World → Prop} {Q : Exit → Act → World → Prop} {E : Prop} (hgd : o.guard = none) (s x : Operand)
    (ho : o.op = .call { callee := .builtin .append, args := #[s, x], argTypes := #[23, 23] }) (hs : a.eval s = v) (hx : a.eval x = .slice (some ⟨w1.heap.size, 0, none⟩) 1 1)
    (h : ∀ A' c' w', Part B w' (.slice A' (m + 1) c') (ts ++ [.mk k n ks]) → Below B w1 w' → w1.grownBy w' v.ownBlock → K (a.put o.dst (.slice A' (m + 1) c')) w') :
    if Region.wanted o (yielded ops a.tmps) = true then Oper.wp Tryd.prog o a (w1.alloc (.cells #[.int .i64 k, .int .i64 n, .slice A ks.length c] 25)) K Q else E := by
  subst hm
  have hw : Region.wanted o (yielded ops a.tmps) = true := by simp [Region.wanted, hgd]
  rw [if_pos hw]
  obtain ⟨v', w', hrun, h2, h3, h4⟩ := run_append_built (k := k) (n := n) (c := c) hp hb hB hfr hl hlen o.type
  unfold Oper.wp execOp
  simp only [ho, resolve, invoke, builtin, Sem.run_bind, Sem.run_pure, Result.andThen_ok, List.map_toArray, List.map_cons, List.map_nil, hs, hx, hrun]
  obtain ⟨A', c', rfl⟩ := h2.shape
  rw [List.length_append] at h2 ⊢
  exact h A' c' w' h2 h3 h4
/-- in a plain region -/
theorem wpList_append_built (hp : Part B w0 v ts) (hb : Below w0.heap.size w0 w1) (hB : B ≤ w0.heap.size) (hfr : Fresh w0.heap.size w1 A ks) (hl : ks.length ≤ 9223372036854775807) {m : Nat} (hm : ts.length = m) (hlen : m ≤ 1099511627776)
    {ops : Array Oper} {rest : List Oper} {o : Oper} {a : Act} {Q : Exit → Act → World → Prop} (hgd : o.guard = none) (s x : Operand)
    (ho : o.op = .call { callee := .builtin .append, args := #[s, x], argTypes := #[23, 23] }) (hs : a.eval s = v) (hx : a.eval x = .slice (some ⟨w1.heap.size, 0, none⟩) 1 1)
    (h : ∀ A' c' w', Part B w' (.slice A' (m + 1) c') (ts ++ [.mk k n ks]) → Below B w1 w' → w1.grownBy w' v.ownBlock → wpList Tryd.prog ops Q rest (a.put o.dst (.slice A' (m + 1) c')) w') :
    wpList Tryd.prog ops Q (o :: rest) a (w1.alloc (.cells #[.int .i64 k, .int .i64 n, .slice A ks.length c] 25)) := by
  subst hm
  refine wpList_plain hgd fun K hK => ?_
  obtain ⟨v', w', hrun, h2, h3, h4⟩ := run_append_built (k := k) (n := n) (c := c) hp hb hB hfr hl hlen o.type
  unfold Oper.wp execOp
  simp only [ho, resolve, invoke, builtin, Sem.run_bind, Sem.run_pure, Result.andThen_ok, List.map_toArray, List.map_cons, List.map_nil, hs, hx, hrun]
  obtain ⟨A', c', rfl⟩ := h2.shape
  rw [List.length_append] at h2 ⊢
  exact hK _ _ (h A' c' w' h2 h3 h4)
end
end Go.Proofs.YtjpgdfndlmipcaaDoor.Cd

namespace Go.Proofs.YtjpgdfndlmipcaaDoor.Cd
open Go.RowKit
set_option linter.unusedSimpArgs false
set_option linter.unusedVariables false

/-- what append of one term does, at a world in which the term's three cells lie at an address -/
theorem run_append_tmG {B : Nat} {w0 w : World} {v : Value} {ts : List Tm} {t : Tm} {x1 : List Value} {f1 : List Nat} (hp : Part B w0 v ts) (hb : ∀ b, B ≤ b → b < w0.heap.size → w.heap[b]? = w0.heap[b]?) (hsz : w0.heap.size ≤ w.heap.size) (hB : B ≤ w0.heap.size)
    (ht : OwT w t x1 f1) (hn : f1.Nodup) (hf : ∀ b, b ∈ f1 → w0.heap.size ≤ b) (hlen : ts.length ≤ 1099511627776) (ad : Addr) (c : Nat) (hc : ∀ j u, x1[j]? = some u → w.cell? (ad.add j) = some u) (ty : TypeId) :
    ∃ v' w', (Builtin.append_ #[23, 23] ty #[v, .slice (some ad) 1 c]).run Tryd.prog w = .ok v' w' ∧ Part B w' v' (ts ++ [t]) ∧ Below B w w' ∧ w.grownBy w' v.ownBlock := by
  obtain ⟨i, hi, hz, hz1, hz2⟩ := info_parts tm_info
  obtain ⟨xs, f, h1, h2, h3, h4, h5⟩ := hp
  have hlt : ∀ g, v.ownBlock = some g → g < w0.heap.size := fun g hg => (h1.lt g hg).2
  have hge : ∀ g, v.ownBlock = some g → B ≤ g := fun g hg => (h1.lt g hg).1
  have hfl := h2.lt
  have k1 : w.ownsRow B 25 3 v ts.length xs := by
    refine ⟨h1.1, ?_⟩
    rcases h1.2 with hn | ⟨g, cap, cur, rfl, hb', hg, r⟩
    · exact .inl hn
    · exact .inr ⟨g, cap, cur, rfl, hb', (hb g hb' (hlt g rfl)).trans hg, r⟩
  have k2 : OwX w ts xs f := h2.frame fun b hbf => hb b (h4 b hbf) (hfl b hbf)
  obtain ⟨v', w', hrun, hown, hg, _, hat⟩ := run_append_own_at (P := Tryd.prog) w B 23 ty 25 i _ 3 40 Tryd.underlying23 hi hz hz1 hz2 rfl (by omega) v ts.length xs k1 ad 1 c x1 ht.length hc ht.oneCell
    (by simp only [maxLen]; omega) (by omega) (by omega)
  have e1 : ∀ b, b ∈ f → w'.heap[b]? = w.heap[b]? := fun b hbf => hg.block b (by have := hfl b hbf; omega) (fun e => h5 b e.symm hbf)
  have e2 : ∀ b, b ∈ f1 → w'.heap[b]? = w.heap[b]? := fun b hbf => hg.block b (ht.lt b hbf) (fun e => by have := hlt b e.symm; have := hf b hbf; omega)
  refine ⟨v', w', hrun, ⟨xs ++ x1, f ++ f1, by simpa using hown, (k2.frame e1).append (OwX.one (ht.frame e2)), ?_, ?_, ?_⟩, ⟨hg.os, hg.tape, hg.output, hg.size, fun k hk => hg.block k (by omega) (fun e => by have := hge k e.symm; omega)⟩, hg⟩
  · refine List.nodup_append.2 ⟨h3, hn, fun x hx y hy e => ?_⟩
    have := hfl x hx; have := hf y hy; omega
  · intro b hbm
    rcases List.mem_append.1 hbm with hbm | hbm
    · exact h4 b hbm
    · have := hf b hbm; omega
  · intro g hgo hgm
    rcases hat with e | e <;> rw [e] at hgo
    · rcases List.mem_append.1 hgm with hgm | hgm
      · exact h5 g hgo hgm
      · have := hlt g hgo; have := hf g hgm; omega
    · injection hgo with hgo
      subst hgo
      rcases List.mem_append.1 hgm with hgm | hgm
      · have := hfl _ hgm; omega
      · have := ht.lt _ hgm; omega

section
variable {B : Nat} {w0 w1 : World} {v : Value} {ts : List Tm} {k n : Int} {ks : List Tm} {A : Option Addr} {c : Nat}
/-- the same behind the one-element slice that the translation lays for the term -/
theorem run_append_builtG (hp : Part B w0 v ts) (hb : ∀ b, B ≤ b → b < w0.heap.size → w1.heap[b]? = w0.heap[b]?) (hs : w0.heap.size ≤ w1.heap.size) (hB : B ≤ w0.heap.size) (hfr : Fresh w0.heap.size w1 A ks) (hl : ks.length ≤ 9223372036854775807) (hlen : ts.length ≤ 1099511627776) (ty : TypeId) :
    ∃ v' w', (Builtin.append_ #[23, 23] ty #[v, .slice (some ⟨w1.heap.size, 0, none⟩) 1 1]).run Tryd.prog (w1.alloc (.cells #[.int .i64 k, .int .i64 n, .slice A ks.length c] 25)) = .ok v' w' ∧
      Part B w' v' (ts ++ [.mk k n ks]) ∧ Below B w1 w' ∧ w1.grownBy w' v.ownBlock := by
  obtain ⟨fp, h1, h2, h3⟩ := (hfr.alloc (.cells #[.int .i64 k, .int .i64 n, .slice A ks.length c] 25))
  obtain ⟨v', w', r1, r2, r3, r4⟩ := run_append_tmG (t := .mk k n ks) (x1 := [.int .i64 k, .int .i64 n, .slice A ks.length c]) (f1 := fp) (c := 1) (ty := ty) hp (fun b h1 h2 => (Below.heap_alloc w1 _ b (by omega)).trans (hb b h1 h2)) (by simp; omega) hB (OwT.iff.2 ⟨A, c, rfl, hl, h1⟩) h2 h3 hlen ⟨w1.heap.size, 0, none⟩ (by
    intro j u hj
    match j, hj with
    | 0, hj => simp only [List.getElem?_cons_zero, Option.some.injEq] at hj; subst hj; simp [Addr.add]
    | 1, hj => simp only [List.getElem?_cons_succ, List.getElem?_cons_zero, Option.some.injEq] at hj; subst hj; simp [Addr.add]
    | 2, hj => simp only [List.getElem?_cons_succ, List.getElem?_cons_zero, Option.some.injEq] at hj; subst hj; simp [Addr.add])
  exact ⟨v', w', r1, r2, ((Below.refl _ _).alloc (by omega) _).trans r3, grownBy_trans (grownBy_alloc_ (World.grownBy.refl _ _) _) r4⟩

/-- in a plain region -/
theorem wpList_append_builtG (hp : Part B w0 v ts) (hb : ∀ b, B ≤ b → b < w0.heap.size → w1.heap[b]? = w0.heap[b]?) (hs : w0.heap.size ≤ w1.heap.size) (hB : B ≤ w0.heap.size) (hfr : Fresh w0.heap.size w1 A ks) (hl : ks.length ≤ 9223372036854775807) {m : Nat} (hm : ts.length = m) (hlen : m ≤ 1099511627776)
    {ops : Array Oper} {rest : List Oper} {o : Oper} {a : Act} {Q : Exit → Act → World → Prop} (hgd : o.guard = none) (s x : Operand)
    (ho : o.op = .call { callee := .builtin .append, args := #[s, x], argTypes := #[23, 23] }) (hse : a.eval s = v) (hx : a.eval x = .slice (some ⟨w1.heap.size, 0, none⟩) 1 1)
    (h : ∀ A' c' w', Part B w' (.slice A' (m + 1) c') (ts ++ [.mk k n ks]) → Below B w1 w' → w1.grownBy w' v.ownBlock → wpList Tryd.prog ops Q rest (a.put o.dst (.slice A' (m + 1) c')) w') :
    wpList Tryd.prog ops Q (o :: rest) a (w1.alloc (.cells #[.int .i64 k, .int .i64 n, .slice A ks.length c] 25)) := by
  subst hm
  refine wpList_plain hgd fun K hK => ?_
  obtain ⟨v', w', hrun, h2, h3, h4⟩ := run_append_builtG (k := k) (n := n) (c := c) hp hb hs hB hfr hl hlen o.type
  unfold Oper.wp execOp
  simp only [ho, resolve, invoke, builtin, Sem.run_bind, Sem.run_pure, Result.andThen_ok, List.map_toArray, List.map_cons, List.map_nil, hse, hx, hrun]
  obtain ⟨A', c', rfl⟩ := h2.shape
  rw [List.length_append] at h2 ⊢
  exact hK _ _ (h A' c' w' h2 h3 h4)
end
end Go.Proofs.YtjpgdfndlmipcaaDoor.Cd

namespace Go.Proofs.YtjpgdfndlmipcaaDoor.Cd
open Go.RowKit
set_option linter.unusedSimpArgs false
set_option linter.unusedVariables false

set_option maxHeartbeats 2000000 in
set_option maxRecDepth 100000 in
theorem sCopy_any (N : Nat) : ∀ (k n : Int) (ks : List Tm) (A : Option Addr) (c : Nat) (w : World), sizes ks < N → sizes ks ≤ 1000000000 → Rd w A 0 ks →
    Calls Tryd.prog 30 #[.agg #[.int .i64 k, .int .i64 n, .slice A ks.length c]] w (GotT w k n ks) := by
  induction N with
  | zero => intro k n ks A c w hN; exact absurd hN (Nat.not_lt_zero _)
  | succ N ih =>
  intro k n ks A c w hN hM hr
  have hlen := length_le_sizes ks
  go_enter Tryd.func30, Tryd.ntmps30
  go_wp2_with fail
  go_loopw [4] (fun i wr => ∃ (j : Nat) (v : Value), j ≤ ks.length ∧ i = .int .i64 j ∧ Part (w.heap.size + 3) wr v (ks.take j) ∧ Blk wr (w.heap.size + 1 + 1) #[.int .i64 k, .int .i64 n, v] ∧ Blk wr (w.heap.size + 1) #[.int .i64 0, .int .i64 0, .slice none 0 0] ∧ Blk wr w.heap.size #[.int .i64 k, .int .i64 n, .slice A ks.length c] ∧ Below w.heap.size w wr)
    (fun i _ => ks.length - (intOf i).toNat)
  case atStart => exact ⟨0, _, Nat.zero_le _, rfl, Part.nil, Blk.new_ _ _ _ (by simp), (Blk.new_ _ _ _ (by simp)).alloc _, ((Blk.new_ _ _ _ rfl).alloc _).alloc _, (((Below.refl _ _).alloc (by simp) _).alloc (by simp) _).alloc (by simp; omega) _⟩
  case round =>
    obtain ⟨j, v, hj, rfl, hp, hB3, hB2, hB1, hb⟩ := hrel
    have c12 := hB1.at_ (i := 2) rfl
    by_cases hlt : j < ks.length
    · obtain ⟨b, off, k', n', ks', A', c', rfl, hkj, hc1, hc2, hc3, hl', hr'⟩ := (hr.below hb).at_ hlt
      have hsz := sizes_le (List.getElem_mem hlt)
      rw [hkj] at hsz
      simp only [Tm.size] at hsz
      have H3 := hide hkj
      clear hkj
      have hz := hB3.lt
      go_wp2_with fail
      have x2 := hB3.rule (i := 2) rfl
      have b2 := hB1.rule (i := 2) rfl
      have y0 := rule_of hc1
      have y1 := rule_of hc2
      have y2 := rule_of hc3
      refine wp_region_firstY (fun w' => Below wr.heap.size wr w') [0, 1, 2, 3, 4, 5, 6] [7, 8] [9, 10, 11] [_, _, _, _, _, _, _] [_, _] [_, _, _] (by kernel_rfl) (by kernel_rfl) rfl rfl rfl (fun _ _ d _ _ h => by cases d <;> exact h) (Below.refl _ _).drew ?_
      repeat (first | ((refine takeY_skip (a' := ?_) ?_ ?_ ?_); (rotate_left); (· (simp [Region.wanted, yielded]; done)); (· (simp only [List.getElem_toArray, List.getElem_cons_zero, List.getElem_cons_succ, Act.put, List.setIfInBounds_toArray, List.set_cons_zero, List.set_cons_succ]; exact rfl))) | ((refine takeY_step (v := ?_) (a' := ?_) ?_ ?_ ?_ ?_); (rotate_left 2); (· (simp [Region.wanted, yielded]; done)); (· (intro w' hS'; go_simp; try (with_reducible rfl))); (· (simp only [List.getElem_toArray, List.getElem_cons_zero, List.getElem_cons_succ, Act.put, List.setIfInBounds_toArray, List.set_cons_zero, List.set_cons_succ]; exact rfl))))
      refine takeY_nil (then_cons ?_)
      go_wp2_with (go_at_call 30; refine (ih k' n' ks' A' c' _ (by omega) (by omega) hr'.drew).mono ?_; rintro e w1 ⟨A1, c1, rfl, hl1, hf1, hb1⟩)
      have hx1 : Below wr.heap.size wr w1 := (Below.refl _ _).drew.trans hb1
      refine mid_intro hx1 (then_cons ?_)
      go_wp2_with fail
      refine mid_intro (hx1.alloc hx1.size _) (then_nil ?_)
      refine wpList_append_built (B := w.heap.size + 3) (m := j) hp.drew hb1 (by simp; omega) hf1 hl1 (by rw [List.length_take]; omega) (by omega) rfl (.tmp 18) (.tmp 25) rfl rfl rfl ?_
      intro A2 c2 w2 hp2 hb2 hg2
      have q3 : Blk w2 (w.heap.size + 1 + 1) #[.int .i64 k, .int .i64 n, v] := (hB3.below hx1 (by omega)).below hb2 (by omega)
      have q2 : Blk w2 (w.heap.size + 1) #[.int .i64 0, .int .i64 0, .slice none 0 0] := (hB2.below hx1 (by omega)).below hb2 (by omega)
      have q1' : Blk w2 w.heap.size #[.int .i64 k, .int .i64 n, .slice (some ⟨b, off, none⟩) ks.length c] := (hB1.below hx1 (by omega)).below hb2 (by omega)
      have c3 : w2.cell? ⟨w.heap.size + 1 + 1, 2, none⟩ = some v := q3.at_ rfl
      have z3 := q3.frozen 2
      have hbf : Below w.heap.size w w2 := (hb.trans (hx1.mono (by omega))).trans (hb2.mono (by omega))
      clear x2 y0 y1 y2 b2
      go_wp2_with fail
      go_roundw
      case rel => exact ⟨j + 1, _, by omega, by go_num, by rw [List.take_succ_eq_append_getElem hlt, H3.out]; exact hp2.setCell (by simp) _, q3.set_ 2 _, q2.far (by simp) _, q1'.far (by simp; omega) _, hbf.setCell (by simp; omega) _⟩
      case measure => simp [intOf]; omega
    · have hjl : j = ks.length := by omega
      subst hjl
      rw [List.take_length] at hp
      obtain ⟨Ar, cr, rfl, hfr⟩ := hp.fresh
      have c0 : wr.cell? ⟨w.heap.size + 1 + 1, 0, none⟩ = some (.int .i64 k) := hB3.at_ rfl
      have c1 : wr.cell? ⟨w.heap.size + 1 + 1, 1, none⟩ = some (.int .i64 n) := hB3.at_ rfl
      have c2 : wr.cell? ⟨w.heap.size + 1 + 1, 2, none⟩ = some (.slice Ar ks.length cr) := hB3.at_ rfl
      have d0 : wr.cell? ⟨w.heap.size + 1, 0, none⟩ = some (.int .i64 0) := hB2.at_ rfl
      have d1 : wr.cell? ⟨w.heap.size + 1, 1, none⟩ = some (.int .i64 0) := hB2.at_ rfl
      have d2 : wr.cell? ⟨w.heap.size + 1, 2, none⟩ = some (.slice none 0 0) := hB2.at_ rfl
      have e0 := hB2.frozen 0
      have e1 := hB2.frozen 1
      have e2 := hB2.frozen 2
      go_wp2_with fail
      refine bodyPost_ret (v := .agg #[.int .i64 k, .int .i64 n, .slice Ar ks.length cr]) (by simp [results, Tryd.results30, go_sem, d0, d1, d2]) rfl ⟨Ar, cr, rfl, by omega, ?_, ?_⟩
      · exact (((hfr.setCell (by simp) _).setCell (by simp) _).setCell (by simp) _).mono (by omega)
      · exact ((hb.setCell (by simp) _).setCell (by simp) _).setCell (by simp) _

end Go.Proofs.YtjpgdfndlmipcaaDoor.Cd

namespace Go.Proofs.YtjpgdfndlmipcaaDoor.Cd
open Go.RowKit
set_option linter.unusedSimpArgs false
set_option linter.unusedVariables false

theorem Part.mono {B B' : Nat} {w : World} {v : Value} {ts : List Tm} (h : Part B w v ts) (hB : B' ≤ B) : Part B' w v ts := by
  obtain ⟨xs, f, h1, h2, h3, h4, h5⟩ := h
  refine ⟨xs, f, ⟨h1.1, ?_⟩, h2, h3, fun b hb => Nat.le_trans hB (h4 b hb), h5⟩
  rcases h1.2 with hn | ⟨g, cap, cur, rfl, hb, r⟩
  · exact .inl hn
  · exact .inr ⟨g, cap, cur, rfl, by omega, r⟩
def GotV (w : World) (k n : Int) (ks : List Tm) (e : Ending) (w' : World) : Prop :=
  ∃ v, e = .returned (.agg #[.int .i64 k, .int .i64 n, v]) ∧ ks.length ≤ 9223372036854775807 ∧ Part w.heap.size w' v ks ∧ Below w.heap.size w w'
theorem gotV_T {w : World} {k n : Int} {ks : List Tm} : ∀ (e : Ending) (w' : World), GotV w k n ks e w' → GotT w k n ks e w' := fun e w' ⟨v, he, hl, hp, hb⟩ => by
  obtain ⟨A, c, rfl, hf⟩ := hp.fresh
  exact ⟨A, c, he, hl, hf, hb⟩

set_option maxHeartbeats 2000000 in
set_option maxRecDepth 100000 in
theorem sCopyV_any (N : Nat) : ∀ (k n : Int) (ks : List Tm) (A : Option Addr) (c : Nat) (w : World), sizes ks < N → sizes ks ≤ 1000000000 → Rd w A 0 ks →
    Calls Tryd.prog 30 #[.agg #[.int .i64 k, .int .i64 n, .slice A ks.length c]] w (GotV w k n ks) := by
  induction N with
  | zero => intro k n ks A c w hN; exact absurd hN (Nat.not_lt_zero _)
  | succ N ih =>
  intro k n ks A c w hN hM hr
  have hlen := length_le_sizes ks
  go_enter Tryd.func30, Tryd.ntmps30
  go_wp2_with fail
  go_loopw [4] (fun i wr => ∃ (j : Nat) (v : Value), j ≤ ks.length ∧ i = .int .i64 j ∧ Part (w.heap.size + 3) wr v (ks.take j) ∧ Blk wr (w.heap.size + 1 + 1) #[.int .i64 k, .int .i64 n, v] ∧ Blk wr (w.heap.size + 1) #[.int .i64 0, .int .i64 0, .slice none 0 0] ∧ Blk wr w.heap.size #[.int .i64 k, .int .i64 n, .slice A ks.length c] ∧ Below w.heap.size w wr)
    (fun i _ => ks.length - (intOf i).toNat)
  case atStart => exact ⟨0, _, Nat.zero_le _, rfl, Part.nil, Blk.new_ _ _ _ (by simp), (Blk.new_ _ _ _ (by simp)).alloc _, ((Blk.new_ _ _ _ rfl).alloc _).alloc _, (((Below.refl _ _).alloc (by simp) _).alloc (by simp) _).alloc (by simp; omega) _⟩
  case round =>
    obtain ⟨j, v, hj, rfl, hp, hB3, hB2, hB1, hb⟩ := hrel
    have c12 := hB1.at_ (i := 2) rfl
    by_cases hlt : j < ks.length
    · obtain ⟨b, off, k', n', ks', A', c', rfl, hkj, hc1, hc2, hc3, hl', hr'⟩ := (hr.below hb).at_ hlt
      have hsz := sizes_le (List.getElem_mem hlt)
      rw [hkj] at hsz
      simp only [Tm.size] at hsz
      have H3 := hide hkj
      clear hkj
      have hz := hB3.lt
      go_wp2_with fail
      have x2 := hB3.rule (i := 2) rfl
      have b2 := hB1.rule (i := 2) rfl
      have y0 := rule_of hc1
      have y1 := rule_of hc2
      have y2 := rule_of hc3
      refine wp_region_firstY (fun w' => Below wr.heap.size wr w') [0, 1, 2, 3, 4, 5, 6] [7, 8] [9, 10, 11] [_, _, _, _, _, _, _] [_, _] [_, _, _] (by kernel_rfl) (by kernel_rfl) rfl rfl rfl (fun _ _ d _ _ h => by cases d <;> exact h) (Below.refl _ _).drew ?_
      repeat (first | ((refine takeY_skip (a' := ?_) ?_ ?_ ?_); (rotate_left); (· (simp [Region.wanted, yielded]; done)); (· (simp only [List.getElem_toArray, List.getElem_cons_zero, List.getElem_cons_succ, Act.put, List.setIfInBounds_toArray, List.set_cons_zero, List.set_cons_succ]; exact rfl))) | ((refine takeY_step (v := ?_) (a' := ?_) ?_ ?_ ?_ ?_); (rotate_left 2); (· (simp [Region.wanted, yielded]; done)); (· (intro w' hS'; go_simp; try (with_reducible rfl))); (· (simp only [List.getElem_toArray, List.getElem_cons_zero, List.getElem_cons_succ, Act.put, List.setIfInBounds_toArray, List.set_cons_zero, List.set_cons_succ]; exact rfl))))
      refine takeY_nil (then_cons ?_)
      go_wp2_with (go_at_call 30; refine ((ih k' n' ks' A' c' _ (by omega) (by omega) hr'.drew).mono gotV_T).mono ?_; rintro e w1 ⟨A1, c1, rfl, hl1, hf1, hb1⟩)
      have hx1 : Below wr.heap.size wr w1 := (Below.refl _ _).drew.trans hb1
      refine mid_intro hx1 (then_cons ?_)
      go_wp2_with fail
      refine mid_intro (hx1.alloc hx1.size _) (then_nil ?_)
      refine wpList_append_built (B := w.heap.size + 3) (m := j) hp.drew hb1 (by simp; omega) hf1 hl1 (by rw [List.length_take]; omega) (by omega) rfl (.tmp 18) (.tmp 25) rfl rfl rfl ?_
      intro A2 c2 w2 hp2 hb2 hg2
      have q3 : Blk w2 (w.heap.size + 1 + 1) #[.int .i64 k, .int .i64 n, v] := (hB3.below hx1 (by omega)).below hb2 (by omega)
      have q2 : Blk w2 (w.heap.size + 1) #[.int .i64 0, .int .i64 0, .slice none 0 0] := (hB2.below hx1 (by omega)).below hb2 (by omega)
      have q1' : Blk w2 w.heap.size #[.int .i64 k, .int .i64 n, .slice (some ⟨b, off, none⟩) ks.length c] := (hB1.below hx1 (by omega)).below hb2 (by omega)
      have c3 : w2.cell? ⟨w.heap.size + 1 + 1, 2, none⟩ = some v := q3.at_ rfl
      have z3 := q3.frozen 2
      have hbf : Below w.heap.size w w2 := (hb.trans (hx1.mono (by omega))).trans (hb2.mono (by omega))
      clear x2 y0 y1 y2 b2
      go_wp2_with fail
      go_roundw
      case rel => exact ⟨j + 1, _, by omega, by go_num, by rw [List.take_succ_eq_append_getElem hlt, H3.out]; exact hp2.setCell (by simp) _, q3.set_ 2 _, q2.far (by simp) _, q1'.far (by simp; omega) _, hbf.setCell (by simp; omega) _⟩
      case measure => simp [intOf]; omega
    · have hjl : j = ks.length := by omega
      subst hjl
      rw [List.take_length] at hp
      have hvl : ∃ A' c', v = .slice A' ks.length c' := hp.shape
      have c0 : wr.cell? ⟨w.heap.size + 1 + 1, 0, none⟩ = some (.int .i64 k) := hB3.at_ rfl
      have c1 : wr.cell? ⟨w.heap.size + 1 + 1, 1, none⟩ = some (.int .i64 n) := hB3.at_ rfl
      have c2 : wr.cell? ⟨w.heap.size + 1 + 1, 2, none⟩ = some v := hB3.at_ rfl
      have d0 : wr.cell? ⟨w.heap.size + 1, 0, none⟩ = some (.int .i64 0) := hB2.at_ rfl
      have d1 : wr.cell? ⟨w.heap.size + 1, 1, none⟩ = some (.int .i64 0) := hB2.at_ rfl
      have d2 : wr.cell? ⟨w.heap.size + 1, 2, none⟩ = some (.slice none 0 0) := hB2.at_ rfl
      have e0 := hB2.frozen 0
      have e1 := hB2.frozen 1
      have e2 := hB2.frozen 2
      obtain ⟨A', c', rfl⟩ := hvl
      go_wp2_with fail
      refine bodyPost_ret (v := .agg #[.int .i64 k, .int .i64 n, .slice A' ks.length c']) (by simp [results, Tryd.results30, go_sem, d0, d1, d2]) rfl ⟨_, rfl, by omega, ?_, ?_⟩
      · exact ((((hp.setCell (by simp) _).setCell (by simp) _).setCell (by simp) _).mono (by omega))
      · exact (((hb.setCell (by simp) _).setCell (by simp) _).setCell (by simp) _)
end Go.Proofs.YtjpgdfndlmipcaaDoor.Cd

namespace Go.Proofs.YtjpgdfndlmipcaaDoor.Cd
open Go.RowKit
set_option linter.unusedSimpArgs false
set_option linter.unusedVariables false

/-- the terms lie in blocks of their own: some that are named, and new ones from g on -/
def FreshN (f1 : List Nat) (g : Nat) (w : World) (A : Option Addr) (ks : List Tm) : Prop := ∃ fp, Ow w A ks fp ∧ fp.Nodup ∧ ∀ b, b ∈ fp → b ∈ f1 ∨ g ≤ b
theorem FreshN.setCell {f1 : List Nat} {g : Nat} {w : World} {A : Option Addr} {ks : List Tm} (h : FreshN f1 g w A ks) {a : Addr} (ha : a.block ∉ f1 ∧ a.block < g) (u : Value) : FreshN f1 g (w.setCell a u) A ks := by
  obtain ⟨fp, h1, h2, h3⟩ := h
  refine ⟨fp, h1.frame fun b hb => Below.heap_setCell w a u b (fun e => ?_), h2, h3⟩
  rcases h3 b hb with h | h
  · exact ha.1 (e ▸ h)
  · omega
theorem FreshN.fresh {f1 : List Nat} {g : Nat} {w : World} {A : Option Addr} {ks : List Tm} (h : FreshN f1 g w A ks) {B : Nat} (hf : ∀ b, b ∈ f1 → B ≤ b) (hg : B ≤ g) : Fresh B w A ks := by
  obtain ⟨fp, h1, h2, h3⟩ := h
  exact ⟨fp, h1, h2, fun b hb => (h3 b hb).elim (hf b) (fun h => Nat.le_trans hg h)⟩
theorem run_append_node {B : Nat} {w : World} {us : List Tm} {x1 : List Value} {f1 : List Nat} {g : Nat} (hg : w.heap[g]? = some (.cells #[] 25 (0, 0))) (hgB : B ≤ g) (hgw : g < w.heap.size) (hB : B ≤ w.heap.size)
    (ht : OwX w us x1 f1) (hn : f1.Nodup) (hf : ∀ b, b ∈ f1 → B ≤ b ∧ b ≠ g) (hlen : us.length ≤ 1099511627776) (ad : Addr) (c : Nat) (hc : ∀ j u, x1[j]? = some u → w.cell? (ad.add j) = some u) (h1 : ∀ u, u ∈ x1 → u.oneCell' = true) (ty : TypeId) :
    ∃ A c' w', (Builtin.append_ #[23, 23] ty #[.slice (some ⟨g, 0, none⟩) 0 0, .slice (some ad) us.length c]).run Tryd.prog w = .ok (.slice A us.length c') w' ∧ FreshN f1 g w' A us ∧ w.grownBy w' (some g) := by
  obtain ⟨i, hi, hz, hz1, hz2⟩ := info_parts tm_info
  have k1 : w.ownsRow B 25 3 (.slice (some ⟨g, 0, none⟩) 0 0) 0 [] := ⟨by simp, .inr ⟨g, 0, #[], rfl, hgB, hg, Nat.le_refl _, by simp [maxLen], by simp, by simp⟩⟩
  obtain ⟨v', w', hrun, hown, hgr, _, hat⟩ := run_append_own_at (P := Tryd.prog) w B 23 ty 25 i _ 3 40 Tryd.underlying23 hi hz hz1 hz2 rfl (by omega) _ 0 [] k1 ad us.length c x1 ht.length hc h1
    (by simp only [maxLen]; omega) (by omega) (by omega)
  have hfl := ht.lt
  have e1 : ∀ b, b ∈ f1 → w'.heap[b]? = w.heap[b]? := fun b hbf => hgr.block b (hfl b hbf) (fun e => by injection e with e; exact (hf b hbf).2 e)
  have hx' := ht.frame e1
  rw [Nat.zero_add, List.nil_append] at hown
  obtain ⟨h2, h3⟩ := hown
  rcases h3 with ⟨rfl, h0⟩ | ⟨g', cap, cur, rfl, hb', hg', _, _, _, htk⟩
  · have : us = [] := List.eq_nil_of_length_eq_zero h0
    subst this
    exact ⟨none, 0, w', hrun, ⟨[], .inl ⟨rfl, rfl⟩, List.nodup_nil, by simp⟩, hgr⟩
  · refine ⟨_, _, w', hrun, ?_, hgr⟩
    by_cases hts : us = []
    · subst hts; exact ⟨[], .inl ⟨rfl, rfl⟩, List.nodup_nil, by simp⟩
    · refine ⟨g' :: f1, .inr ⟨g', cur, _, f1, hts, rfl, hg', rfl, by rw [htk]; exact hx'⟩, List.nodup_cons.2 ⟨fun hm => ?_, hn⟩, fun b hb => ?_⟩
      · rcases hat with e | e
        · injection e with e; exact (hf g' hm).2 e
        · injection e with e; have e : g' = w.heap.size := e; have := hfl g' hm; omega
      · rcases List.mem_cons.1 hb with rfl | hb
        · right
          rcases hat with e | e
          · injection e with e; exact Nat.le_of_eq e.symm
          · injection e with e; have e : b = w.heap.size := e; omega
        · exact .inl hb
theorem wpList_append_node {B : Nat} {w : World} {us : List Tm} {x1 : List Value} {f1 : List Nat} {g : Nat} (hg : w.heap[g]? = some (.cells #[] 25 (0, 0))) (hgB : B ≤ g) (hgw : g < w.heap.size) (hB : B ≤ w.heap.size)
    (ht : OwX w us x1 f1) (hn : f1.Nodup) (hf : ∀ b, b ∈ f1 → B ≤ b ∧ b ≠ g) (hlen : us.length ≤ 1099511627776) (ad : Addr) (c : Nat) (hc : ∀ j u, x1[j]? = some u → w.cell? (ad.add j) = some u) (h1 : ∀ u, u ∈ x1 → u.oneCell' = true)
    {ops : Array Oper} {rest : List Oper} {o : Oper} {a : Act} {Q : Exit → Act → World → Prop} (hgd : o.guard = none) (s x : Operand)
    (ho : o.op = .call { callee := .builtin .append, args := #[s, x], argTypes := #[23, 23] }) (hse : a.eval s = .slice (some ⟨g, 0, none⟩) 0 0) (hx : a.eval x = .slice (some ad) us.length c)
    (h : ∀ A' c' w', FreshN f1 g w' A' us → w.grownBy w' (some g) → wpList Tryd.prog ops Q rest (a.put o.dst (.slice A' us.length c')) w') :
    wpList Tryd.prog ops Q (o :: rest) a w := by
  refine wpList_plain hgd fun K hK => ?_
  obtain ⟨A', c', w', hrun, h2, h3⟩ := run_append_node hg hgB hgw hB ht hn hf hlen ad c hc h1 o.type
  unfold Oper.wp execOp
  simp only [ho, resolve, invoke, builtin, Sem.run_bind, Sem.run_pure, Result.andThen_ok, List.map_toArray, List.map_cons, List.map_nil, hse, hx, hrun]
  exact hK _ _ (h A' c' w' h2 h3)
theorem OwX.oneCell {w : World} {ts : List Tm} : ∀ {xs : List Value} {fp : List Nat}, OwX w ts xs fp → ∀ u, u ∈ xs → u.oneCell' = true := by
  induction ts with
  | nil => intro xs fp h u hu; rw [(OwX.nil_iff.1 h).1] at hu; cases hu
  | cons t ts ih =>
    intro xs fp h u hu
    obtain ⟨x1, x2, f1, f2, rfl, rfl, h1, h2⟩ := OwX.cons_iff.1 h
    rcases List.mem_append.1 hu with hu | hu
    · exact h1.oneCell u hu
    · exact ih h2 u hu
theorem add_zero_ (g j : Nat) : Addr.add ⟨g, 0, none⟩ j = ⟨g, j, none⟩ := by unfold Addr.add; split <;> simp_all
/-- what a call gives back: a term in blocks of its own, all from B on -/
def GotB (B : Nat) (w : World) (k n : Int) (ks : List Tm) (e : Ending) (w' : World) : Prop :=
  ∃ A c, e = .returned (.agg #[.int .i64 k, .int .i64 n, .slice A ks.length c]) ∧ Fresh B w' A ks ∧ Below w.heap.size w w'

set_option maxHeartbeats 2000000 in
set_option maxRecDepth 100000 in
theorem l1Node_any {B : Nat} {w : World} {us : List Tm} {x1 : List Value} {f1 : List Nat} (k : Int) (hB : B ≤ w.heap.size)
    (ht : OwX w us x1 f1) (hn : f1.Nodup) (hf : ∀ b, b ∈ f1 → B ≤ b) (hlen : us.length ≤ 1099511627776) (g c : Nat) (hb : Blk w g x1.toArray) :
    Calls Tryd.prog 29 #[.int .i64 k, .slice (some ⟨g, 0, none⟩) us.length c] w (GotB B w k 0 us) := by
  have hlt := ht.lt
  have hone := ht.oneCell
  have hgl := hb.lt
  go_enter Tryd.func29, Tryd.ntmps29
  have H1 := hide (show ((w.alloc (.cells #[.int .i64 0, .int .i64 0, .slice none 0 0] 25)).alloc (.cells #[] 25)).heap[w.heap.size + 1]? = some (.cells #[] 25 (0, 0)) by simpa using heap_alloc_new (w.alloc (.cells #[.int .i64 0, .int .i64 0, .slice none 0 0] 25)) (.cells #[] 25))
  have H2 := hide (show OwX ((w.alloc (.cells #[.int .i64 0, .int .i64 0, .slice none 0 0] 25)).alloc (.cells #[] 25)) us x1 f1 from ht.frame fun b hb => (Below.heap_alloc _ _ b (by have := hlt b hb; simp; omega)).trans (Below.heap_alloc _ _ b (hlt b hb)))
  have H3 := hide (show ∀ j u, x1[j]? = some u → ((w.alloc (.cells #[.int .i64 0, .int .i64 0, .slice none 0 0] 25)).alloc (.cells #[] 25)).cell? (Addr.add ⟨g, 0, none⟩ j) = some u from fun j u hj => by
    have := ((hb.alloc (.cells #[.int .i64 0, .int .i64 0, .slice none 0 0] 25)).alloc (.cells #[] 25)).at_ (i := j) (v := u) (by simpa using hj)
    rw [add_zero_]; exact this)
  go_wp2_with (at_builtin; (refine wpList_append_node (B := B) (us := us) (x1 := x1) (f1 := f1) (g := w.heap.size + 1) H1.out (by omega) (by simp) (by simp; omega) H2.out hn (fun b hb => ⟨hf b hb, by have := hlt b hb; omega⟩) hlen ⟨g, 0, none⟩ c H3.out hone rfl _ _ rfl rfl rfl ?_); intro A' c' w2 hfr hg2; have hT : Blk w2 w.heap.size #[.int .i64 0, .int .i64 0, .slice none 0 0] := ((Blk.new_ w 25 #[.int .i64 0, .int .i64 0, .slice none 0 0] rfl).alloc _).grown hg2 (by simp); have d0 := hT.at_ (i := 0) rfl; have d1 := hT.at_ (i := 1) rfl; have d2 := hT.at_ (i := 2) rfl; have e0 := hT.frozen 0; have e1 := hT.frozen 1; have e2 := hT.frozen 2; have hb2 : Below w.heap.size w w2 := (((Below.refl _ _).alloc (Nat.le_refl _) _).alloc (by simp) _).trans ⟨hg2.os, hg2.tape, hg2.output, hg2.size, fun b hb => hg2.block b (by simp; omega) (fun e => by injection e with e; omega)⟩; have hBs : B ≤ w.heap.size := hB)
  refine bodyPost_ret (v := .agg #[.int .i64 k, .int .i64 0, .slice A' us.length c']) (by simp [results, Tryd.results29, go_sem, d0, d1, d2]) rfl ⟨A', c', rfl, ?_, ((hb2.setCell (by simp) _).setCell (by simp) _).setCell (by simp) _⟩
  have hn0 : w.heap.size ∉ f1 := fun h => absurd (hlt _ h) (Nat.lt_irrefl _)
  exact (((hfr.setCell ⟨hn0, by simp⟩ _).setCell ⟨hn0, by simp⟩ _).setCell ⟨hn0, by simp⟩ _).fresh hf (by omega)
end Go.Proofs.YtjpgdfndlmipcaaDoor.Cd

namespace Go.Proofs.YtjpgdfndlmipcaaDoor.Cd
open Go.RowKit
set_option linter.unusedSimpArgs false
set_option linter.unusedVariables false

theorem own_rdp {w : World} {P : Nat → Prop} : (∀ t xs fp, OwT w t xs fp → (∀ b, b ∈ fp → P b) → ∀ g off i, P g → (∀ j u, xs[j]? = some u → w.cell? ⟨g, off + i * 3 + j, none⟩ = some u) → RdPC P w g off i t) ∧
    (∀ ts xs fp, OwX w ts xs fp → (∀ b, b ∈ fp → P b) → ∀ g off i, P g → (∀ j u, xs[j]? = some u → w.cell? ⟨g, off + i * 3 + j, none⟩ = some u) → RdP P w (some ⟨g, off, none⟩) i ts) := by
  refine Tm.ind2 (fun k n ks ih xs fp h hP g off i hg hc => ?_) (fun xs fp h hP g off i hg hc => RdP.nil) (fun t ts h1 h2 xs fp h hP g off i hg hc => ?_)
  · obtain ⟨A, c, rfl, hl, h⟩ := OwT.iff.1 h
    refine RdPC.iff.2 ⟨hg, hc 0 _ rfl, hc 1 _ rfl, A, c, hc 2 _ rfl, hl, ?_⟩
    rcases h with ⟨rfl, rfl⟩ | ⟨g', cur, e, f, hne, rfl, hg', rfl, hx⟩
    · exact RdP.nil
    · refine ih _ _ hx (fun b hb => hP b (by simp [hb])) g' 0 0 (hP g' (by simp)) fun j u hu => ?_
      have e0 : 0 + 0 * 3 + j = j := by omega
      rw [e0, cell_of_row w g' j cur e (0, 0) hg']
      rw [List.getElem?_take] at hu
      split at hu
      · simpa using hu
      · cases hu
  · obtain ⟨x1, x2, f1, f2, rfl, rfl, ht, hx⟩ := OwX.cons_iff.1 h
    have hl := ht.length
    refine RdP.cons_iff.2 ⟨⟨g, off, rfl, h1 _ _ ht (fun b hb => hP b (by simp [hb])) g off i hg fun j u hu => hc j u ?_⟩, h2 _ _ hx (fun b hb => hP b (by simp [hb])) g off (i + 1) hg fun j u hu => ?_⟩
    · rw [List.getElem?_append_left (by have := (List.getElem?_eq_some_iff.1 hu).1; omega)]; exact hu
    · have := hc (3 + j) u (by rw [List.getElem?_append_right (by omega), hl]; simpa using hu)
      rw [show off + (i + 1) * 3 + j = off + i * 3 + (3 + j) from by omega]; exact this
/-- what lies in blocks of its own lies in blocks from B on that are there -/
theorem Fresh.rdp {B : Nat} {w : World} {A : Option Addr} {ks : List Tm} (h : Fresh B w A ks) : RdP (fun b => B ≤ b ∧ b < w.heap.size) w A 0 ks := by
  obtain ⟨fp, h, hn, hge⟩ := h
  have hlt := h.lt
  rcases h with ⟨rfl, rfl⟩ | ⟨g, cur, e, f, hne, rfl, hg, rfl, hx⟩
  · exact RdP.nil
  · refine own_rdp.2 _ _ _ hx (fun b hb => ⟨hge b (by simp [hb]), hlt b (by simp [hb])⟩) g 0 0 ⟨hge g (by simp), hlt g (by simp)⟩ fun j u hu => ?_
    have e0 : 0 + 0 * 3 + j = j := by omega
    rw [e0, cell_of_row w g j cur e (0, 0) hg]
    rw [List.getElem?_take] at hu
    split at hu
    · simpa using hu
    · cases hu

theorem run_append_leaf {B : Nat} {w0 w1 : World} {v : Value} {ts : List Tm} (hp : Part B w0 v ts) (hb : ∀ b, B ≤ b → b < w0.heap.size → w1.heap[b]? = w0.heap[b]?) (hs : w0.heap.size ≤ w1.heap.size) (hB : B ≤ w0.heap.size) (hlen : ts.length ≤ 1099511627776) (k n : Int) (A1 : Option Addr) (c : Nat) (ty : TypeId) :
    ∃ A' c' w', (Builtin.append_ #[23, 23] ty #[v, .slice (some ⟨w1.heap.size, 0, none⟩) 1 1]).run Tryd.prog (w1.alloc (.cells #[.int .i64 k, .int .i64 n, .slice A1 0 c] 25)) = .ok (.slice A' (ts.length + 1) c') w' ∧
      RdP (fun b => B ≤ b ∧ (b < w0.heap.size ∨ w1.heap.size ≤ b) ∧ b < w'.heap.size) w' A' 0 (ts ++ [.mk k n []]) ∧ w1.grownBy w' v.ownBlock ∧ (∀ g, v.ownBlock = some g → B ≤ g ∧ g < w0.heap.size) := by
  obtain ⟨i, hi, hz, hz1, hz2⟩ := info_parts tm_info
  obtain ⟨xs, f, h1, h2, h3, h4, h5⟩ := hp
  have hlt : ∀ g, v.ownBlock = some g → g < w0.heap.size := fun g hg => (h1.lt g hg).2
  have hge : ∀ g, v.ownBlock = some g → B ≤ g := fun g hg => (h1.lt g hg).1
  have hfl := h2.lt
  generalize hW : w1.alloc (.cells #[.int .i64 k, .int .i64 n, .slice A1 0 c] 25) = w
  have hbw : ∀ b, b < w1.heap.size → w.heap[b]? = w1.heap[b]? := fun b h => by rw [← hW]; exact Below.heap_alloc _ _ b h
  have hsw : w.heap.size = w1.heap.size + 1 := by rw [← hW]; simp
  have hcell : Blk w w1.heap.size #[.int .i64 k, .int .i64 n, .slice A1 0 c] := by rw [← hW]; exact Blk.new_ _ _ _ rfl
  have k1 : w.ownsRow B 25 3 v ts.length xs := by
    refine ⟨h1.1, ?_⟩
    rcases h1.2 with hn | ⟨g, cap, cur, rfl, hb', hg, r⟩
    · exact .inl hn
    · exact .inr ⟨g, cap, cur, rfl, hb', (hbw g (by have := hlt g rfl; omega)).trans ((hb g hb' (hlt g rfl)).trans hg), r⟩
  have k2 : OwX w ts xs f := h2.frame fun b hbf => (hbw b (by have := hfl b hbf; omega)).trans (hb b (h4 b hbf) (hfl b hbf))
  have ht : OwX w [.mk k n []] [.int .i64 k, .int .i64 n, .slice A1 0 c] [] := OwX.one (OwT.iff.2 ⟨A1, c, rfl, by simp, .inl ⟨rfl, rfl⟩⟩)
  obtain ⟨v', w', hrun, hown, hg, _, hat⟩ := run_append_own_at (P := Tryd.prog) w B 23 ty 25 i _ 3 40 Tryd.underlying23 hi hz hz1 hz2 rfl (by omega) v ts.length xs k1 ⟨w1.heap.size, 0, none⟩ 1 1 _ ht.length (fun j u hj => by
      rw [add_zero_]; exact hcell.at_ (by simpa using hj)) ht.oneCell
    (by simp only [maxLen]; omega) (by omega) (by omega)
  have e1 : ∀ b, b ∈ f → w'.heap[b]? = w.heap[b]? := fun b hbf => hg.block b (by have := hfl b hbf; omega) (fun e => h5 b e.symm hbf)
  have k3 : OwX w' (ts ++ [.mk k n []]) (xs ++ [.int .i64 k, .int .i64 n, .slice A1 0 c]) (f ++ []) := (k2.frame e1).append (ht.frame fun b hb => by cases hb)
  rw [List.append_nil] at k3
  have hgs := hg.size
  have hgr : w1.grownBy w' v.ownBlock := by
    have : w1.grownBy w v.ownBlock := by rw [← hW]; exact grownBy_alloc_ (World.grownBy.refl _ _) _
    exact grownBy_trans this hg
  obtain ⟨h6, h7⟩ := hown
  rcases h7 with ⟨_, h0⟩ | ⟨g', cap, cur, rfl, hb', hg', _, _, _, htk⟩
  · omega
  · refine ⟨_, _, w', hrun, ?_, hgr, fun g hg => ⟨hge g hg, hlt g hg⟩⟩
    have hgl' : g' < w'.heap.size := (Array.getElem?_eq_some_iff.1 hg').1
    refine own_rdp.2 _ _ _ k3 (fun b hb => ⟨h4 b hb, .inl (hfl b hb), by have := hfl b hb; omega⟩) g' 0 0 ⟨hb', ?_, hgl'⟩ fun j u hu => ?_
    · rcases hat with e | e
      · left; exact hlt g' e.symm
      · right; injection e with e; have e : g' = w.heap.size := e; omega
    · have e0 : 0 + 0 * 3 + j = j := by omega
      rw [e0, cell_of_row w' g' j cur 25 (0, 0) hg']
      rw [← htk, List.getElem?_take] at hu
      split at hu
      · simpa using hu
      · cases hu
theorem wpList_append_leaf {B : Nat} {w0 w1 : World} {v : Value} {ts : List Tm} (hp : Part B w0 v ts) (hb : ∀ b, B ≤ b → b < w0.heap.size → w1.heap[b]? = w0.heap[b]?) (hs : w0.heap.size ≤ w1.heap.size) (hB : B ≤ w0.heap.size) {m : Nat} (hm : ts.length = m) (hlen : m ≤ 1099511627776) (k n : Int) (A1 : Option Addr) (c : Nat)
    {ops : Array Oper} {rest : List Oper} {o : Oper} {a : Act} {Q : Exit → Act → World → Prop} (hgd : o.guard = none) (s x : Operand)
    (ho : o.op = .call { callee := .builtin .append, args := #[s, x], argTypes := #[23, 23] }) (hse : a.eval s = v) (hx : a.eval x = .slice (some ⟨w1.heap.size, 0, none⟩) 1 1)
    (h : ∀ A' c' w', RdP (fun b => B ≤ b ∧ (b < w0.heap.size ∨ w1.heap.size ≤ b) ∧ b < w'.heap.size) w' A' 0 (ts ++ [.mk k n []]) → w1.grownBy w' v.ownBlock → (∀ g, v.ownBlock = some g → B ≤ g ∧ g < w0.heap.size) → wpList Tryd.prog ops Q rest (a.put o.dst (.slice A' (m + 1) c')) w') :
    wpList Tryd.prog ops Q (o :: rest) a (w1.alloc (.cells #[.int .i64 k, .int .i64 n, .slice A1 0 c] 25)) := by
  subst hm
  refine wpList_plain hgd fun K hK => ?_
  obtain ⟨A', c', w', hrun, h2, h3, h4⟩ := run_append_leaf hp hb hs hB hlen k n A1 c o.type
  unfold Oper.wp execOp
  simp only [ho, resolve, invoke, builtin, Sem.run_bind, Sem.run_pure, Result.andThen_ok, List.map_toArray, List.map_cons, List.map_nil, hse, hx, hrun]
  exact hK _ _ (h A' c' w' h2 h3 h4)

end Go.Proofs.YtjpgdfndlmipcaaDoor.Cd

namespace Go.Proofs.YtjpgdfndlmipcaaDoor
open Go.RowKit
set_option linter.unusedSimpArgs false
set_option linter.unusedVariables false

/-- the cells of a row of terms that can be read in some blocks -/
def RdX (p : Nat → Prop) (w : World) : List Tm → List Value → Prop
  | [], xs => xs = []
  | .mk k n ks :: ts, xs => ∃ A c ys, xs = .int .i64 k :: .int .i64 n :: .slice A ks.length c :: ys ∧ ks.length ≤ 9223372036854775807 ∧ RdP p w A 0 ks ∧ RdX p w ts ys
theorem RdX.keep {p q : Nat → Prop} {w w' : World} (hq : ∀ b, p b → q b) (hk : ∀ b, p b → b < w.heap.size → w'.heap[b]? = w.heap[b]?) : ∀ {ts : List Tm} {xs : List Value}, RdX p w ts xs → RdX q w' ts xs
  | [], xs, h => h
  | .mk k n ks :: ts, xs, h => by
    obtain ⟨A, c, ys, e, hl, hr, hx⟩ := h
    exact ⟨A, c, ys, e, hl, (hr.blocks hk).mono hq, hx.keep hq hk⟩
theorem RdX.append {p : Nat → Prop} {w : World} {us : List Tm} {y : List Value} (hu : RdX p w us y) : ∀ {ts : List Tm} {xs : List Value}, RdX p w ts xs → RdX p w (ts ++ us) (xs ++ y)
  | [], xs, h => by have h : xs = [] := h; subst h; exact hu
  | .mk k n ks :: ts, xs, h => by
    obtain ⟨A, c, ys, rfl, hl, hr, hx⟩ := h
    exact ⟨A, c, ys ++ y, rfl, hl, hr, RdX.append hu hx⟩
theorem RdX.length {p : Nat → Prop} {w : World} : ∀ {ts : List Tm} {xs : List Value}, RdX p w ts xs → xs.length = ts.length * 3
  | [], xs, h => by have h : xs = [] := h; subst h; rfl
  | .mk k n ks :: ts, xs, h => by
    obtain ⟨A, c, ys, rfl, hl, hr, hx⟩ := h
    have := hx.length
    simp only [List.length_cons]
    omega
theorem RdX.rd {p : Nat → Prop} {w : World} {g off : Nat} : ∀ {ts : List Tm} {xs : List Value} {i : Nat}, RdX p w ts xs → (∀ j u, xs[j]? = some u → w.cell? ⟨g, off + i * 3 + j, none⟩ = some u) → Rd w (some ⟨g, off, none⟩) i ts
  | [], xs, i, _, _ => Rd.nil
  | .mk k n ks :: ts, xs, i, h, hc => by
    obtain ⟨A, c, ys, rfl, hl, hr, hx⟩ := h
    refine Rd.cons_iff.2 ⟨⟨g, off, rfl, RdC.iff.2 ⟨hc 0 _ rfl, hc 1 _ rfl, A, c, hc 2 _ rfl, hl, hr.rd⟩⟩, hx.rd fun j u hu => ?_⟩
    have := hc (j + 3) u (by simpa using hu)
    rw [← this]
    congr 2
    omega
theorem RdX.rdp {p : Nat → Prop} {w : World} {g off : Nat} (hg : p g) : ∀ {ts : List Tm} {xs : List Value} {i : Nat}, RdX p w ts xs → (∀ j u, xs[j]? = some u → w.cell? ⟨g, off + i * 3 + j, none⟩ = some u) → RdP p w (some ⟨g, off, none⟩) i ts
  | [], xs, i, _, _ => RdP.nil
  | .mk k n ks :: ts, xs, i, h, hc => by
    obtain ⟨A, c, ys, rfl, hl, hr, hx⟩ := h
    refine RdP.cons_iff.2 ⟨⟨g, off, rfl, RdPC.iff.2 ⟨hg, hc 0 _ rfl, hc 1 _ rfl, A, c, hc 2 _ rfl, hl, hr⟩⟩, hx.rdp hg fun j u hu => ?_⟩
    have := hc (j + 3) u (by simpa using hu)
    rw [← this]
    congr 2
    omega
/-- where the terms of a slice that grows may lie: where p says, or from B on, not in the row itself -/
def PB (lo : Nat → Prop) (B : Nat) (w : World) (v : Value) (b : Nat) : Prop := (lo b ∨ B ≤ b) ∧ b < w.heap.size ∧ v.ownBlock ≠ some b
/-- a slice of terms that grows: its own row lies from B on -/
def PartR (lo : Nat → Prop) (B : Nat) (w : World) (v : Value) (ts : List Tm) : Prop :=
  ∃ xs, w.ownsRow B 48 3 v ts.length xs ∧ RdX (PB lo B w v) w ts xs
section
variable {lo : Nat → Prop} {B : Nat} {w w' : World} {v : Value} {ts : List Tm}
theorem PartR.nil : PartR lo B w (.slice none 0 0) [] := ⟨[], World.ownsRow_nil _ _ _ _, rfl⟩
theorem PartR.below (h : PartR lo B w v ts) (hk : Below w.heap.size w w') : PartR lo B w' v ts := by
  obtain ⟨xs, h1, h2⟩ := h
  refine ⟨xs, ⟨h1.1, ?_⟩, h2.keep (fun b hb => ⟨hb.1, Nat.lt_of_lt_of_le hb.2.1 hk.size, hb.2.2⟩) fun b hb hl => hk.block b hl⟩
  rcases h1.2 with hn | ⟨g, cap, cur, rfl, hb, hg, r⟩
  · exact .inl hn
  · exact .inr ⟨g, cap, cur, rfl, hb, (hk.block g (Array.getElem?_eq_some_iff.1 hg).1).trans hg, r⟩
theorem PartR.alloc (h : PartR lo B w v ts) (o : Obj) : PartR lo B (w.alloc o) v ts := h.below ((Below.refl _ _).alloc (Nat.le_refl _) _)
theorem PartR.drew (h : PartR lo B w v ts) : PartR lo B w.drew v ts := h.below (Below.refl _ _).drew
theorem PartR.setCell (h : PartR lo B w v ts) {a : Addr} (ha : ¬ lo a.block ∧ a.block < B) (u : Value) : PartR lo B (w.setCell a u) v ts := by
  obtain ⟨xs, h1, h2⟩ := h
  refine ⟨xs, ⟨h1.1, ?_⟩, h2.keep (fun b hb => ⟨hb.1, by simpa using hb.2.1, hb.2.2⟩) fun b hb hl => Below.heap_setCell w a u b (fun e => by subst e; exact hb.1.elim ha.1 (fun h => by omega))⟩
  rcases h1.2 with hn | ⟨g, cap, cur, rfl, hb, hg, r⟩
  · exact .inl hn
  · exact .inr ⟨g, cap, cur, rfl, hb, (Below.heap_setCell w a u g (by omega)).trans hg, r⟩
/-- at the end: the slice's shape, and that its terms can be read -/
theorem PartR.rd (h : PartR lo B w v ts) : ∃ A c, v = .slice A ts.length c ∧ RdP (fun b => lo b ∨ B ≤ b) w A 0 ts := by
  obtain ⟨xs, h1, h2⟩ := h
  rcases h1.2 with ⟨rfl, h0⟩ | ⟨g, cap, cur, rfl, hb, hg, _, _, _, htk⟩
  · have : ts = [] := List.eq_nil_of_length_eq_zero h0
    subst this
    exact ⟨none, 0, rfl, RdP.nil⟩
  · refine ⟨_, _, rfl, RdX.rdp (.inr hb) (h2.keep (fun b hb => hb.1) fun _ _ _ => rfl) fun j u hu => ?_⟩
    rw [show 0 + 0 * 3 + j = j by omega, cell_of_row w g j cur 48 (0, 0) hg]
    have h3 := htk
    rw [← h3, List.getElem?_take] at hu
    split at hu
    · simpa using hu
    · cases hu
theorem PartR.shape (h : PartR lo B w v ts) : ∃ A c, v = .slice A ts.length c := by
  obtain ⟨A, c, hv, _⟩ := h.rd; exact ⟨A, c, hv⟩
end
section
variable {lo : Nat → Prop} {B : Nat} {w : World} {v : Value} {ts : List Tm} {k n : Int} {ks : List Tm} {A : Option Addr} {c : Nat} {q : Nat → Prop}
/-- append of one term that can be read -/
theorem run_append_rd (hp : PartR lo B w v ts) (hB : B ≤ w.heap.size) (hr : RdP q w A 0 ks) (hq : ∀ b, q b → PB lo B w v b) (hl : ks.length ≤ 9223372036854775807) (hlen : ts.length ≤ 1099511627776) (ty : TypeId) :
    ∃ v' w', (Builtin.append_ #[46, 46] ty #[v, .slice (some ⟨w.heap.size, 0, none⟩) 1 1]).run Tryd.prog (w.alloc (.cells #[.int .i64 k, .int .i64 n, .slice A ks.length c] 48)) = .ok v' w' ∧
      PartR lo B w' v' (ts ++ [.mk k n ks]) ∧ Below B w w' ∧ w.grownBy w' v.ownBlock := by
  obtain ⟨i, hi, hz, hz1, hz2⟩ := info_parts tm_info
  obtain ⟨xs, k1, h2⟩ := hp.alloc (.cells #[.int .i64 k, .int .i64 n, .slice A ks.length c] 48)
  have hge : ∀ g, v.ownBlock = some g → B ≤ g := fun g hg => (k1.lt g hg).1
  obtain ⟨v', w', hrun, hown, hg, _, hat⟩ := run_append_own_at (P := Tryd.prog) (w.alloc (.cells #[.int .i64 k, .int .i64 n, .slice A ks.length c] 48)) B 46 ty 48 i _ 3 40 Tryd.underlying46 hi hz hz1 hz2 rfl (by simp) v ts.length xs k1 ⟨w.heap.size, 0, none⟩ 1 1 [.int .i64 k, .int .i64 n, .slice A ks.length c] rfl (by
    intro j u hj
    match j, hj with
    | 0, hj => simp only [List.getElem?_cons_zero, Option.some.injEq] at hj; subst hj; simp [Addr.add]
    | 1, hj => simp only [List.getElem?_cons_succ, List.getElem?_cons_zero, Option.some.injEq] at hj; subst hj; simp [Addr.add]
    | 2, hj => simp only [List.getElem?_cons_succ, List.getElem?_cons_zero, Option.some.injEq] at hj; subst hj; simp [Addr.add]) (by
    intro u hu
    simp only [List.mem_cons, List.not_mem_nil, or_false] at hu
    rcases hu with rfl | rfl | rfl <;> rfl) (by simp only [maxLen]; omega) (by omega) (by simp; omega)
  have hsz : w.heap.size + 1 ≤ w'.heap.size := by have := hg.size; simpa using this
  have hne : ∀ b, b < (w.alloc (.cells #[.int .i64 k, .int .i64 n, .slice A ks.length c] 48)).heap.size → v.ownBlock ≠ some b → v'.ownBlock ≠ some b := by
    intro b hb hv e
    rcases hat with e' | e'
    · exact hv (e'.symm.trans e)
    · rw [e'] at e; injection e with e; omega
  have hst : ∀ b, PB lo B (w.alloc (.cells #[.int .i64 k, .int .i64 n, .slice A ks.length c] 48)) v b → PB lo B w' v' b := fun b hb => ⟨hb.1, by have := hb.2.1; have := hg.size; omega, hne b hb.2.1 hb.2.2⟩
  have hkp : ∀ b, PB lo B (w.alloc (.cells #[.int .i64 k, .int .i64 n, .slice A ks.length c] 48)) v b → b < (w.alloc (.cells #[.int .i64 k, .int .i64 n, .slice A ks.length c] 48)).heap.size → w'.heap[b]? = (w.alloc (.cells #[.int .i64 k, .int .i64 n, .slice A ks.length c] 48)).heap[b]? := fun b hb hl => hg.block b hl (fun e => hb.2.2 e.symm)
  have hr' : RdP (PB lo B w' v') w' A 0 ks := (((hr.alloc (.cells #[.int .i64 k, .int .i64 n, .slice A ks.length c] 48)).mono (q := PB lo B (w.alloc (.cells #[.int .i64 k, .int .i64 n, .slice A ks.length c] 48)) v) (fun b hb => ⟨(hq b hb).1, by have := (hq b hb).2.1; simp; omega, (hq b hb).2.2⟩)).blocks hkp).mono hst
  refine ⟨v', w', hrun, ⟨xs ++ [.int .i64 k, .int .i64 n, .slice A ks.length c], by simpa using hown, RdX.append (show RdX (PB lo B w' v') w' [.mk k n ks] _ from ⟨A, c, [], rfl, hl, hr', rfl⟩) (h2.keep hst hkp)⟩, ?_, grownBy_trans (grownBy_alloc_ (World.grownBy.refl _ _) _) hg⟩
  exact ((Below.refl _ _).alloc hB _).trans ⟨hg.os, hg.tape, hg.output, hg.size, fun k hk => hg.block k (by simp; omega) (fun e => by have := hge k e.symm; omega)⟩
/-- in a plain region -/
theorem wpList_append_rd (hp : PartR lo B w v ts) (hB : B ≤ w.heap.size) (hr : RdP q w A 0 ks) (hq : ∀ b, q b → PB lo B w v b) (hl : ks.length ≤ 9223372036854775807) {m : Nat} (hm : ts.length = m) (hlen : m ≤ 1099511627776)
    {ops : Array Oper} {rest : List Oper} {o : Oper} {a : Act} {Q : Exit → Act → World → Prop} (hgd : o.guard = none) (s x : Operand)
    (ho : o.op = .call { callee := .builtin .append, args := #[s, x], argTypes := #[46, 46] }) (hse : a.eval s = v) (hx : a.eval x = .slice (some ⟨w.heap.size, 0, none⟩) 1 1)
    (h : ∀ A' c' w', PartR lo B w' (.slice A' (m + 1) c') (ts ++ [.mk k n ks]) → Below B w w' → w.grownBy w' v.ownBlock → wpList Tryd.prog ops Q rest (a.put o.dst (.slice A' (m + 1) c')) w') :
    wpList Tryd.prog ops Q (o :: rest) a (w.alloc (.cells #[.int .i64 k, .int .i64 n, .slice A ks.length c] 48)) := by
  subst hm
  refine wpList_plain hgd fun K hK => ?_
  obtain ⟨v', w', hrun, h2, h3, h4⟩ := run_append_rd (k := k) (n := n) (c := c) hp hB hr hq hl hlen o.type
  unfold Oper.wp execOp
  simp only [ho, resolve, invoke, builtin, Sem.run_bind, Sem.run_pure, Result.andThen_ok, List.map_toArray, List.map_cons, List.map_nil, hse, hx, hrun]
  obtain ⟨A', c', rfl⟩ := h2.shape
  rw [List.length_append] at h2 ⊢
  exact hK _ _ (h A' c' w' h2 h3 h4)
end
end Go.Proofs.YtjpgdfndlmipcaaDoor

namespace Go.Proofs.YtjpgdfndlmipcaaDoor
open Go.RowKit
set_option linter.unusedSimpArgs false
set_option linter.unusedVariables false

/-- a term that can be read, where p says or in new blocks -/
def GotR (p : Nat → Prop) (w : World) (k n : Int) (ks : List Tm) (e : Ending) (w' : World) : Prop :=
  ∃ A c, e = .returned (.agg #[.int .i64 k, .int .i64 n, .slice A ks.length c]) ∧ ks.length ≤ 9223372036854775807 ∧ RdP (fun b => p b ∨ w.heap.size ≤ b) w' A 0 ks ∧ Below w.heap.size w w'
end Go.Proofs.YtjpgdfndlmipcaaDoor

namespace Go.Proofs.YtjpgdfndlmipcaaDoor.Cd
open Go.RowKit
set_option linter.unusedSimpArgs false
set_option linter.unusedVariables false

/-- the cells of a row of terms that can be read in some blocks -/
def RdX (p : Nat → Prop) (w : World) : List Tm → List Value → Prop
  | [], xs => xs = []
  | .mk k n ks :: ts, xs => ∃ A c ys, xs = .int .i64 k :: .int .i64 n :: .slice A ks.length c :: ys ∧ ks.length ≤ 9223372036854775807 ∧ RdP p w A 0 ks ∧ RdX p w ts ys
theorem RdX.keep {p q : Nat → Prop} {w w' : World} (hq : ∀ b, p b → q b) (hk : ∀ b, p b → b < w.heap.size → w'.heap[b]? = w.heap[b]?) : ∀ {ts : List Tm} {xs : List Value}, RdX p w ts xs → RdX q w' ts xs
  | [], xs, h => h
  | .mk k n ks :: ts, xs, h => by
    obtain ⟨A, c, ys, e, hl, hr, hx⟩ := h
    exact ⟨A, c, ys, e, hl, (hr.blocks hk).mono hq, hx.keep hq hk⟩
theorem RdX.append {p : Nat → Prop} {w : World} {us : List Tm} {y : List Value} (hu : RdX p w us y) : ∀ {ts : List Tm} {xs : List Value}, RdX p w ts xs → RdX p w (ts ++ us) (xs ++ y)
  | [], xs, h => by have h : xs = [] := h; subst h; exact hu
  | .mk k n ks :: ts, xs, h => by
    obtain ⟨A, c, ys, rfl, hl, hr, hx⟩ := h
    exact ⟨A, c, ys ++ y, rfl, hl, hr, RdX.append hu hx⟩
theorem RdX.length {p : Nat → Prop} {w : World} : ∀ {ts : List Tm} {xs : List Value}, RdX p w ts xs → xs.length = ts.length * 3
  | [], xs, h => by have h : xs = [] := h; subst h; rfl
  | .mk k n ks :: ts, xs, h => by
    obtain ⟨A, c, ys, rfl, hl, hr, hx⟩ := h
    have := hx.length
    simp only [List.length_cons]
    omega
theorem RdX.rd {p : Nat → Prop} {w : World} {g off : Nat} : ∀ {ts : List Tm} {xs : List Value} {i : Nat}, RdX p w ts xs → (∀ j u, xs[j]? = some u → w.cell? ⟨g, off + i * 3 + j, none⟩ = some u) → Rd w (some ⟨g, off, none⟩) i ts
  | [], xs, i, _, _ => Rd.nil
  | .mk k n ks :: ts, xs, i, h, hc => by
    obtain ⟨A, c, ys, rfl, hl, hr, hx⟩ := h
    refine Rd.cons_iff.2 ⟨⟨g, off, rfl, RdC.iff.2 ⟨hc 0 _ rfl, hc 1 _ rfl, A, c, hc 2 _ rfl, hl, hr.rd⟩⟩, hx.rd fun j u hu => ?_⟩
    have := hc (j + 3) u (by simpa using hu)
    rw [← this]
    congr 2
    omega
theorem RdX.rdp {p : Nat → Prop} {w : World} {g off : Nat} (hg : p g) : ∀ {ts : List Tm} {xs : List Value} {i : Nat}, RdX p w ts xs → (∀ j u, xs[j]? = some u → w.cell? ⟨g, off + i * 3 + j, none⟩ = some u) → RdP p w (some ⟨g, off, none⟩) i ts
  | [], xs, i, _, _ => RdP.nil
  | .mk k n ks :: ts, xs, i, h, hc => by
    obtain ⟨A, c, ys, rfl, hl, hr, hx⟩ := h
    refine RdP.cons_iff.2 ⟨⟨g, off, rfl, RdPC.iff.2 ⟨hg, hc 0 _ rfl, hc 1 _ rfl, A, c, hc 2 _ rfl, hl, hr⟩⟩, hx.rdp hg fun j u hu => ?_⟩
    have := hc (j + 3) u (by simpa using hu)
    rw [← this]
    congr 2
    omega
/-- where the terms of a slice that grows may lie: where p says, or from B on, not in the row itself -/
def PB (lo : Nat → Prop) (B : Nat) (w : World) (v : Value) (b : Nat) : Prop := (lo b ∨ B ≤ b) ∧ b < w.heap.size ∧ v.ownBlock ≠ some b
/-- a slice of terms that grows: its own row lies from B on -/
def PartR (lo : Nat → Prop) (B : Nat) (w : World) (v : Value) (ts : List Tm) : Prop :=
  ∃ xs, w.ownsRow B 25 3 v ts.length xs ∧ RdX (PB lo B w v) w ts xs
section
variable {lo : Nat → Prop} {B : Nat} {w w' : World} {v : Value} {ts : List Tm}
theorem PartR.nil : PartR lo B w (.slice none 0 0) [] := ⟨[], World.ownsRow_nil _ _ _ _, rfl⟩
theorem PartR.below (h : PartR lo B w v ts) (hk : Below w.heap.size w w') : PartR lo B w' v ts := by
  obtain ⟨xs, h1, h2⟩ := h
  refine ⟨xs, ⟨h1.1, ?_⟩, h2.keep (fun b hb => ⟨hb.1, Nat.lt_of_lt_of_le hb.2.1 hk.size, hb.2.2⟩) fun b hb hl => hk.block b hl⟩
  rcases h1.2 with hn | ⟨g, cap, cur, rfl, hb, hg, r⟩
  · exact .inl hn
  · exact .inr ⟨g, cap, cur, rfl, hb, (hk.block g (Array.getElem?_eq_some_iff.1 hg).1).trans hg, r⟩
theorem PartR.alloc (h : PartR lo B w v ts) (o : Obj) : PartR lo B (w.alloc o) v ts := h.below ((Below.refl _ _).alloc (Nat.le_refl _) _)
theorem PartR.drew (h : PartR lo B w v ts) : PartR lo B w.drew v ts := h.below (Below.refl _ _).drew
theorem PartR.setCell (h : PartR lo B w v ts) {a : Addr} (ha : ¬ lo a.block ∧ a.block < B) (u : Value) : PartR lo B (w.setCell a u) v ts := by
  obtain ⟨xs, h1, h2⟩ := h
  refine ⟨xs, ⟨h1.1, ?_⟩, h2.keep (fun b hb => ⟨hb.1, by simpa using hb.2.1, hb.2.2⟩) fun b hb hl => Below.heap_setCell w a u b (fun e => by subst e; exact hb.1.elim ha.1 (fun h => by omega))⟩
  rcases h1.2 with hn | ⟨g, cap, cur, rfl, hb, hg, r⟩
  · exact .inl hn
  · exact .inr ⟨g, cap, cur, rfl, hb, (Below.heap_setCell w a u g (by omega)).trans hg, r⟩
/-- at the end: the slice's shape, and that its terms can be read -/
theorem PartR.rd (h : PartR lo B w v ts) : ∃ A c, v = .slice A ts.length c ∧ RdP (fun b => lo b ∨ B ≤ b) w A 0 ts := by
  obtain ⟨xs, h1, h2⟩ := h
  rcases h1.2 with ⟨rfl, h0⟩ | ⟨g, cap, cur, rfl, hb, hg, _, _, _, htk⟩
  · have : ts = [] := List.eq_nil_of_length_eq_zero h0
    subst this
    exact ⟨none, 0, rfl, RdP.nil⟩
  · refine ⟨_, _, rfl, RdX.rdp (.inr hb) (h2.keep (fun b hb => hb.1) fun _ _ _ => rfl) fun j u hu => ?_⟩
    rw [show 0 + 0 * 3 + j = j by omega, cell_of_row w g j cur 25 (0, 0) hg]
    have h3 := htk
    rw [← h3, List.getElem?_take] at hu
    split at hu
    · simpa using hu
    · cases hu
theorem PartR.shape (h : PartR lo B w v ts) : ∃ A c, v = .slice A ts.length c := by
  obtain ⟨A, c, hv, _⟩ := h.rd; exact ⟨A, c, hv⟩
end
section
variable {lo : Nat → Prop} {B : Nat} {w : World} {v : Value} {ts : List Tm} {k n : Int} {ks : List Tm} {A : Option Addr} {c : Nat} {q : Nat → Prop}
/-- append of one term that can be read -/
theorem run_append_rd (hp : PartR lo B w v ts) (hB : B ≤ w.heap.size) (hr : RdP q w A 0 ks) (hq : ∀ b, q b → PB lo B w v b) (hl : ks.length ≤ 9223372036854775807) (hlen : ts.length ≤ 1099511627776) (ty : TypeId) :
    ∃ v' w', (Builtin.append_ #[23, 23] ty #[v, .slice (some ⟨w.heap.size, 0, none⟩) 1 1]).run Tryd.prog (w.alloc (.cells #[.int .i64 k, .int .i64 n, .slice A ks.length c] 25)) = .ok v' w' ∧
      PartR lo B w' v' (ts ++ [.mk k n ks]) ∧ Below B w w' ∧ w.grownBy w' v.ownBlock := by
  obtain ⟨i, hi, hz, hz1, hz2⟩ := info_parts tm_info
  obtain ⟨xs, k1, h2⟩ := hp.alloc (.cells #[.int .i64 k, .int .i64 n, .slice A ks.length c] 25)
  have hge : ∀ g, v.ownBlock = some g → B ≤ g := fun g hg => (k1.lt g hg).1
  obtain ⟨v', w', hrun, hown, hg, _, hat⟩ := run_append_own_at (P := Tryd.prog) (w.alloc (.cells #[.int .i64 k, .int .i64 n, .slice A ks.length c] 25)) B 23 ty 25 i _ 3 40 Tryd.underlying23 hi hz hz1 hz2 rfl (by simp) v ts.length xs k1 ⟨w.heap.size, 0, none⟩ 1 1 [.int .i64 k, .int .i64 n, .slice A ks.length c] rfl (by
    intro j u hj
    match j, hj with
    | 0, hj => simp only [List.getElem?_cons_zero, Option.some.injEq] at hj; subst hj; simp [Addr.add]
    | 1, hj => simp only [List.getElem?_cons_succ, List.getElem?_cons_zero, Option.some.injEq] at hj; subst hj; simp [Addr.add]
    | 2, hj => simp only [List.getElem?_cons_succ, List.getElem?_cons_zero, Option.some.injEq] at hj; subst hj; simp [Addr.add]) (by
    intro u hu
    simp only [List.mem_cons, List.not_mem_nil, or_false] at hu
    rcases hu with rfl | rfl | rfl <;> rfl) (by simp only [maxLen]; omega) (by omega) (by simp; omega)
  have hsz : w.heap.size + 1 ≤ w'.heap.size := by have := hg.size; simpa using this
  have hne : ∀ b, b < (w.alloc (.cells #[.int .i64 k, .int .i64 n, .slice A ks.length c] 25)).heap.size → v.ownBlock ≠ some b → v'.ownBlock ≠ some b := by
    intro b hb hv e
    rcases hat with e' | e'
    · exact hv (e'.symm.trans e)
    · rw [e'] at e; injection e with e; omega
  have hst : ∀ b, PB lo B (w.alloc (.cells #[.int .i64 k, .int .i64 n, .slice A ks.length c] 25)) v b → PB lo B w' v' b := fun b hb => ⟨hb.1, by have := hb.2.1; have := hg.size; omega, hne b hb.2.1 hb.2.2⟩
  have hkp : ∀ b, PB lo B (w.alloc (.cells #[.int .i64 k, .int .i64 n, .slice A ks.length c] 25)) v b → b < (w.alloc (.cells #[.int .i64 k, .int .i64 n, .slice A ks.length c] 25)).heap.size → w'.heap[b]? = (w.alloc (.cells #[.int .i64 k, .int .i64 n, .slice A ks.length c] 25)).heap[b]? := fun b hb hl => hg.block b hl (fun e => hb.2.2 e.symm)
  have hr' : RdP (PB lo B w' v') w' A 0 ks := (((hr.alloc (.cells #[.int .i64 k, .int .i64 n, .slice A ks.length c] 25)).mono (q := PB lo B (w.alloc (.cells #[.int .i64 k, .int .i64 n, .slice A ks.length c] 25)) v) (fun b hb => ⟨(hq b hb).1, by have := (hq b hb).2.1; simp; omega, (hq b hb).2.2⟩)).blocks hkp).mono hst
  refine ⟨v', w', hrun, ⟨xs ++ [.int .i64 k, .int .i64 n, .slice A ks.length c], by simpa using hown, RdX.append (show RdX (PB lo B w' v') w' [.mk k n ks] _ from ⟨A, c, [], rfl, hl, hr', rfl⟩) (h2.keep hst hkp)⟩, ?_, grownBy_trans (grownBy_alloc_ (World.grownBy.refl _ _) _) hg⟩
  exact ((Below.refl _ _).alloc hB _).trans ⟨hg.os, hg.tape, hg.output, hg.size, fun k hk => hg.block k (by simp; omega) (fun e => by have := hge k e.symm; omega)⟩
/-- in a plain region -/
theorem wpList_append_rd (hp : PartR lo B w v ts) (hB : B ≤ w.heap.size) (hr : RdP q w A 0 ks) (hq : ∀ b, q b → PB lo B w v b) (hl : ks.length ≤ 9223372036854775807) {m : Nat} (hm : ts.length = m) (hlen : m ≤ 1099511627776)
    {ops : Array Oper} {rest : List Oper} {o : Oper} {a : Act} {Q : Exit → Act → World → Prop} (hgd : o.guard = none) (s x : Operand)
    (ho : o.op = .call { callee := .builtin .append, args := #[s, x], argTypes := #[23, 23] }) (hse : a.eval s = v) (hx : a.eval x = .slice (some ⟨w.heap.size, 0, none⟩) 1 1)
    (h : ∀ A' c' w', PartR lo B w' (.slice A' (m + 1) c') (ts ++ [.mk k n ks]) → Below B w w' → w.grownBy w' v.ownBlock → wpList Tryd.prog ops Q rest (a.put o.dst (.slice A' (m + 1) c')) w') :
    wpList Tryd.prog ops Q (o :: rest) a (w.alloc (.cells #[.int .i64 k, .int .i64 n, .slice A ks.length c] 25)) := by
  subst hm
  refine wpList_plain hgd fun K hK => ?_
  obtain ⟨v', w', hrun, h2, h3, h4⟩ := run_append_rd (k := k) (n := n) (c := c) hp hB hr hq hl hlen o.type
  unfold Oper.wp execOp
  simp only [ho, resolve, invoke, builtin, Sem.run_bind, Sem.run_pure, Result.andThen_ok, List.map_toArray, List.map_cons, List.map_nil, hse, hx, hrun]
  obtain ⟨A', c', rfl⟩ := h2.shape
  rw [List.length_append] at h2 ⊢
  exact hK _ _ (h A' c' w' h2 h3 h4)
end
end Go.Proofs.YtjpgdfndlmipcaaDoor.Cd

namespace Go.Proofs.YtjpgdfndlmipcaaDoor.Cd
open Go.RowKit
set_option linter.unusedSimpArgs false
set_option linter.unusedVariables false

theorem RdX.oneCell {p : Nat → Prop} {w : World} : ∀ {ts : List Tm} {xs : List Value}, RdX p w ts xs → ∀ u, u ∈ xs → u.oneCell' = true
  | [], xs, h, u, hu => by have h : xs = [] := h; subst h; cases hu
  | .mk k n ks :: ts, xs, h, u, hu => by
    obtain ⟨A, c, ys, rfl, hl, hr, hx⟩ := h
    simp only [List.mem_cons] at hu
    rcases hu with rfl | rfl | rfl | hu
    · rfl
    · rfl
    · rfl
    · exact hx.oneCell u hu
theorem run_append_nodeR {w : World} {us : List Tm} {x1 : List Value} {g : Nat} {lo : Nat → Prop} (hg : w.heap[g]? = some (.cells #[] 25 (0, 0))) (hlo : ∀ b, lo b → b < g) (hgw : g < w.heap.size)
    (ht : RdX lo w us x1) (hlen : us.length ≤ 1099511627776) (ad : Addr) (c : Nat) (hc : ∀ j u, x1[j]? = some u → w.cell? (ad.add j) = some u) (ty : TypeId) :
    ∃ A c' w', (Builtin.append_ #[23, 23] ty #[.slice (some ⟨g, 0, none⟩) 0 0, .slice (some ad) us.length c]).run Tryd.prog w = .ok (.slice A us.length c') w' ∧ RdP (fun b => lo b ∨ g ≤ b) w' A 0 us ∧ w.grownBy w' (some g) := by
  obtain ⟨i, hi, hz, hz1, hz2⟩ := info_parts tm_info
  have k1 : w.ownsRow g 25 3 (.slice (some ⟨g, 0, none⟩) 0 0) 0 [] := ⟨by simp, .inr ⟨g, 0, #[], rfl, Nat.le_refl _, hg, Nat.le_refl _, by simp [maxLen], by simp, by simp⟩⟩
  obtain ⟨v', w', hrun, hown, hgr, _, hat⟩ := run_append_own_at (P := Tryd.prog) w g 23 ty 25 i _ 3 40 Tryd.underlying23 hi hz hz1 hz2 rfl (by omega) _ 0 [] k1 ad us.length c x1 ht.length hc ht.oneCell
    (by simp only [maxLen]; omega) (by omega) (by omega)
  rw [Nat.zero_add, List.nil_append] at hown
  obtain ⟨h2, h3⟩ := hown
  rcases h3 with ⟨rfl, h0⟩ | ⟨g', cap, cur, rfl, hb', hg', _, _, _, htk⟩
  · have : us = [] := List.eq_nil_of_length_eq_zero h0
    subst this
    exact ⟨none, 0, w', hrun, RdP.nil, hgr⟩
  · refine ⟨_, _, w', hrun, RdX.rdp (.inr hb') (ht.keep (fun b hb => .inl hb) fun b hb hl => hgr.block b hl (fun e => by injection e with e; have e : b = g := e; have := hlo b hb; omega)) fun j u hu => ?_, hgr⟩
    rw [show 0 + 0 * 3 + j = j by omega, cell_of_row w' g' j cur 25 (0, 0) hg']
    rw [← htk, List.getElem?_take] at hu
    split at hu
    · simpa using hu
    · cases hu
theorem wpList_append_nodeR {w : World} {us : List Tm} {x1 : List Value} {g : Nat} {lo : Nat → Prop} (hg : w.heap[g]? = some (.cells #[] 25 (0, 0))) (hlo : ∀ b, lo b → b < g) (hgw : g < w.heap.size)
    (ht : RdX lo w us x1) (hlen : us.length ≤ 1099511627776) (ad : Addr) (c : Nat) (hc : ∀ j u, x1[j]? = some u → w.cell? (ad.add j) = some u)
    {ops : Array Oper} {rest : List Oper} {o : Oper} {a : Act} {Q : Exit → Act → World → Prop} (hgd : o.guard = none) (s x : Operand)
    (ho : o.op = .call { callee := .builtin .append, args := #[s, x], argTypes := #[23, 23] }) (hse : a.eval s = .slice (some ⟨g, 0, none⟩) 0 0) (hx : a.eval x = .slice (some ad) us.length c)
    (h : ∀ A' c' w', RdP (fun b => lo b ∨ g ≤ b) w' A' 0 us → w.grownBy w' (some g) → wpList Tryd.prog ops Q rest (a.put o.dst (.slice A' us.length c')) w') :
    wpList Tryd.prog ops Q (o :: rest) a w := by
  refine wpList_plain hgd fun K hK => ?_
  obtain ⟨A', c', w', hrun, h2, h3⟩ := run_append_nodeR hg hlo hgw ht hlen ad c hc o.type
  unfold Oper.wp execOp
  simp only [ho, resolve, invoke, builtin, Sem.run_bind, Sem.run_pure, Result.andThen_ok, List.map_toArray, List.map_cons, List.map_nil, hse, hx, hrun]
  exact hK _ _ (h A' c' w' h2 h3)
set_option maxHeartbeats 2000000 in
set_option maxRecDepth 100000 in
theorem l1NodeR_any {p : Nat → Prop} {w : World} {us : List Tm} {x1 : List Value} (k : Int) (ht : RdX p w us x1) (hpw : ∀ b, p b → b < w.heap.size) (hlen : us.length ≤ 1099511627776) (g c : Nat) (hb : Blk w g x1.toArray) :
    Calls Tryd.prog 29 #[.int .i64 k, .slice (some ⟨g, 0, none⟩) us.length c] w (GotR p w k 0 us) := by
  have hgl := hb.lt
  go_enter Tryd.func29, Tryd.ntmps29
  have H1 := hide (show ((w.alloc (.cells #[.int .i64 0, .int .i64 0, .slice none 0 0] 25)).alloc (.cells #[] 25)).heap[w.heap.size + 1]? = some (.cells #[] 25 (0, 0)) by simpa using heap_alloc_new (w.alloc (.cells #[.int .i64 0, .int .i64 0, .slice none 0 0] 25)) (.cells #[] 25))
  have H2 := hide (show RdX p ((w.alloc (.cells #[.int .i64 0, .int .i64 0, .slice none 0 0] 25)).alloc (.cells #[] 25)) us x1 from ht.keep (fun _ h => h) fun b hb _ => (Below.heap_alloc _ _ b (by have := hpw b hb; simp; omega)).trans (Below.heap_alloc _ _ b (hpw b hb)))
  have H3 := hide (show ∀ j u, x1[j]? = some u → ((w.alloc (.cells #[.int .i64 0, .int .i64 0, .slice none 0 0] 25)).alloc (.cells #[] 25)).cell? (Addr.add ⟨g, 0, none⟩ j) = some u from fun j u hj => by
    have := ((hb.alloc (.cells #[.int .i64 0, .int .i64 0, .slice none 0 0] 25)).alloc (.cells #[] 25)).at_ (i := j) (v := u) (by simpa using hj)
    rw [add_zero_]; exact this)
  go_wp2_with (at_builtin; (refine wpList_append_nodeR (us := us) (x1 := x1) (g := w.heap.size + 1) (lo := p) H1.out (fun b hb => by have := hpw b hb; omega) (by simp) H2.out hlen ⟨g, 0, none⟩ c H3.out rfl _ _ rfl rfl rfl ?_); intro A' c' w2 hfr hg2; have hT : Blk w2 w.heap.size #[.int .i64 0, .int .i64 0, .slice none 0 0] := ((Blk.new_ w 25 #[.int .i64 0, .int .i64 0, .slice none 0 0] rfl).alloc _).grown hg2 (by simp); have d0 := hT.at_ (i := 0) rfl; have d1 := hT.at_ (i := 1) rfl; have d2 := hT.at_ (i := 2) rfl; have e0 := hT.frozen 0; have e1 := hT.frozen 1; have e2 := hT.frozen 2; have hb2 : Below w.heap.size w w2 := (((Below.refl _ _).alloc (Nat.le_refl _) _).alloc (by simp) _).trans ⟨hg2.os, hg2.tape, hg2.output, hg2.size, fun b hb => hg2.block b (by simp; omega) (fun e => by injection e with e; omega)⟩)
  have hzz : ¬ (p w.heap.size ∨ w.heap.size + 1 ≤ w.heap.size) := fun h => h.elim (fun h => by have := hpw _ h; omega) (fun h => by omega)
  refine bodyPost_ret (v := .agg #[.int .i64 k, .int .i64 0, .slice A' us.length c']) (by simp [results, Tryd.results29, go_sem, d0, d1, d2]) rfl ⟨A', c', rfl, by omega, ?_, ((hb2.setCell (by simp) _).setCell (by simp) _).setCell (by simp) _⟩
  exact (((hfr.setCell hzz _).setCell hzz _).setCell hzz _).mono (fun b hb => hb.imp id (fun h => by omega))
end Go.Proofs.YtjpgdfndlmipcaaDoor.Cd

namespace Go.Proofs.YtjpgdfndlmipcaaDoor
open Go.RowKit
set_option linter.unusedSimpArgs false
set_option linter.unusedVariables false

/-- the terms lie in blocks of their own: some that are named, and new ones from g on -/
def FreshN (f1 : List Nat) (g : Nat) (w : World) (A : Option Addr) (ks : List Tm) : Prop := ∃ fp, Ow w A ks fp ∧ fp.Nodup ∧ ∀ b, b ∈ fp → b ∈ f1 ∨ g ≤ b
theorem FreshN.setCell {f1 : List Nat} {g : Nat} {w : World} {A : Option Addr} {ks : List Tm} (h : FreshN f1 g w A ks) {a : Addr} (ha : a.block ∉ f1 ∧ a.block < g) (u : Value) : FreshN f1 g (w.setCell a u) A ks := by
  obtain ⟨fp, h1, h2, h3⟩ := h
  refine ⟨fp, h1.frame fun b hb => Below.heap_setCell w a u b (fun e => ?_), h2, h3⟩
  rcases h3 b hb with h | h
  · exact ha.1 (e ▸ h)
  · omega
theorem FreshN.fresh {f1 : List Nat} {g : Nat} {w : World} {A : Option Addr} {ks : List Tm} (h : FreshN f1 g w A ks) {B : Nat} (hf : ∀ b, b ∈ f1 → B ≤ b) (hg : B ≤ g) : Fresh B w A ks := by
  obtain ⟨fp, h1, h2, h3⟩ := h
  exact ⟨fp, h1, h2, fun b hb => (h3 b hb).elim (hf b) (fun h => Nat.le_trans hg h)⟩
theorem run_append_node {B : Nat} {w : World} {us : List Tm} {x1 : List Value} {f1 : List Nat} {g : Nat} (hg : w.heap[g]? = some (.cells #[] 48 (0, 0))) (hgB : B ≤ g) (hgw : g < w.heap.size) (hB : B ≤ w.heap.size)
    (ht : OwX w us x1 f1) (hn : f1.Nodup) (hf : ∀ b, b ∈ f1 → B ≤ b ∧ b ≠ g) (hlen : us.length ≤ 1099511627776) (ad : Addr) (c : Nat) (hc : ∀ j u, x1[j]? = some u → w.cell? (ad.add j) = some u) (h1 : ∀ u, u ∈ x1 → u.oneCell' = true) (ty : TypeId) :
    ∃ A c' w', (Builtin.append_ #[46, 46] ty #[.slice (some ⟨g, 0, none⟩) 0 0, .slice (some ad) us.length c]).run Tryd.prog w = .ok (.slice A us.length c') w' ∧ FreshN f1 g w' A us ∧ w.grownBy w' (some g) := by
  obtain ⟨i, hi, hz, hz1, hz2⟩ := info_parts tm_info
  have k1 : w.ownsRow B 48 3 (.slice (some ⟨g, 0, none⟩) 0 0) 0 [] := ⟨by simp, .inr ⟨g, 0, #[], rfl, hgB, hg, Nat.le_refl _, by simp [maxLen], by simp, by simp⟩⟩
  obtain ⟨v', w', hrun, hown, hgr, _, hat⟩ := run_append_own_at (P := Tryd.prog) w B 46 ty 48 i _ 3 40 Tryd.underlying46 hi hz hz1 hz2 rfl (by omega) _ 0 [] k1 ad us.length c x1 ht.length hc h1
    (by simp only [maxLen]; omega) (by omega) (by omega)
  have hfl := ht.lt
  have e1 : ∀ b, b ∈ f1 → w'.heap[b]? = w.heap[b]? := fun b hbf => hgr.block b (hfl b hbf) (fun e => by injection e with e; exact (hf b hbf).2 e)
  have hx' := ht.frame e1
  rw [Nat.zero_add, List.nil_append] at hown
  obtain ⟨h2, h3⟩ := hown
  rcases h3 with ⟨rfl, h0⟩ | ⟨g', cap, cur, rfl, hb', hg', _, _, _, htk⟩
  · have : us = [] := List.eq_nil_of_length_eq_zero h0
    subst this
    exact ⟨none, 0, w', hrun, ⟨[], .inl ⟨rfl, rfl⟩, List.nodup_nil, by simp⟩, hgr⟩
  · refine ⟨_, _, w', hrun, ?_, hgr⟩
    by_cases hts : us = []
    · subst hts; exact ⟨[], .inl ⟨rfl, rfl⟩, List.nodup_nil, by simp⟩
    · refine ⟨g' :: f1, .inr ⟨g', cur, _, f1, hts, rfl, hg', rfl, by rw [htk]; exact hx'⟩, List.nodup_cons.2 ⟨fun hm => ?_, hn⟩, fun b hb => ?_⟩
      · rcases hat with e | e
        · injection e with e; exact (hf g' hm).2 e
        · injection e with e; have e : g' = w.heap.size := e; have := hfl g' hm; omega
      · rcases List.mem_cons.1 hb with rfl | hb
        · right
          rcases hat with e | e
          · injection e with e; exact Nat.le_of_eq e.symm
          · injection e with e; have e : b = w.heap.size := e; omega
        · exact .inl hb
theorem wpList_append_node {B : Nat} {w : World} {us : List Tm} {x1 : List Value} {f1 : List Nat} {g : Nat} (hg : w.heap[g]? = some (.cells #[] 48 (0, 0))) (hgB : B ≤ g) (hgw : g < w.heap.size) (hB : B ≤ w.heap.size)
    (ht : OwX w us x1 f1) (hn : f1.Nodup) (hf : ∀ b, b ∈ f1 → B ≤ b ∧ b ≠ g) (hlen : us.length ≤ 1099511627776) (ad : Addr) (c : Nat) (hc : ∀ j u, x1[j]? = some u → w.cell? (ad.add j) = some u) (h1 : ∀ u, u ∈ x1 → u.oneCell' = true)
    {ops : Array Oper} {rest : List Oper} {o : Oper} {a : Act} {Q : Exit → Act → World → Prop} (hgd : o.guard = none) (s x : Operand)
    (ho : o.op = .call { callee := .builtin .append, args := #[s, x], argTypes := #[46, 46] }) (hse : a.eval s = .slice (some ⟨g, 0, none⟩) 0 0) (hx : a.eval x = .slice (some ad) us.length c)
    (h : ∀ A' c' w', FreshN f1 g w' A' us → w.grownBy w' (some g) → wpList Tryd.prog ops Q rest (a.put o.dst (.slice A' us.length c')) w') :
    wpList Tryd.prog ops Q (o :: rest) a w := by
  refine wpList_plain hgd fun K hK => ?_
  obtain ⟨A', c', w', hrun, h2, h3⟩ := run_append_node hg hgB hgw hB ht hn hf hlen ad c hc h1 o.type
  unfold Oper.wp execOp
  simp only [ho, resolve, invoke, builtin, Sem.run_bind, Sem.run_pure, Result.andThen_ok, List.map_toArray, List.map_cons, List.map_nil, hse, hx, hrun]
  exact hK _ _ (h A' c' w' h2 h3)
theorem OwX.oneCell {w : World} {ts : List Tm} : ∀ {xs : List Value} {fp : List Nat}, OwX w ts xs fp → ∀ u, u ∈ xs → u.oneCell' = true := by
  induction ts with
  | nil => intro xs fp h u hu; rw [(OwX.nil_iff.1 h).1] at hu; cases hu
  | cons t ts ih =>
    intro xs fp h u hu
    obtain ⟨x1, x2, f1, f2, rfl, rfl, h1, h2⟩ := OwX.cons_iff.1 h
    rcases List.mem_append.1 hu with hu | hu
    · exact h1.oneCell u hu
    · exact ih h2 u hu
theorem add_zero_ (g j : Nat) : Addr.add ⟨g, 0, none⟩ j = ⟨g, j, none⟩ := by unfold Addr.add; split <;> simp_all
/-- what a call gives back: a term in blocks of its own, all from B on -/
def GotB (B : Nat) (w : World) (k n : Int) (ks : List Tm) (e : Ending) (w' : World) : Prop :=
  ∃ A c, e = .returned (.agg #[.int .i64 k, .int .i64 n, .slice A ks.length c]) ∧ Fresh B w' A ks ∧ Below w.heap.size w w'

set_option maxHeartbeats 2000000 in
set_option maxRecDepth 100000 in
theorem l1Node_any {B : Nat} {w : World} {us : List Tm} {x1 : List Value} {f1 : List Nat} (k : Int) (hB : B ≤ w.heap.size)
    (ht : OwX w us x1 f1) (hn : f1.Nodup) (hf : ∀ b, b ∈ f1 → B ≤ b) (hlen : us.length ≤ 1099511627776) (g c : Nat) (hb : Blk w g x1.toArray) :
    Calls Tryd.prog 44 #[.int .i64 k, .slice (some ⟨g, 0, none⟩) us.length c] w (GotB B w k 0 us) := by
  have hlt := ht.lt
  have hone := ht.oneCell
  have hgl := hb.lt
  go_enter Tryd.func44, Tryd.ntmps44
  have H1 := hide (show ((w.alloc (.cells #[.int .i64 0, .int .i64 0, .slice none 0 0] 48)).alloc (.cells #[] 48)).heap[w.heap.size + 1]? = some (.cells #[] 48 (0, 0)) by simpa using heap_alloc_new (w.alloc (.cells #[.int .i64 0, .int .i64 0, .slice none 0 0] 48)) (.cells #[] 48))
  have H2 := hide (show OwX ((w.alloc (.cells #[.int .i64 0, .int .i64 0, .slice none 0 0] 48)).alloc (.cells #[] 48)) us x1 f1 from ht.frame fun b hb => (Below.heap_alloc _ _ b (by have := hlt b hb; simp; omega)).trans (Below.heap_alloc _ _ b (hlt b hb)))
  have H3 := hide (show ∀ j u, x1[j]? = some u → ((w.alloc (.cells #[.int .i64 0, .int .i64 0, .slice none 0 0] 48)).alloc (.cells #[] 48)).cell? (Addr.add ⟨g, 0, none⟩ j) = some u from fun j u hj => by
    have := ((hb.alloc (.cells #[.int .i64 0, .int .i64 0, .slice none 0 0] 48)).alloc (.cells #[] 48)).at_ (i := j) (v := u) (by simpa using hj)
    rw [add_zero_]; exact this)
  go_wp2_with (at_builtin; (refine wpList_append_node (B := B) (us := us) (x1 := x1) (f1 := f1) (g := w.heap.size + 1) H1.out (by omega) (by simp) (by simp; omega) H2.out hn (fun b hb => ⟨hf b hb, by have := hlt b hb; omega⟩) hlen ⟨g, 0, none⟩ c H3.out hone rfl _ _ rfl rfl rfl ?_); intro A' c' w2 hfr hg2; have hT : Blk w2 w.heap.size #[.int .i64 0, .int .i64 0, .slice none 0 0] := ((Blk.new_ w 48 #[.int .i64 0, .int .i64 0, .slice none 0 0] rfl).alloc _).grown hg2 (by simp); have d0 := hT.at_ (i := 0) rfl; have d1 := hT.at_ (i := 1) rfl; have d2 := hT.at_ (i := 2) rfl; have e0 := hT.frozen 0; have e1 := hT.frozen 1; have e2 := hT.frozen 2; have hb2 : Below w.heap.size w w2 := (((Below.refl _ _).alloc (Nat.le_refl _) _).alloc (by simp) _).trans ⟨hg2.os, hg2.tape, hg2.output, hg2.size, fun b hb => hg2.block b (by simp; omega) (fun e => by injection e with e; omega)⟩; have hBs : B ≤ w.heap.size := hB)
  refine bodyPost_ret (v := .agg #[.int .i64 k, .int .i64 0, .slice A' us.length c']) (by simp [results, Tryd.results44, go_sem, d0, d1, d2]) rfl ⟨A', c', rfl, ?_, ((hb2.setCell (by simp) _).setCell (by simp) _).setCell (by simp) _⟩
  have hn0 : w.heap.size ∉ f1 := fun h => absurd (hlt _ h) (Nat.lt_irrefl _)
  exact (((hfr.setCell ⟨hn0, by simp⟩ _).setCell ⟨hn0, by simp⟩ _).setCell ⟨hn0, by simp⟩ _).fresh hf (by omega)
end Go.Proofs.YtjpgdfndlmipcaaDoor

namespace Go.Proofs.YtjpgdfndlmipcaaDoor
open Go.RowKit
set_option linter.unusedSimpArgs false
set_option linter.unusedVariables false

theorem RdX.oneCell {p : Nat → Prop} {w : World} : ∀ {ts : List Tm} {xs : List Value}, RdX p w ts xs → ∀ u, u ∈ xs → u.oneCell' = true
  | [], xs, h, u, hu => by have h : xs = [] := h; subst h; cases hu
  | .mk k n ks :: ts, xs, h, u, hu => by
    obtain ⟨A, c, ys, rfl, hl, hr, hx⟩ := h
    simp only [List.mem_cons] at hu
    rcases hu with rfl | rfl | rfl | hu
    · rfl
    · rfl
    · rfl
    · exact hx.oneCell u hu
theorem run_append_nodeR {w : World} {us : List Tm} {x1 : List Value} {g : Nat} {lo : Nat → Prop} (hg : w.heap[g]? = some (.cells #[] 48 (0, 0))) (hlo : ∀ b, lo b → b < g) (hgw : g < w.heap.size)
    (ht : RdX lo w us x1) (hlen : us.length ≤ 1099511627776) (ad : Addr) (c : Nat) (hc : ∀ j u, x1[j]? = some u → w.cell? (ad.add j) = some u) (ty : TypeId) :
    ∃ A c' w', (Builtin.append_ #[46, 46] ty #[.slice (some ⟨g, 0, none⟩) 0 0, .slice (some ad) us.length c]).run Tryd.prog w = .ok (.slice A us.length c') w' ∧ RdP (fun b => lo b ∨ g ≤ b) w' A 0 us ∧ w.grownBy w' (some g) := by
  obtain ⟨i, hi, hz, hz1, hz2⟩ := info_parts tm_info
  have k1 : w.ownsRow g 48 3 (.slice (some ⟨g, 0, none⟩) 0 0) 0 [] := ⟨by simp, .inr ⟨g, 0, #[], rfl, Nat.le_refl _, hg, Nat.le_refl _, by simp [maxLen], by simp, by simp⟩⟩
  obtain ⟨v', w', hrun, hown, hgr, _, hat⟩ := run_append_own_at (P := Tryd.prog) w g 46 ty 48 i _ 3 40 Tryd.underlying46 hi hz hz1 hz2 rfl (by omega) _ 0 [] k1 ad us.length c x1 ht.length hc ht.oneCell
    (by simp only [maxLen]; omega) (by omega) (by omega)
  rw [Nat.zero_add, List.nil_append] at hown
  obtain ⟨h2, h3⟩ := hown
  rcases h3 with ⟨rfl, h0⟩ | ⟨g', cap, cur, rfl, hb', hg', _, _, _, htk⟩
  · have : us = [] := List.eq_nil_of_length_eq_zero h0
    subst this
    exact ⟨none, 0, w', hrun, RdP.nil, hgr⟩
  · refine ⟨_, _, w', hrun, RdX.rdp (.inr hb') (ht.keep (fun b hb => .inl hb) fun b hb hl => hgr.block b hl (fun e => by injection e with e; have e : b = g := e; have := hlo b hb; omega)) fun j u hu => ?_, hgr⟩
    rw [show 0 + 0 * 3 + j = j by omega, cell_of_row w' g' j cur 48 (0, 0) hg']
    rw [← htk, List.getElem?_take] at hu
    split at hu
    · simpa using hu
    · cases hu
theorem wpList_append_nodeR {w : World} {us : List Tm} {x1 : List Value} {g : Nat} {lo : Nat → Prop} (hg : w.heap[g]? = some (.cells #[] 48 (0, 0))) (hlo : ∀ b, lo b → b < g) (hgw : g < w.heap.size)
    (ht : RdX lo w us x1) (hlen : us.length ≤ 1099511627776) (ad : Addr) (c : Nat) (hc : ∀ j u, x1[j]? = some u → w.cell? (ad.add j) = some u)
    {ops : Array Oper} {rest : List Oper} {o : Oper} {a : Act} {Q : Exit → Act → World → Prop} (hgd : o.guard = none) (s x : Operand)
    (ho : o.op = .call { callee := .builtin .append, args := #[s, x], argTypes := #[46, 46] }) (hse : a.eval s = .slice (some ⟨g, 0, none⟩) 0 0) (hx : a.eval x = .slice (some ad) us.length c)
    (h : ∀ A' c' w', RdP (fun b => lo b ∨ g ≤ b) w' A' 0 us → w.grownBy w' (some g) → wpList Tryd.prog ops Q rest (a.put o.dst (.slice A' us.length c')) w') :
    wpList Tryd.prog ops Q (o :: rest) a w := by
  refine wpList_plain hgd fun K hK => ?_
  obtain ⟨A', c', w', hrun, h2, h3⟩ := run_append_nodeR hg hlo hgw ht hlen ad c hc o.type
  unfold Oper.wp execOp
  simp only [ho, resolve, invoke, builtin, Sem.run_bind, Sem.run_pure, Result.andThen_ok, List.map_toArray, List.map_cons, List.map_nil, hse, hx, hrun]
  exact hK _ _ (h A' c' w' h2 h3)
set_option maxHeartbeats 2000000 in
set_option maxRecDepth 100000 in
theorem l1NodeR_any {p : Nat → Prop} {w : World} {us : List Tm} {x1 : List Value} (k : Int) (ht : RdX p w us x1) (hpw : ∀ b, p b → b < w.heap.size) (hlen : us.length ≤ 1099511627776) (g c : Nat) (hb : Blk w g x1.toArray) :
    Calls Tryd.prog 44 #[.int .i64 k, .slice (some ⟨g, 0, none⟩) us.length c] w (GotR p w k 0 us) := by
  have hgl := hb.lt
  go_enter Tryd.func44, Tryd.ntmps44
  have H1 := hide (show ((w.alloc (.cells #[.int .i64 0, .int .i64 0, .slice none 0 0] 48)).alloc (.cells #[] 48)).heap[w.heap.size + 1]? = some (.cells #[] 48 (0, 0)) by simpa using heap_alloc_new (w.alloc (.cells #[.int .i64 0, .int .i64 0, .slice none 0 0] 48)) (.cells #[] 48))
  have H2 := hide (show RdX p ((w.alloc (.cells #[.int .i64 0, .int .i64 0, .slice none 0 0] 48)).alloc (.cells #[] 48)) us x1 from ht.keep (fun _ h => h) fun b hb _ => (Below.heap_alloc _ _ b (by have := hpw b hb; simp; omega)).trans (Below.heap_alloc _ _ b (hpw b hb)))
  have H3 := hide (show ∀ j u, x1[j]? = some u → ((w.alloc (.cells #[.int .i64 0, .int .i64 0, .slice none 0 0] 48)).alloc (.cells #[] 48)).cell? (Addr.add ⟨g, 0, none⟩ j) = some u from fun j u hj => by
    have := ((hb.alloc (.cells #[.int .i64 0, .int .i64 0, .slice none 0 0] 48)).alloc (.cells #[] 48)).at_ (i := j) (v := u) (by simpa using hj)
    rw [add_zero_]; exact this)
  go_wp2_with (at_builtin; (refine wpList_append_nodeR (us := us) (x1 := x1) (g := w.heap.size + 1) (lo := p) H1.out (fun b hb => by have := hpw b hb; omega) (by simp) H2.out hlen ⟨g, 0, none⟩ c H3.out rfl _ _ rfl rfl rfl ?_); intro A' c' w2 hfr hg2; have hT : Blk w2 w.heap.size #[.int .i64 0, .int .i64 0, .slice none 0 0] := ((Blk.new_ w 48 #[.int .i64 0, .int .i64 0, .slice none 0 0] rfl).alloc _).grown hg2 (by simp); have d0 := hT.at_ (i := 0) rfl; have d1 := hT.at_ (i := 1) rfl; have d2 := hT.at_ (i := 2) rfl; have e0 := hT.frozen 0; have e1 := hT.frozen 1; have e2 := hT.frozen 2; have hb2 : Below w.heap.size w w2 := (((Below.refl _ _).alloc (Nat.le_refl _) _).alloc (by simp) _).trans ⟨hg2.os, hg2.tape, hg2.output, hg2.size, fun b hb => hg2.block b (by simp; omega) (fun e => by injection e with e; omega)⟩)
  have hzz : ¬ (p w.heap.size ∨ w.heap.size + 1 ≤ w.heap.size) := fun h => h.elim (fun h => by have := hpw _ h; omega) (fun h => by omega)
  refine bodyPost_ret (v := .agg #[.int .i64 k, .int .i64 0, .slice A' us.length c']) (by simp [results, Tryd.results44, go_sem, d0, d1, d2]) rfl ⟨A', c', rfl, by omega, ?_, ((hb2.setCell (by simp) _).setCell (by simp) _).setCell (by simp) _⟩
  exact (((hfr.setCell hzz _).setCell hzz _).setCell hzz _).mono (fun b hb => hb.imp id (fun h => by omega))
end Go.Proofs.YtjpgdfndlmipcaaDoor
