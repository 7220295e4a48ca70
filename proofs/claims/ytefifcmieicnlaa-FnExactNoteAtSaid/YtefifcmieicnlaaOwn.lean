/-
  What it means that a term lies in memory of its own (a block for each list of operands, none shared), and the law of append for such lists. No condition.
-/
import Derived.Test.YtefifcmieicnlaaMem
import Derived.Maps.AppendAt
import Derived.Deep.AppendLies
import Derived.RegionTactic
import Derived.OwnWalk
import Derived.Laws.MakeOwn
namespace Go.Proofs.Ytefifcmieicnlaa
open Go.RowKit
set_option linter.unusedSimpArgs false
set_option linter.unusedVariables false

mutual
/-- three cells that hold a term; the blocks of its operands, in order -/
def OwT (w : World) : Tm → List Value → List Nat → Prop
  | .mk k n ks, xs, fp => ∃ A c, xs = [.int .i64 k, .int .i64 n, .slice A ks.length c] ∧ ks.length ≤ 9223372036854775807 ∧
      ((ks = [] ∧ fp = []) ∨ ∃ g cur e f, ks ≠ [] ∧ A = some ⟨g, 0, none⟩ ∧ w.heap[g]? = some (.cells cur e (0, 0)) ∧ fp = g :: f ∧ OwX w ks (cur.toList.take (ks.length * 3)) f)
/-- cells that hold terms, one behind the other -/
def OwX (w : World) : List Tm → List Value → List Nat → Prop
  | [], xs, fp => xs = [] ∧ fp = []
  | t :: ts, xs, fp => ∃ x1 x2 f1 f2, xs = x1 ++ x2 ∧ fp = f1 ++ f2 ∧ OwT w t x1 f1 ∧ OwX w ts x2 f2
end

/-- a slice's address, whose block holds the terms -/
def Ow (w : World) (A : Option Addr) (ks : List Tm) (fp : List Nat) : Prop :=
  (ks = [] ∧ fp = []) ∨ ∃ g cur e f, ks ≠ [] ∧ A = some ⟨g, 0, none⟩ ∧ w.heap[g]? = some (.cells cur e (0, 0)) ∧ fp = g :: f ∧ OwX w ks (cur.toList.take (ks.length * 3)) f

theorem OwT.iff {w : World} {k n : Int} {ks : List Tm} {xs : List Value} {fp : List Nat} : OwT w (.mk k n ks) xs fp ↔
    ∃ A c, xs = [.int .i64 k, .int .i64 n, .slice A ks.length c] ∧ ks.length ≤ 9223372036854775807 ∧ Ow w A ks fp := by
  simp only [OwT, Ow]
theorem OwX.nil_iff {w : World} {xs : List Value} {fp : List Nat} : OwX w [] xs fp ↔ xs = [] ∧ fp = [] := by simp only [OwX]
theorem OwX.cons_iff {w : World} {t : Tm} {ts : List Tm} {xs : List Value} {fp : List Nat} : OwX w (t :: ts) xs fp ↔
    ∃ x1 x2 f1 f2, xs = x1 ++ x2 ∧ fp = f1 ++ f2 ∧ OwT w t x1 f1 ∧ OwX w ts x2 f2 := by simp only [OwX]
theorem OwX.nil {w : World} : OwX w [] [] [] := OwX.nil_iff.2 ⟨rfl, rfl⟩
theorem OwT.length {w : World} {t : Tm} {xs : List Value} {fp : List Nat} (h : OwT w t xs fp) : xs.length = 3 := by
  cases t
  obtain ⟨A, c, rfl, _⟩ := OwT.iff.1 h
  rfl
theorem OwX.length {w : World} {ts : List Tm} : ∀ {xs : List Value} {fp : List Nat}, OwX w ts xs fp → xs.length = ts.length * 3 := by
  induction ts with
  | nil => intro xs fp h; rw [(OwX.nil_iff.1 h).1]; rfl
  | cons t ts ih =>
    intro xs fp h
    obtain ⟨x1, x2, f1, f2, rfl, rfl, h1, h2⟩ := OwX.cons_iff.1 h
    rw [List.length_append, h1.length, ih h2, List.length_cons]; omega
theorem OwX.append {w : World} {ts us : List Tm} : ∀ {xs ys : List Value} {f g : List Nat}, OwX w ts xs f → OwX w us ys g → OwX w (ts ++ us) (xs ++ ys) (f ++ g) := by
  induction ts with
  | nil => intro xs ys f g h k; obtain ⟨rfl, rfl⟩ := OwX.nil_iff.1 h; exact k
  | cons t ts ih =>
    intro xs ys f g h k
    obtain ⟨x1, x2, f1, f2, rfl, rfl, h1, h2⟩ := OwX.cons_iff.1 h
    rw [List.cons_append]
    exact OwX.cons_iff.2 ⟨x1, x2 ++ ys, f1, f2 ++ g, by rw [List.append_assoc], by rw [List.append_assoc], h1, ih h2 k⟩
theorem OwX.one {w : World} {t : Tm} {xs : List Value} {f : List Nat} (h : OwT w t xs f) : OwX w [t] xs f :=
  OwX.cons_iff.2 ⟨xs, [], f, [], by simp, by simp, h, OwX.nil⟩

theorem OwT.oneCell {w : World} {t : Tm} {xs : List Value} {fp : List Nat} (h : OwT w t xs fp) : ∀ u, u ∈ xs → u.oneCell' = true := by
  cases t
  obtain ⟨A, c, rfl, _⟩ := OwT.iff.1 h
  intro u hu
  simp only [List.mem_cons, List.not_mem_nil, or_false] at hu
  rcases hu with rfl | rfl | rfl <;> rfl

theorem own_frame {w w' : World} : (∀ t xs fp, OwT w t xs fp → (∀ b, b ∈ fp → w'.heap[b]? = w.heap[b]?) → OwT w' t xs fp) ∧ (∀ ts xs fp, OwX w ts xs fp → (∀ b, b ∈ fp → w'.heap[b]? = w.heap[b]?) → OwX w' ts xs fp) := by
  refine Tm.ind2 (fun k n ks ih xs fp h hk => ?_) (fun xs fp h _ => OwX.nil_iff.2 (OwX.nil_iff.1 h)) (fun t ts h1 h2 xs fp h hk => ?_)
  · obtain ⟨A, c, rfl, hl, h⟩ := OwT.iff.1 h
    refine OwT.iff.2 ⟨A, c, rfl, hl, ?_⟩
    rcases h with ⟨rfl, rfl⟩ | ⟨g, cur, e, f, hne, rfl, hg, rfl, hx⟩
    · exact .inl ⟨rfl, rfl⟩
    · exact .inr ⟨g, cur, e, f, hne, rfl, (hk g (by simp)).trans hg, rfl, ih _ _ hx fun b hb => hk b (by simp [hb])⟩
  · obtain ⟨x1, x2, f1, f2, rfl, rfl, ht, hx⟩ := OwX.cons_iff.1 h
    exact OwX.cons_iff.2 ⟨x1, x2, f1, f2, rfl, rfl, h1 _ _ ht fun b hb => hk b (by simp [hb]), h2 _ _ hx fun b hb => hk b (by simp [hb])⟩
theorem OwX.frame {w w' : World} {ts : List Tm} {xs : List Value} {fp : List Nat} (h : OwX w ts xs fp) (hk : ∀ b, b ∈ fp → w'.heap[b]? = w.heap[b]?) : OwX w' ts xs fp := own_frame.2 _ _ _ h hk
theorem OwT.frame {w w' : World} {t : Tm} {xs : List Value} {fp : List Nat} (h : OwT w t xs fp) (hk : ∀ b, b ∈ fp → w'.heap[b]? = w.heap[b]?) : OwT w' t xs fp := own_frame.1 _ _ _ h hk
theorem Ow.frame {w w' : World} {A : Option Addr} {ks : List Tm} {fp : List Nat} (h : Ow w A ks fp) (hk : ∀ b, b ∈ fp → w'.heap[b]? = w.heap[b]?) : Ow w' A ks fp := by
  rcases h with ⟨rfl, rfl⟩ | ⟨g, cur, e, f, hne, rfl, hg, rfl, hx⟩
  · exact .inl ⟨rfl, rfl⟩
  · exact .inr ⟨g, cur, e, f, hne, rfl, (hk g (by simp)).trans hg, rfl, hx.frame fun b hb => hk b (by simp [hb])⟩

theorem own_lt {w : World} : (∀ t xs fp, OwT w t xs fp → ∀ b, b ∈ fp → b < w.heap.size) ∧ (∀ ts xs fp, OwX w ts xs fp → ∀ b, b ∈ fp → b < w.heap.size) := by
  refine Tm.ind2 (fun k n ks ih xs fp h b hb => ?_) (fun xs fp h b hb => ?_) (fun t ts h1 h2 xs fp h b hb => ?_)
  · obtain ⟨A, c, rfl, hl, h⟩ := OwT.iff.1 h
    rcases h with ⟨rfl, rfl⟩ | ⟨g, cur, e, f, hne, rfl, hg, rfl, hx⟩
    · simp at hb
    · rcases List.mem_cons.1 hb with rfl | hb
      · exact (Array.getElem?_eq_some_iff.1 hg).1
      · exact ih _ _ hx b hb
  · rw [(OwX.nil_iff.1 h).2] at hb; simp at hb
  · obtain ⟨x1, x2, f1, f2, rfl, rfl, ht, hx⟩ := OwX.cons_iff.1 h
    rcases List.mem_append.1 hb with hb | hb
    · exact h1 _ _ ht b hb
    · exact h2 _ _ hx b hb
theorem OwX.lt {w : World} {ts : List Tm} {xs : List Value} {fp : List Nat} (h : OwX w ts xs fp) : ∀ b, b ∈ fp → b < w.heap.size := own_lt.2 _ _ _ h
theorem OwT.lt {w : World} {t : Tm} {xs : List Value} {fp : List Nat} (h : OwT w t xs fp) : ∀ b, b ∈ fp → b < w.heap.size := own_lt.1 _ _ _ h
theorem Ow.lt {w : World} {A : Option Addr} {ks : List Tm} {fp : List Nat} (h : Ow w A ks fp) : ∀ b, b ∈ fp → b < w.heap.size := by
  intro b hb
  rcases h with ⟨rfl, rfl⟩ | ⟨g, cur, e, f, hne, rfl, hg, rfl, hx⟩
  · simp at hb
  · rcases List.mem_cons.1 hb with rfl | hb
    · exact (Array.getElem?_eq_some_iff.1 hg).1
    · exact hx.lt b hb

theorem own_rd {w : World} : (∀ t xs fp, OwT w t xs fp → ∀ g off i, (∀ j u, xs[j]? = some u → w.cell? ⟨g, off + i * 3 + j, none⟩ = some u) → RdC w g off i t) ∧
    (∀ ts xs fp, OwX w ts xs fp → ∀ g off i, (∀ j u, xs[j]? = some u → w.cell? ⟨g, off + i * 3 + j, none⟩ = some u) → Rd w (some ⟨g, off, none⟩) i ts) := by
  refine Tm.ind2 (fun k n ks ih xs fp h g off i hc => ?_) (fun xs fp h g off i hc => Rd.nil) (fun t ts h1 h2 xs fp h g off i hc => ?_)
  · obtain ⟨A, c, rfl, hl, h⟩ := OwT.iff.1 h
    refine RdC.iff.2 ⟨hc 0 _ rfl, hc 1 _ rfl, A, c, hc 2 _ rfl, hl, ?_⟩
    rcases h with ⟨rfl, rfl⟩ | ⟨g', cur, e, f, hne, rfl, hg, rfl, hx⟩
    · exact Rd.nil
    · refine ih _ _ hx g' 0 0 fun j u hu => ?_
      have e0 : 0 + 0 * 3 + j = j := by omega
      rw [e0, cell_of_row w g' j cur e (0, 0) hg]
      rw [List.getElem?_take] at hu
      split at hu
      · simpa using hu
      · cases hu
  · obtain ⟨x1, x2, f1, f2, rfl, rfl, ht, hx⟩ := OwX.cons_iff.1 h
    have hl := ht.length
    refine Rd.cons_iff.2 ⟨⟨g, off, rfl, h1 _ _ ht g off i fun j u hu => hc j u ?_⟩, h2 _ _ hx g off (i + 1) fun j u hu => ?_⟩
    · rw [List.getElem?_append_left (by have := (List.getElem?_eq_some_iff.1 hu).1; omega)]; exact hu
    · have := hc (3 + j) u (by rw [List.getElem?_append_right (by omega), hl]; simpa using hu)
      rw [show off + (i + 1) * 3 + j = off + i * 3 + (3 + j) from by omega]; exact this
theorem Ow.rd {w : World} {A : Option Addr} {ks : List Tm} {fp : List Nat} (h : Ow w A ks fp) : Rd w A 0 ks := by
  rcases h with ⟨rfl, rfl⟩ | ⟨g, cur, e, f, hne, rfl, hg, rfl, hx⟩
  · exact Rd.nil
  · refine own_rd.2 _ _ _ hx g 0 0 fun j u hu => ?_
    have e0 : 0 + 0 * 3 + j = j := by omega
    rw [e0, cell_of_row w g j cur e (0, 0) hg]
    rw [List.getElem?_take] at hu
    split at hu
    · simpa using hu
    · cases hu

/-- the terms lie in blocks of their own, all from B on -/
def Fresh (B : Nat) (w : World) (A : Option Addr) (ks : List Tm) : Prop := ∃ fp, Ow w A ks fp ∧ fp.Nodup ∧ ∀ b, b ∈ fp → B ≤ b
theorem Fresh.rd {B : Nat} {w : World} {A : Option Addr} {ks : List Tm} (h : Fresh B w A ks) : Rd w A 0 ks := by
  obtain ⟨fp, h, _⟩ := h; exact h.rd
theorem Fresh.nil {B : Nat} {w : World} {A : Option Addr} : Fresh B w A [] := ⟨[], .inl ⟨rfl, rfl⟩, List.nodup_nil, by simp⟩
theorem Fresh.mono {B B' : Nat} {w : World} {A : Option Addr} {ks : List Tm} (h : Fresh B w A ks) (hB : B' ≤ B) : Fresh B' w A ks := by
  obtain ⟨fp, h, hn, hb⟩ := h; exact ⟨fp, h, hn, fun b hx => Nat.le_trans hB (hb b hx)⟩
theorem Fresh.keep {B : Nat} {w w' : World} {A : Option Addr} {ks : List Tm} (h : Fresh B w A ks) (hk : ∀ b, B ≤ b → b < w.heap.size → w'.heap[b]? = w.heap[b]?) : Fresh B w' A ks := by
  obtain ⟨fp, h, hn, hb⟩ := h; exact ⟨fp, h.frame fun b hx => hk b (hb b hx) (h.lt b hx), hn, hb⟩
theorem Fresh.below {B : Nat} {w w' : World} {A : Option Addr} {ks : List Tm} (h : Fresh B w A ks) (hk : Below w.heap.size w w') : Fresh B w' A ks := h.keep fun b _ hb => hk.block b hb
theorem Fresh.alloc {B : Nat} {w : World} {A : Option Addr} {ks : List Tm} (h : Fresh B w A ks) (o : Obj) : Fresh B (w.alloc o) A ks := h.keep fun b _ hb => Below.heap_alloc w o b hb
theorem Fresh.drew {B : Nat} {w : World} {A : Option Addr} {ks : List Tm} (h : Fresh B w A ks) : Fresh B w.drew A ks := h.keep fun _ _ _ => rfl
theorem Fresh.setCell {B : Nat} {w : World} {A : Option Addr} {ks : List Tm} (h : Fresh B w A ks) {a : Addr} (ha : a.block < B) (u : Value) : Fresh B (w.setCell a u) A ks :=
  h.keep fun b hb _ => Below.heap_setCell w a u b (by omega)

theorem run_make_rowN {P : Program} (t e : TypeId) (i : TypeInfo) (z : Value) (ht : P.underlying t = some (.slice e)) (hi : P.info? e = some i) (hz : i.zero = some z)
    (kl kc : IntKind) (n c : Nat) (hnc : n ≤ c) (hbytes : i.bytes * c ≤ 281474976710656) (h63 : c ≤ 9223372036854775807) (w : World) :
    (Instr.makeSlice t (.int kl (n : Int)) (.int kc (c : Int))).run P w = .ok (.slice (some ⟨w.heap.size, 0, none⟩) n c) (w.alloc (.cells (madeCells z.cells (c * i.size)) e)) := by
  have hb : (i.bytes : Int) * (c : Int) ≤ 281474976710656 := by
    have h : ((i.bytes * c : Nat) : Int) ≤ 281474976710656 := by omega
    rwa [Int.natCast_mul] at h
  have hr := run_make (P := P) w t e i z ht hi hz kl kc n c (by omega) (by omega) hb (by omega)
  simp only [Int.toNat_natCast] at hr
  exact hr

/-- a row that is being filled: of its n places the first hold the terms -/
def Fill (w : World) (g n : Nat) (ts : List Tm) : Prop :=
  ∃ cur f, w.heap[g]? = some (.cells cur 29 (0, 0)) ∧ cur.size = n * 3 ∧ OwX w ts (cur.toList.take (ts.length * 3)) f ∧ f.Nodup ∧ ∀ b, b ∈ f → g < b
theorem Fill.start {w : World} {n : Nat} {cur : Array Value} (h : cur.size = n * 3) : Fill (w.alloc (.cells cur 29)) w.heap.size n [] :=
  ⟨cur, [], heap_alloc_new w _, h, by simpa using OwX.nil, List.nodup_nil, by simp⟩
theorem Fill.below {w w' : World} {g n : Nat} {ts : List Tm} (h : Fill w g n ts) (hb : Below w.heap.size w w') : Fill w' g n ts := by
  obtain ⟨cur, f, h1, h2, h3, h4, h5⟩ := h
  exact ⟨cur, f, (hb.block g (Array.getElem?_eq_some_iff.1 h1).1).trans h1, h2, h3.frame fun b hbf => hb.block b (h3.lt b hbf), h4, h5⟩
theorem Fill.lt {w : World} {g n : Nat} {ts : List Tm} (h : Fill w g n ts) : g < w.heap.size := by
  obtain ⟨cur, f, h1, _⟩ := h
  exact (Array.getElem?_eq_some_iff.1 h1).1
theorem Fill.cell {w : World} {g n : Nat} {ts : List Tm} (h : Fill w g n ts) {j : Nat} (hj : j < n * 3) : ∃ u, w.cell? ⟨g, j, none⟩ = some u := by
  obtain ⟨cur, f, h1, h2, _⟩ := h
  exact ⟨cur[j]'(by omega), by rw [cell_of_row w g j cur _ (0, 0) h1]; exact Array.getElem?_eq_getElem (by omega)⟩
theorem Fill.frozen {w : World} {g n : Nat} {ts : List Tm} (h : Fill w g n ts) (j : Nat) : w.frozen? ⟨g, j, none⟩ = false := by
  obtain ⟨cur, f, h1, h2, _⟩ := h
  simp [World.frozen?, h1]
/-- one place more is filled -/
theorem Fill.set_ {w0 w : World} {g n : Nat} {ts : List Tm} (h : Fill w0 g n ts) (hb : Below w0.heap.size w0 w) {k m : Int} {ks : List Tm} {A : Option Addr} {c j : Nat} (hfr : Fresh w0.heap.size w A ks) (hl : ks.length ≤ 9223372036854775807) (hj : ts.length = j) (hn : j < n) :
    Fill (((w.setCell ⟨g, j * 3, none⟩ (.int .i64 k)).setCell ⟨g, j * 3 + 1, none⟩ (.int .i64 m)).setCell ⟨g, j * 3 + 2, none⟩ (.slice A ks.length c)) g n (ts ++ [.mk k m ks]) := by
  subst hj
  obtain ⟨cur, f, h1, h2, h3, h4, h5⟩ := h
  obtain ⟨fp, k1, k2, k3⟩ := hfr
  have hg0 := (Array.getElem?_eq_some_iff.1 h1).1
  have hg : w.heap[g]? = some (.cells cur 29 (0, 0)) := (hb.block g hg0).trans h1
  have far : ∀ b, b ≠ g → (((w.setCell ⟨g, ts.length * 3, none⟩ (.int .i64 k)).setCell ⟨g, ts.length * 3 + 1, none⟩ (.int .i64 m)).setCell ⟨g, ts.length * 3 + 2, none⟩ (.slice A ks.length c)).heap[b]? = w.heap[b]? := fun b hbg => by
    rw [Below.heap_setCell _ _ _ _ hbg, Below.heap_setCell _ _ _ _ hbg, Below.heap_setCell _ _ _ _ hbg]
  refine ⟨((cur.setIfInBounds (ts.length * 3) (.int .i64 k)).setIfInBounds (ts.length * 3 + 1) (.int .i64 m)).setIfInBounds (ts.length * 3 + 2) (.slice A ks.length c), f ++ fp, ?_, by simpa using h2, ?_, ?_, ?_⟩
  · simp [World.setCell, Array.getElem?_modify, hg]
  · have e : ((((cur.setIfInBounds (ts.length * 3) (.int .i64 k)).setIfInBounds (ts.length * 3 + 1) (.int .i64 m)).setIfInBounds (ts.length * 3 + 2) (.slice A ks.length c)).toList.take ((ts ++ [Tm.mk k m ks]).length * 3)) =
        cur.toList.take (ts.length * 3) ++ [.int .i64 k, .int .i64 m, .slice A ks.length c] := by
      have hlen : cur.toList.length = n * 3 := by simpa using h2
      simp only [Array.toList_setIfInBounds, List.length_append, List.length_singleton]
      rw [show (ts.length + 1) * 3 = ts.length * 3 + 2 + 1 from by omega]
      rw [List.take_succ_eq_append_getElem (by simp; omega), List.take_set_of_le (by omega), List.take_succ_eq_append_getElem (by simp; omega), List.take_set_of_le (by omega), List.take_succ_eq_append_getElem (by simp; omega), List.take_set_of_le (by omega)]
      simp
    rw [e]
    refine (h3.frame fun b hbf => ?_).append (OwX.one (OwT.iff.2 ⟨A, c, rfl, hl, k1.frame fun b hbf => far b ?_⟩))
    · rw [far b (by have := h5 b hbf; omega)]
      exact hb.block b (h3.lt b hbf)
    · have := k3 b hbf; omega
  · refine List.nodup_append.2 ⟨h4, k2, fun x hx y hy e => ?_⟩
    have := h3.lt x hx; have := k3 y hy; omega
  · intro b hbm
    rcases List.mem_append.1 hbm with hbm | hbm
    · exact h5 b hbm
    · have := k3 b hbm; omega
theorem Fill.fresh {w : World} {g n : Nat} {ts : List Tm} (h : Fill w g n ts) {B : Nat} (hB : B ≤ g) : Fresh B w (some ⟨g, 0, none⟩) ts := by
  obtain ⟨cur, f, h1, h2, h3, h4, h5⟩ := h
  by_cases hts : ts = []
  · subst hts; exact Fresh.nil
  · refine ⟨g :: f, .inr ⟨g, cur, _, f, hts, rfl, h1, rfl, h3⟩, List.nodup_cons.2 ⟨fun hm => by have := h5 g hm; omega, h4⟩, fun b hb => ?_⟩
    rcases List.mem_cons.1 hb with rfl | hb
    · exact hB
    · have := h5 b hb; omega

/-- a slice value that grows: the terms lie in blocks of their own, all from B on -/
def Part (B : Nat) (w : World) (v : Value) (ts : List Tm) : Prop :=
  ∃ xs f, w.ownsRow B 29 3 v ts.length xs ∧ OwX w ts xs f ∧ f.Nodup ∧ (∀ b, b ∈ f → B ≤ b) ∧ ∀ g, v.ownBlock = some g → g ∉ f
theorem Part.nil {B : Nat} {w : World} : Part B w (.slice none 0 0) [] :=
  ⟨[], [], World.ownsRow_nil _ _ _ _, OwX.nil, List.nodup_nil, by simp, by simp⟩
theorem Part.keep {B : Nat} {w w' : World} {v : Value} {ts : List Tm} (h : Part B w v ts) (hk : ∀ b, B ≤ b → b < w.heap.size → w'.heap[b]? = w.heap[b]?) : Part B w' v ts := by
  obtain ⟨xs, f, h1, h2, h3, h4, h5⟩ := h
  refine ⟨xs, f, ⟨h1.1, ?_⟩, h2.frame fun b hb => hk b (h4 b hb) (h2.lt b hb), h3, h4, h5⟩
  rcases h1.2 with hn | ⟨g, cap, cur, rfl, hb, hg, r⟩
  · exact .inl hn
  · exact .inr ⟨g, cap, cur, rfl, hb, (hk g hb (Array.getElem?_eq_some_iff.1 hg).1).trans hg, r⟩
theorem Part.below {B : Nat} {w w' : World} {v : Value} {ts : List Tm} (h : Part B w v ts) (hk : Below w.heap.size w w') : Part B w' v ts := h.keep fun b _ hb => hk.block b hb
theorem Part.alloc {B : Nat} {w : World} {v : Value} {ts : List Tm} (h : Part B w v ts) (o : Obj) : Part B (w.alloc o) v ts := h.keep fun b _ hb => Below.heap_alloc w o b hb
theorem Part.drew {B : Nat} {w : World} {v : Value} {ts : List Tm} (h : Part B w v ts) : Part B w.drew v ts := h.keep fun _ _ _ => rfl
theorem Part.setCell {B : Nat} {w : World} {v : Value} {ts : List Tm} (h : Part B w v ts) {a : Addr} (ha : a.block < B) (u : Value) : Part B (w.setCell a u) v ts :=
  h.keep fun b hb _ => Below.heap_setCell w a u b (by omega)
/-- at the end: the slice's shape, and that its terms lie in blocks of their own -/
theorem Part.fresh {B : Nat} {w : World} {v : Value} {ts : List Tm} (h : Part B w v ts) : ∃ A c, v = .slice A ts.length c ∧ Fresh B w A ts := by
  obtain ⟨xs, f, h1, h2, h3, h4, h5⟩ := h
  rcases h1.2 with ⟨rfl, h0⟩ | ⟨g, cap, cur, rfl, hb, hg, _, _, _, htk⟩
  · have : ts = [] := List.eq_nil_of_length_eq_zero h0
    subst this
    exact ⟨none, 0, rfl, Fresh.nil⟩
  · refine ⟨_, _, rfl, ?_⟩
    by_cases hts : ts = []
    · subst hts; exact Fresh.nil
    · refine ⟨g :: f, .inr ⟨g, cur, _, f, hts, rfl, hg, rfl, by rw [htk]; exact h2⟩, List.nodup_cons.2 ⟨h5 g rfl, h3⟩, ?_⟩
      intro b hb'
      rcases List.mem_cons.1 hb' with rfl | hb'
      · exact hb
      · exact h4 b hb'
theorem Part.shape {B : Nat} {w : World} {v : Value} {ts : List Tm} (h : Part B w v ts) : ∃ A c, v = .slice A ts.length c := by
  obtain ⟨A, c, hv, _⟩ := h.fresh; exact ⟨A, c, hv⟩
end Go.Proofs.Ytefifcmieicnlaa
