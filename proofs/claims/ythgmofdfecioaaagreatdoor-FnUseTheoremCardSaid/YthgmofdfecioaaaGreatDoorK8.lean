/-
  Contracts of the functions that the law reaches, and plain lemmas. No condition.
-/
import Derived.Test.YthgmofdfecioaaaGreatDoorK1
import Derived.Test.YthgmofdfecioaaaGreatDoorK4
import Derived.Deep.Upon
import Derived.Lib.SliceRun
import Derived.Laws.DeepStrings4
import Derived.Laws.Concat
namespace Go.Proofs.YthgmofdfecioaaaGreatDoor
set_option linter.unusedSimpArgs false
set_option linter.unusedVariables false
open Go.RowKit
/-- the cells of a row of terms that can be read in some blocks -/
def RdX (p : Nat → Prop) (w : World) : List Tm → List Value → Prop
  | [], xs => xs = []
  | .mk k n ks :: ts, xs => ∃ A c ys, xs = .int .i64 k :: .int .i64 n :: .slice A ks.length c :: ys ∧ ks.length ≤ 9223372036854775807 ∧ RdP p w A 0 ks ∧ RdX p w ts ys
theorem RdX.keep {p q : Nat → Prop} {w w' : World} (hq : ∀ b, p b → q b) (hk : ∀ b, p b → b < w.heap.size → w'.heap[b]? = w.heap[b]?) : ∀ {ts : List Tm} {xs : List Value}, RdX p w ts xs → RdX q w' ts xs
  | [], xs, h => h
  | .mk k n ks :: ts, xs, h => by
    obtain ⟨A, c, ys, e, hl, hr, hx⟩ := h
    exact ⟨A, c, ys, e, hl, (hr.blocks hk).mono hq, hx.keep hq hk⟩
theorem RdX.append {p : Nat → Prop} {w : World} {us : List Tm} {y : List Value} (hu : RdX p w us y) : ∀ {ts : List Tm} {xs : List Value}, RdX p w ts xs → RdX p w (ts ++ us) (xs ++ y)
  | [], xs, h => by have h : xs = [] := h; subst h; exact hu
  | .mk k n ks :: ts, xs, h => by
    obtain ⟨A, c, ys, rfl, hl, hr, hx⟩ := h
    exact ⟨A, c, ys ++ y, rfl, hl, hr, RdX.append hu hx⟩
theorem RdX.length {p : Nat → Prop} {w : World} : ∀ {ts : List Tm} {xs : List Value}, RdX p w ts xs → xs.length = ts.length * 3
  | [], xs, h => by have h : xs = [] := h; subst h; rfl
  | .mk k n ks :: ts, xs, h => by
    obtain ⟨A, c, ys, rfl, hl, hr, hx⟩ := h
    have := hx.length
    simp only [List.length_cons]
    omega
theorem RdX.rd {p : Nat → Prop} {w : World} {g off : Nat} : ∀ {ts : List Tm} {xs : List Value} {i : Nat}, RdX p w ts xs → (∀ j u, xs[j]? = some u → w.cell? ⟨g, off + i * 3 + j, none⟩ = some u) → Rd w (some ⟨g, off, none⟩) i ts
  | [], xs, i, _, _ => Rd.nil
  | .mk k n ks :: ts, xs, i, h, hc => by
    obtain ⟨A, c, ys, rfl, hl, hr, hx⟩ := h
    refine Rd.cons_iff.2 ⟨⟨g, off, rfl, RdC.iff.2 ⟨hc 0 _ rfl, hc 1 _ rfl, A, c, hc 2 _ rfl, hl, hr.rd⟩⟩, hx.rd fun j u hu => ?_⟩
    have := hc (j + 3) u (by simpa using hu)
    rw [← this]
    congr 2
    omega
theorem RdX.rdp {p : Nat → Prop} {w : World} {g off : Nat} (hg : p g) : ∀ {ts : List Tm} {xs : List Value} {i : Nat}, RdX p w ts xs → (∀ j u, xs[j]? = some u → w.cell? ⟨g, off + i * 3 + j, none⟩ = some u) → RdP p w (some ⟨g, off, none⟩) i ts
  | [], xs, i, _, _ => RdP.nil
  | .mk k n ks :: ts, xs, i, h, hc => by
    obtain ⟨A, c, ys, rfl, hl, hr, hx⟩ := h
    refine RdP.cons_iff.2 ⟨⟨g, off, rfl, RdPC.iff.2 ⟨hg, hc 0 _ rfl, hc 1 _ rfl, A, c, hc 2 _ rfl, hl, hr⟩⟩, hx.rdp hg fun j u hu => ?_⟩
    have := hc (j + 3) u (by simpa using hu)
    rw [← this]
    congr 2
    omega
/-- where the terms of a slice that grows may lie: where p says, or from B on, not in the row itself -/
def PB (lo : Nat → Prop) (B : Nat) (w : World) (v : Value) (b : Nat) : Prop := (lo b ∨ B ≤ b) ∧ b < w.heap.size ∧ v.ownBlock ≠ some b
/-- a slice of terms that grows: its own row lies from B on -/
def PartR (lo : Nat → Prop) (B : Nat) (w : World) (v : Value) (ts : List Tm) : Prop :=
  ∃ xs, w.ownsRow B 27 3 v ts.length xs ∧ RdX (PB lo B w v) w ts xs
section
variable {lo : Nat → Prop} {B : Nat} {w w' : World} {v : Value} {ts : List Tm}
theorem PartR.nil : PartR lo B w (.slice none 0 0) [] := ⟨[], World.ownsRow_nil _ _ _ _, rfl⟩
theorem PartR.below (h : PartR lo B w v ts) (hk : Below w.heap.size w w') : PartR lo B w' v ts := by
  obtain ⟨xs, h1, h2⟩ := h
  refine ⟨xs, ⟨h1.1, ?_⟩, h2.keep (fun b hb => ⟨hb.1, Nat.lt_of_lt_of_le hb.2.1 hk.size, hb.2.2⟩) fun b hb hl => hk.block b hl⟩
  rcases h1.2 with hn | ⟨g, cap, cur, rfl, hb, hg, r⟩
  · exact .inl hn
  · exact .inr ⟨g, cap, cur, rfl, hb, (hk.block g (Array.getElem?_eq_some_iff.1 hg).1).trans hg, r⟩
theorem PartR.alloc (h : PartR lo B w v ts) (o : Obj) : PartR lo B (w.alloc o) v ts := h.below ((Below.refl _ _).alloc (Nat.le_refl _) _)
theorem PartR.drew (h : PartR lo B w v ts) : PartR lo B w.drew v ts := h.below (Below.refl _ _).drew
theorem PartR.setCell (h : PartR lo B w v ts) {a : Addr} (ha : ¬ lo a.block ∧ a.block < B) (u : Value) : PartR lo B (w.setCell a u) v ts := by
  obtain ⟨xs, h1, h2⟩ := h
  refine ⟨xs, ⟨h1.1, ?_⟩, h2.keep (fun b hb => ⟨hb.1, by simpa using hb.2.1, hb.2.2⟩) fun b hb hl => Below.heap_setCell w a u b (fun e => by subst e; exact hb.1.elim ha.1 (fun h => by omega))⟩
  rcases h1.2 with hn | ⟨g, cap, cur, rfl, hb, hg, r⟩
  · exact .inl hn
  · exact .inr ⟨g, cap, cur, rfl, hb, (Below.heap_setCell w a u g (by omega)).trans hg, r⟩
/-- at the end: the slice's shape, and that its terms can be read -/
theorem PartR.rd (h : PartR lo B w v ts) : ∃ A c, v = .slice A ts.length c ∧ RdP (fun b => lo b ∨ B ≤ b) w A 0 ts := by
  obtain ⟨xs, h1, h2⟩ := h
  rcases h1.2 with ⟨rfl, h0⟩ | ⟨g, cap, cur, rfl, hb, hg, _, _, _, htk⟩
  · have : ts = [] := List.eq_nil_of_length_eq_zero h0
    subst this
    exact ⟨none, 0, rfl, RdP.nil⟩
  · refine ⟨_, _, rfl, RdX.rdp (.inr hb) (h2.keep (fun b hb => hb.1) fun _ _ _ => rfl) fun j u hu => ?_⟩
    rw [show 0 + 0 * 3 + j = j by omega, cell_of_row w g j cur 27 (0, 0) hg]
    have h3 := htk
    rw [← h3, List.getElem?_take] at hu
    split at hu
    · simpa using hu
    · cases hu
theorem PartR.shape (h : PartR lo B w v ts) : ∃ A c, v = .slice A ts.length c := by
  obtain ⟨A, c, hv, _⟩ := h.rd; exact ⟨A, c, hv⟩
end
section
variable {lo : Nat → Prop} {B : Nat} {w : World} {v : Value} {ts : List Tm} {k n : Int} {ks : List Tm} {A : Option Addr} {c : Nat} {q : Nat → Prop}
end
open Go.RowKit
theorem RdX.set {p : Nat → Prop} {w : World} {ku nu : Int} {us : List Tm} {U : Option Addr} {cu : Nat} (hl : us.length ≤ 9223372036854775807) (hu : RdP p w U 0 us) : ∀ {ts : List Tm} {xs : List Value} {i : Nat}, RdX p w ts xs → i < ts.length →
    RdX p w (ts.set i (.mk ku nu us)) (((xs.set (i * 3) (.int .i64 ku)).set (i * 3 + 1) (.int .i64 nu)).set (i * 3 + 2) (.slice U us.length cu))
  | [], _, _, _, h => absurd h (Nat.not_lt_zero _)
  | .mk k n ks :: ts, xs, 0, h, _ => by
    obtain ⟨A, c, ys, rfl, hl1, hr, hx⟩ := h
    exact ⟨U, cu, ys, rfl, hl, hu, hx⟩
  | .mk k n ks :: ts, xs, i + 1, h, hi => by
    obtain ⟨A, c, ys, rfl, hl1, hr, hx⟩ := h
    refine ⟨A, c, _, ?_, hl1, hr, RdX.set (cu := cu) hl hu hx (Nat.lt_of_succ_lt_succ hi)⟩
    rw [show (i + 1) * 3 = i * 3 + 3 from by omega, show i * 3 + 3 + 1 = (i * 3 + 1) + 3 from by omega, show i * 3 + 3 + 2 = (i * 3 + 2) + 3 from by omega]
    rfl
/-- terms that stand in the block g; what they lead to lies where p says -/
def RowS (p : Nat → Prop) (w : World) (g : Nat) (ts : List Tm) : Prop :=
  ∃ (cur : Array Value) (xs : List Value), Blk w g cur ∧ (∀ (j : Nat) (u : Value), xs[j]? = some u → cur[j]? = some u) ∧ RdX p w ts xs
section
variable {p : Nat → Prop} {w w' : World} {g : Nat} {ts : List Tm}
theorem RowS.lt (h : RowS p w g ts) : g < w.heap.size := by obtain ⟨_, _, h, _⟩ := h; exact h.lt
theorem RowS.frozen (h : RowS p w g ts) (j : Nat) : w.frozen? ⟨g, j, none⟩ = false := by obtain ⟨_, _, h, _⟩ := h; exact h.frozen j
theorem RowS.cell (h : RowS p w g ts) {j : Nat} (hj : j < ts.length * 3) : ∃ u, w.cell? ⟨g, j, none⟩ = some u := by
  obtain ⟨cur, xs, hB, hcl, h2⟩ := h
  have hxl := h2.length
  exact ⟨xs[j]'(by omega), hB.at_ (hcl j _ (List.getElem?_eq_getElem (by omega)))⟩
theorem RowS.below (h : RowS p w g ts) (hb : Below w.heap.size w w') (hp : ∀ b, p b → b < w.heap.size) : RowS p w' g ts := by
  obtain ⟨cur, xs, hB, hcl, h2⟩ := h
  exact ⟨cur, xs, hB.keep hb, hcl, h2.keep (fun _ h => h) fun b hb' _ => hb.block b (hp b hb')⟩
theorem RowS.setCell (h : RowS p w g ts) {a : Addr} (ha : ¬ p a.block) (hg : g ≠ a.block) (u : Value) : RowS p (w.setCell a u) g ts := by
  obtain ⟨cur, xs, hB, hcl, h2⟩ := h
  exact ⟨cur, xs, hB.far hg u, hcl, h2.keep (fun _ h => h) fun b hb' _ => Below.heap_setCell w a u b (fun e => ha (e ▸ hb'))⟩
theorem RowS.set (h : RowS p w g ts) (hpg : ¬ p g) {i : Nat} (hi : i < ts.length) {ku nu : Int} {us : List Tm} {U : Option Addr} {cu : Nat} (hl : us.length ≤ 9223372036854775807) {q r : Nat → Prop} (hu : RdP q w U 0 us) (hq : ¬ q g) (hr1 : ∀ b, p b → r b) (hr2 : ∀ b, q b → r b) (hrg : r g) :
    RdP r (((w.setCell ⟨g, i * 3, none⟩ (.int .i64 ku)).setCell ⟨g, i * 3 + 1, none⟩ (.int .i64 nu)).setCell ⟨g, i * 3 + 2, none⟩ (.slice U us.length cu)) (some ⟨g, 0, none⟩) 0 (ts.set i (.mk ku nu us)) := by
  obtain ⟨cur, xs, hB1, hcl, h2⟩ := h
  have hxl := h2.length
  have h3 : RdX (fun b => b ≠ g ∧ r b) w ts xs := h2.keep (fun b hb => ⟨fun (e : b = g) => hpg (e ▸ hb), hr1 b hb⟩) fun _ _ _ => rfl
  have h4 := RdX.set (ku := ku) (nu := nu) (cu := cu) hl (hu.mono (q := fun b => b ≠ g ∧ r b) fun b hb => ⟨fun (e : b = g) => hq (e ▸ hb), hr2 b hb⟩) h3 hi
  have hset := ((hB1.set_ (i * 3) (.int .i64 ku)).set_ (i * 3 + 1) (.int .i64 nu)).set_ (i * 3 + 2) (.slice U us.length cu)
  refine RdX.rdp hrg (h4.keep (q := r) (fun _ h => h.2) fun b hb hl => ?_) fun j u hu2 => ?_
  · rw [Below.heap_setCell _ _ _ b (by simpa using hb.1), Below.heap_setCell _ _ _ b (by simpa using hb.1), Below.heap_setCell _ _ _ b (by simpa using hb.1)]
  · rw [show 0 + 0 * 3 + j = j from by omega]
    refine hset.at_ ?_
    have hcs' : ∀ j, j < xs.length → j < cur.size := fun j hj => by
      have := hcl j _ (List.getElem?_eq_getElem hj)
      exact (Array.getElem?_eq_some_iff.1 this).1
    rw [Array.getElem?_setIfInBounds, Array.getElem?_setIfInBounds, Array.getElem?_setIfInBounds]
    rw [List.getElem?_set, List.getElem?_set, List.getElem?_set] at hu2
    simp only [List.length_set] at hu2
    have hb2 : i * 3 + 2 < xs.length := by omega
    have c0 := hcs' (i * 3) (by omega)
    have c1 := hcs' (i * 3 + 1) (by omega)
    have c2 := hcs' (i * 3 + 2) (by omega)
    simp only [Array.size_setIfInBounds]
    by_cases j2 : i * 3 + 2 = j
    · rw [if_pos j2] at hu2 ⊢
      rw [if_pos (by omega)] at hu2
      rw [if_pos (by omega)]; exact hu2
    · rw [if_neg j2] at hu2 ⊢
      by_cases j1 : i * 3 + 1 = j
      · rw [if_pos j1] at hu2 ⊢
        rw [if_pos (by omega)] at hu2
        rw [if_pos (by omega)]; exact hu2
      · rw [if_neg j1] at hu2 ⊢
        by_cases j0 : i * 3 = j
        · rw [if_pos j0] at hu2 ⊢
          rw [if_pos (by omega)] at hu2
          rw [if_pos (by omega)]; exact hu2
        · rw [if_neg j0] at hu2 ⊢
          exact hcl j u hu2
/-- and what they lead to is there already -/
def RowT (p : Nat → Prop) (w : World) (g : Nat) (ts : List Tm) : Prop := RowS p w g ts ∧ ∀ b, p b → b < w.heap.size
theorem RowT.below (h : RowT p w g ts) (hb : Below w.heap.size w w') : RowT p w' g ts := ⟨h.1.below hb h.2, fun b hp => Nat.lt_of_lt_of_le (h.2 b hp) hb.size⟩
theorem RowT.setCell (h : RowT p w g ts) {a : Addr} (ha : ¬ p a.block) (hg : g ≠ a.block) (u : Value) : RowT p (w.setCell a u) g ts := ⟨h.1.setCell ha hg u, fun b hb => by simpa using h.2 b hb⟩
end
theorem PartR.rowS {lo : Nat → Prop} {B : Nat} {w : World} {A : Option Addr} {n c : Nat} {ts : List Tm} (h : PartR lo B w (.slice A n c) ts) (hi : 0 < ts.length) :
    ∃ g, A = some ⟨g, 0, none⟩ ∧ n = ts.length ∧ B ≤ g ∧ g < w.heap.size ∧ RowT (fun b => (lo b ∨ B ≤ b) ∧ b < w.heap.size ∧ b ≠ g) w g ts := by
  obtain ⟨xs, h1, h2⟩ := h
  rcases h1.2 with ⟨e, h0⟩ | ⟨g, cap, cur, e, hb, hg, hn, hmx, hcs, htk⟩
  · omega
  · injection e with e1 e2 e3
    subst e1 e2 e3
    have hB : Blk w g cur := ⟨27, hg⟩
    refine ⟨g, rfl, rfl, hb, hB.lt, ⟨cur, xs, hB, fun j u hu => ?_, h2.keep (fun b hb => ⟨hb.1, hb.2.1, fun e => hb.2.2 (by rw [e]; rfl)⟩) fun _ _ _ => rfl⟩, fun b hb => hb.2.1⟩
    rw [← htk, List.getElem?_take] at hu
    split at hu
    · simpa using hu
    · cases hu
open Go.RowKit
/-- the cells of terms that can be read -/
theorem rdx_row {p : Nat → Prop} {w : World} {b off : Nat} : ∀ {ts : List Tm} {i : Nat}, RdP p w (some ⟨b, off, none⟩) i ts → ∃ xs, RdX p w ts xs ∧ ∀ j u, xs[j]? = some u → w.cell? ⟨b, off + i * 3 + j, none⟩ = some u
  | [], i, _ => ⟨[], rfl, fun j u h => by simp at h⟩
  | .mk k n ks :: ts, i, h => by
    obtain ⟨⟨b', off', hA, hc⟩, hr⟩ := RdP.cons_iff.1 h
    injection hA with hA
    injection hA with h1 h2
    subst h1 h2
    obtain ⟨hp, c0, c1, A, c, c2, hl, hk⟩ := RdPC.iff.1 hc
    obtain ⟨xs, hx, hcx⟩ := rdx_row hr
    refine ⟨.int .i64 k :: .int .i64 n :: .slice A ks.length c :: xs, ⟨A, c, xs, rfl, hl, hk, hx⟩, fun j u hj => ?_⟩
    match j, hj with
    | 0, hj => simp only [List.getElem?_cons_zero, Option.some.injEq] at hj; subst hj; exact c0
    | 1, hj => simp only [List.getElem?_cons_succ, List.getElem?_cons_zero, Option.some.injEq] at hj; subst hj; exact c1
    | 2, hj => simp only [List.getElem?_cons_succ, List.getElem?_cons_zero, Option.some.injEq] at hj; subst hj; exact c2
    | j + 3, hj =>
      simp only [List.getElem?_cons_succ] at hj
      have := hcx j u hj
      rw [← this]
      congr 2
      omega
theorem RdX.oneC {p : Nat → Prop} {w : World} : ∀ {ts : List Tm} {xs : List Value}, RdX p w ts xs → ∀ u, u ∈ xs → u.oneCell' = true
  | [], xs, h, u, hu => by have h : xs = [] := h; subst h; cases hu
  | .mk k n ks :: ts, xs, h, u, hu => by
    obtain ⟨A, c, ys, rfl, hl, hr, hx⟩ := h
    simp only [List.mem_cons] at hu
    rcases hu with rfl | rfl | rfl | hu
    · rfl
    · rfl
    · rfl
    · exact hx.oneC u hu
section
variable {lo : Nat → Prop} {B : Nat} {w : World} {v : Value} {ts : List Tm} {k n : Int} {ks : List Tm} {A : Option Addr} {c : Nat} {q : Nat → Prop}
/-- append of one term that can be read, whose cells lie somewhere -/
theorem run_append_rdW (hp : PartR lo B w v ts) (hB : B ≤ w.heap.size) (hr : RdP q w A 0 ks) (hq : ∀ b, q b → PB lo B w v b) (hl : ks.length ≤ 9223372036854775807) (hlen : ts.length ≤ 1099511627776) (g cc : Nat)
    (hb : Blk w g #[.int .i64 k, .int .i64 n, .slice A ks.length c]) (ty : TypeId) :
    ∃ v' w', (Builtin.append_ #[25, 25] ty #[v, .slice (some ⟨g, 0, none⟩) 1 cc]).run Tryz.prog w = .ok v' w' ∧
      PartR lo B w' v' (ts ++ [.mk k n ks]) ∧ Below B w w' ∧ w.grownBy w' v.ownBlock ∧ ∀ b, b < w.heap.size → v.ownBlock ≠ some b → v'.ownBlock ≠ some b := by
  obtain ⟨i, hi, hz, hz1, hz2⟩ := info_parts tm_info
  obtain ⟨xs, k1, h2⟩ := hp
  have hge : ∀ g, v.ownBlock = some g → B ≤ g := fun g hg => (k1.lt g hg).1
  obtain ⟨c0, c1, c2⟩ : w.cell? ⟨g, 0, none⟩ = some (.int .i64 k) ∧ w.cell? ⟨g, 1, none⟩ = some (.int .i64 n) ∧ w.cell? ⟨g, 2, none⟩ = some (.slice A ks.length c) := ⟨hb.at_ (i := 0) rfl, hb.at_ (i := 1) rfl, hb.at_ (i := 2) rfl⟩
  obtain ⟨v', w', hrun, hown, hg, _, hat⟩ := run_append_own_at (P := Tryz.prog) w B 25 ty 27 i _ 3 40 Tryz.underlying25 hi hz hz1 hz2 rfl (by omega) v ts.length xs k1 ⟨g, 0, none⟩ 1 cc [.int .i64 k, .int .i64 n, .slice A ks.length c] rfl (by
    intro j u hj
    match j, hj with
    | 0, hj => simp only [List.getElem?_cons_zero, Option.some.injEq] at hj; subst hj; simpa [Addr.add] using c0
    | 1, hj => simp only [List.getElem?_cons_succ, List.getElem?_cons_zero, Option.some.injEq] at hj; subst hj; simpa [Addr.add] using c1
    | 2, hj => simp only [List.getElem?_cons_succ, List.getElem?_cons_zero, Option.some.injEq] at hj; subst hj; simpa [Addr.add] using c2) (by
    intro u hu
    simp only [List.mem_cons, List.not_mem_nil, or_false] at hu
    rcases hu with rfl | rfl | rfl <;> rfl) (by simp only [maxLen]; omega) (by omega) (by omega)
  have hsz := hg.size
  have hne : ∀ b, b < w.heap.size → v.ownBlock ≠ some b → v'.ownBlock ≠ some b := by
    intro b hb hv e
    rcases hat with e' | e'
    · exact hv (e'.symm.trans e)
    · rw [e'] at e; injection e with e; omega
  have hst : ∀ b, PB lo B w v b → PB lo B w' v' b := fun b hb => ⟨hb.1, by have := hb.2.1; omega, hne b hb.2.1 hb.2.2⟩
  have hkp : ∀ b, PB lo B w v b → b < w.heap.size → w'.heap[b]? = w.heap[b]? := fun b hb hl => hg.block b hl (fun e => hb.2.2 e.symm)
  have hr' : RdP (PB lo B w' v') w' A 0 ks := ((hr.mono (q := PB lo B w v) hq).blocks hkp).mono hst
  refine ⟨v', w', hrun, ⟨xs ++ [.int .i64 k, .int .i64 n, .slice A ks.length c], by simpa using hown, RdX.append (show RdX (PB lo B w' v') w' [.mk k n ks] _ from ⟨A, c, [], rfl, hl, hr', rfl⟩) (h2.keep hst hkp)⟩, ?_, hg, hne⟩
  exact ⟨hg.os, hg.tape, hg.output, hg.size, fun k hk => hg.block k (by omega) (fun e => by have := hge k e.symm; omega)⟩
theorem wpList_append_rdW (hp : PartR lo B w v ts) (hB : B ≤ w.heap.size) (hr : RdP q w A 0 ks) (hq : ∀ b, q b → PB lo B w v b) (hl : ks.length ≤ 9223372036854775807) {m : Nat} (hm : ts.length = m) (hlen : m ≤ 1099511627776) (g cc : Nat)
    (hb : Blk w g #[.int .i64 k, .int .i64 n, .slice A ks.length c])
    {ops : Array Oper} {rest : List Oper} {o : Oper} {a : Act} {Q : Exit → Act → World → Prop} (hgd : o.guard = none) (s x : Operand)
    (ho : o.op = .call { callee := .builtin .append, args := #[s, x], argTypes := #[25, 25] }) (hse : a.eval s = v) (hx : a.eval x = .slice (some ⟨g, 0, none⟩) 1 cc)
    (h : ∀ A' c' w', PartR lo B w' (.slice A' (m + 1) c') (ts ++ [.mk k n ks]) → Below B w w' → w.grownBy w' v.ownBlock → (∀ b, b < w.heap.size → v.ownBlock ≠ some b → (Value.slice A' (m + 1) c').ownBlock ≠ some b) → wpList Tryz.prog ops Q rest (a.put o.dst (.slice A' (m + 1) c')) w') :
    wpList Tryz.prog ops Q (o :: rest) a w := by
  subst hm
  refine wpList_plain hgd fun K hK => ?_
  obtain ⟨v', w', hrun, h2, h3, h4, h5⟩ := run_append_rdW (k := k) (n := n) (c := c) hp hB hr hq hl hlen g cc hb o.type
  unfold Oper.wp execOp
  simp only [ho, resolve, invoke, builtin, Sem.run_bind, Sem.run_pure, Result.andThen_ok, List.map_toArray, List.map_cons, List.map_nil, hse, hx, hrun]
  obtain ⟨A', c', rfl⟩ := h2.shape
  rw [List.length_append] at h2 ⊢
  exact hK _ _ (h A' c' w' h2 h3 h4 (by rw [List.length_append] at h5; exact h5))
end
section
variable {p : Nat → Prop} {w : World} {l : List Tm} {L : Option Addr} {cl g : Nat}
/-- append of a slice of terms to an empty one -/
theorem run_append_listR (hg : w.heap[g]? = some (.cells #[] 27 (0, 0))) (hl : RdP p w L 0 l) (hp : ∀ b, p b → b < w.heap.size ∧ b ≠ g) (hlen : l.length ≤ 1099511627776) (ty : TypeId) :
    ∃ v' w', (Builtin.append_ #[25, 25] ty #[.slice (some ⟨g, 0, none⟩) 0 0, .slice L l.length cl]).run Tryz.prog w = .ok v' w' ∧ PartR p g w' v' l ∧ w.grownBy w' (some g) := by
  have hgw : g < w.heap.size := (Array.getElem?_eq_some_iff.1 hg).1
  obtain ⟨i, hi, hz, hz1, hz2⟩ := info_parts tm_info
  have k1 : w.ownsRow g 27 3 (.slice (some ⟨g, 0, none⟩) 0 0) 0 [] := ⟨by simp, .inr ⟨g, 0, #[], rfl, Nat.le_refl _, hg, Nat.le_refl _, by simp [maxLen], by simp, by simp⟩⟩
  cases l with
  | nil =>
    refine ⟨.slice (some ⟨g, 0, none⟩) 0 0, w, run_append_nothing w 25 25 ty 27 i Tryz.underlying25 hi _ 0 0 (Nat.le_refl _) _ ⟨.inl ⟨27, Tryz.underlying25⟩, fun w' => by simp [Builtin.lenOf], by cases L <;> simp [Builtin.firstCells, loadCells, loadCellsFrom], by cases L <;> simp [Builtin.firstCells, loadCells, loadCellsFrom], by simp, fun u hu => by cases hu⟩, ⟨[], k1, rfl⟩, World.grownBy.refl _ _⟩
  | cons t ts =>
    obtain ⟨⟨b, off, rfl, _⟩, _⟩ := RdP.cons_iff.1 hl
    obtain ⟨x1, hx, hc⟩ := rdx_row hl
    obtain ⟨v', w', hrun, hown, hgr, _, hat⟩ := run_append_own_at (P := Tryz.prog) w g 25 ty 27 i _ 3 40 Tryz.underlying25 hi hz hz1 hz2 rfl (by omega) _ 0 [] k1 ⟨b, off, none⟩ (t :: ts).length cl x1 hx.length (fun j u hj => by
        have := hc j u hj
        rw [show Addr.add ⟨b, off, none⟩ j = ⟨b, off + 0 * 3 + j, none⟩ from by simp only [Addr.add]; split <;> simp_all]
        exact this) hx.oneC (by simp only [maxLen]; omega) (by omega) (by omega)
    rw [Nat.zero_add, List.nil_append] at hown
    have hsz := hgr.size
    have hvo : ∀ b, b < w.heap.size → b ≠ g → v'.ownBlock ≠ some b := by
      intro b hb hbg e
      rcases hat with e' | e'
      · rw [e'] at e; injection e with e; exact hbg e.symm
      · rw [e'] at e; injection e with e; omega
    exact ⟨v', w', hrun, ⟨x1, hown, hx.keep (fun b hb => ⟨.inl hb, by have := (hp b hb).1; omega, hvo b (hp b hb).1 (hp b hb).2⟩) fun b hb hl => hgr.block b hl (fun e => (hp b hb).2 (by injection e))⟩, hgr⟩
end
open Go.RowKit
section
variable {p : Nat → Prop} {w : World} {l : List Tm} {L : Option Addr} {cl g : Nat}
/-- append of a slice of terms to an empty one, in a plain region -/
theorem wpList_append_listR (hg : w.heap[g]? = some (.cells #[] 27 (0, 0))) (hl : RdP p w L 0 l) (hp : ∀ b, p b → b < w.heap.size ∧ b ≠ g) {m : Nat} (hm : l.length = m) (hlen : m ≤ 1099511627776)
    {ops : Array Oper} {rest : List Oper} {o : Oper} {a : Act} {Q : Exit → Act → World → Prop} (hgd : o.guard = none) (s x : Operand)
    (ho : o.op = .call { callee := .builtin .append, args := #[s, x], argTypes := #[25, 25] }) (hs : a.eval s = .slice (some ⟨g, 0, none⟩) 0 0) (hx : a.eval x = .slice L m cl)
    (h : ∀ A' c' w', PartR p g w' (.slice A' m c') l → w.grownBy w' (some g) → wpList Tryz.prog ops Q rest (a.put o.dst (.slice A' m c')) w') :
    wpList Tryz.prog ops Q (o :: rest) a w := by
  subst hm
  refine wpList_plain hgd fun K hK => ?_
  obtain ⟨v', w', hrun, h2, h3⟩ := run_append_listR (cl := cl) hg hl hp hlen o.type
  unfold Oper.wp execOp
  simp only [ho, resolve, invoke, builtin, Sem.run_bind, Sem.run_pure, Result.andThen_ok, List.map_toArray, List.map_cons, List.map_nil, hs, hx, hrun]
  obtain ⟨A', c', rfl⟩ := h2.shape
  exact hK _ _ (h A' c' w' h2 h3)
end
/-- the same terms in a row of their own -/
def GotC (p : Nat → Prop) (w : World) (ks : List Tm) (e : Ending) (w' : World) : Prop :=
  ∃ A c, e = .returned (.slice A ks.length c) ∧ PartR p w.heap.size w' (.slice A ks.length c) ks ∧ Below w.heap.size w w'
set_option maxHeartbeats 1000000 in
set_option maxRecDepth 100000 in
theorem iClone_any (p : Nat → Prop) (ks : List Tm) (A : Option Addr) (c : Nat) (w : World) (hl : ks.length ≤ 1099511627776) (hr : RdP p w A 0 ks) (hpw : ∀ b, p b → b < w.heap.size) :
    Calls Tryz.prog 137 #[.slice A ks.length c] w (GotC p w ks) := by
  cases A with
  | none =>
    have hk : ks = [] := by
      cases ks with
      | nil => rfl
      | cons t ts => obtain ⟨⟨b, off, h, _⟩, _⟩ := RdP.cons_iff.1 hr; cases h
    subst hk
    have hq : ∀ w', (binOp .eql 25 (.slice none 0 c) (.slice none 0 0)).run Tryz.prog w' = .ok (.bool true) w' := fun w' => by rw [Go.Lib.run_eql_slice_nil (t := 25) (h := Tryz.underlying25)]; rfl
    go_enter Tryz.func137, Tryz.ntmps137
    go_wp2_with fail
    go_ret
    exact ⟨none, 0, rfl, PartR.nil, Below.refl _ _⟩
  | some a =>
    have hq : ∀ w', (binOp .eql 25 (.slice (some a) ks.length c) (.slice none 0 0)).run Tryz.prog w' = .ok (.bool false) w' := fun w' => by rw [Go.Lib.run_eql_slice_nil (t := 25) (h := Tryz.underlying25)]; rfl
    go_enter Tryz.func137, Tryz.ntmps137
    go_wp2_with (at_builtin; refine wpList_append_listR (p := p) (g := w.heap.size) (cl := c) (heap_alloc_new w _) (hr.alloc _) (fun b hb => ⟨by have := hpw b hb; simp; omega, by have := hpw b hb; omega⟩) rfl hl rfl _ _ rfl rfl rfl ?_; intro A2 c2 w2 hp2 hg2)
    go_ret
    exact ⟨A2, c2, rfl, hp2, ((Below.refl _ _).alloc (Nat.le_refl _) _).trans ⟨hg2.os, hg2.tape, hg2.output, hg2.size, fun k hk => hg2.block k (by simp; omega) (fun e => by injection e; omega)⟩⟩
open Go.RowKit
/-- from place i on the string reads as these bytes, and then as it may -/
def Has (s : ByteArray) (i : Nat) (bs : List UInt8) : Prop := ∃ rest, s.data.toList.drop i = bs ++ rest
theorem Has.le {s : ByteArray} {i : Nat} {bs : List UInt8} (h : Has s i bs) (hb : bs ≠ []) : i + bs.length ≤ s.size := by
  obtain ⟨rest, h⟩ := h
  have h1 := congrArg List.length h
  have h2 : 0 < bs.length := List.length_pos_iff.2 hb
  simp only [List.length_drop, List.length_append, Array.length_toList] at h1
  have h3 : s.data.size = s.size := rfl
  omega
theorem Has.cons {s : ByteArray} {i : Nat} {c : UInt8} {bs : List UInt8} (h : Has s i (c :: bs)) : (∃ hi : i < s.size, s[i]'hi = c) ∧ Has s (i + 1) bs := by
  have hl := h.le (by simp)
  simp only [List.length_cons] at hl
  obtain ⟨rest, h⟩ := h
  have hi : i < s.size := by omega
  refine ⟨⟨hi, ?_⟩, rest, ?_⟩
  · have h1 := congrArg (fun l => l[0]?) h
    simp only [List.getElem?_drop, Nat.add_zero, List.cons_append, List.getElem?_cons_zero] at h1
    have h2 : s.data.toList[i]? = some (s[i]'hi) := by
      rw [List.getElem?_eq_getElem (by simpa using hi)]; rfl
    rw [h2] at h1
    injection h1
  · rw [← List.drop_drop, h]; rfl
theorem Has.app {s : ByteArray} {i : Nat} {a b : List UInt8} (h : Has s i (a ++ b)) : Has s i a ∧ Has s (i + a.length) b := by
  obtain ⟨rest, h⟩ := h
  refine ⟨⟨b ++ rest, by rw [h, List.append_assoc]⟩, rest, ?_⟩
  rw [← List.drop_drop, h, List.append_assoc, List.drop_left]
theorem Has.all (bs : List UInt8) : Has ⟨bs.toArray⟩ 0 bs := ⟨[], by simp⟩
/-- at place i stands no digit -/
def Nd (s : ByteArray) (i : Nat) : Prop := ∀ hi : i < s.size, (s[i]'hi).toNat < 48 ∨ 57 < (s[i]'hi).toNat
theorem Nd.of {s : ByteArray} {i : Nat} {c : UInt8} {bs : List UInt8} (h : Has s i (c :: bs)) (hc : c.toNat < 48 ∨ 57 < c.toNat) : Nd s i := fun hi => by
  obtain ⟨⟨_, e⟩, _⟩ := h.cons
  rw [e]; exact hc
theorem Nd.out {s : ByteArray} {i : Nat} (h : s.size ≤ i) : Nd s i := fun hi => absurd hi (by omega)
/-- texts, each behind the other, a comma between, a sign at the end -/
def ser (c : UInt8) : List (List UInt8) → List UInt8
  | [] => []
  | [b] => b ++ [c]
  | b :: bs => b ++ 44 :: ser c bs
theorem ser_one (c : UInt8) (b : List UInt8) : ser c [b] = b ++ [c] := by simp [ser]
theorem ser_more (c : UInt8) (b d : List UInt8) (bs : List (List UInt8)) : ser c (b :: d :: bs) = b ++ 44 :: ser c (d :: bs) := by simp [ser]
/-- kinds with one operand, with two in round brackets, with three or four: their signs -/
def PreK (k : Int) (c : UInt8) : Prop := (k = 8 ∧ c = 43) ∨ (k = 11 ∧ c = 33) ∨ (k = 15 ∧ c = 94) ∨ (k = 16 ∧ c = 95)
def RndK (k : Int) (c : UInt8) : Prop := (k = 3 ∧ c = 62) ∨ (k = 13 ∧ c = 42) ∨ (k = 5 ∧ c = 32)
def BlkK (k : Int) (m : Nat) (o : List UInt8) (c : UInt8) : Prop := (k = 9 ∧ m = 4 ∧ o = [60] ∧ c = 62) ∨ (k = 10 ∧ m = 3 ∧ o = [123] ∧ c = 125) ∨ (k = 14 ∧ m = 3 ∧ o = [124] ∧ c = 124) ∨ (k = 12 ∧ m = 3 ∧ o = [64, 60] ∧ c = 62)
/-- a term of at most this depth, whose numbers have one digit, and its text -/
inductive Tx : Nat → Tm → List UInt8 → Prop
  | var (d : Nat) (n : Int) (c : UInt8) (h : 0 ≤ n ∧ n ≤ 9 ∧ (c.toNat : Int) = 48 + n) : Tx (d + 1) (.mk 1 n []) [35, c]
  | sort (d : Nat) (n : Int) (c : UInt8) (h : 0 ≤ n ∧ n ≤ 3 ∧ (c.toNat : Int) = 48 + n) : Tx (d + 1) (.mk 2 n []) [42, c]
  | nat (d : Nat) : Tx (d + 1) (.mk 6 0 []) [78]
  | zero (d : Nat) : Tx (d + 1) (.mk 7 0 []) [48]
  | pre (d : Nat) (k : Int) (c : UInt8) (t : Tm) (b : List UInt8) (h : PreK k c) (ht : Tx d t b) : Tx (d + 1) (.mk k 0 [t]) (c :: b)
  | rnd (d : Nat) (k : Int) (c : UInt8) (t u : Tm) (x y : List UInt8) (h : RndK k c) (ht : Tx d t x) (hu : Tx d u y) : Tx (d + 1) (.mk k 0 [t, u]) (40 :: (x ++ c :: (y ++ [41])))
  | lam (d : Nat) (t u : Tm) (x y : List UInt8) (ht : Tx d t x) (hu : Tx d u y) : Tx (d + 1) (.mk 4 0 [t, u]) (91 :: (x ++ 93 :: y))
  | blk (d : Nat) (k : Int) (m : Nat) (o : List UInt8) (c : UInt8) (ts : List Tm) (xs : List (List UInt8)) (h : BlkK k m o c) (hm : ts.length = m) (hx : xs.length = m) (ht : ∀ (j : Nat) (t : Tm) (x : List UInt8), ts[j]? = some t → xs[j]? = some x → Tx d t x) : Tx (d + 1) (.mk k 0 ts) (o ++ ser c xs)
theorem tx3 {d : Nat} {k : Int} {o : List UInt8} {c : UInt8} {t u v : Tm} {x y z : List UInt8} (h : BlkK k 3 o c) (ht : Tx d t x) (hu : Tx d u y) (hv : Tx d v z) : Tx (d + 1) (.mk k 0 [t, u, v]) (o ++ ser c [x, y, z]) :=
  .blk d k 3 o c [t, u, v] [x, y, z] h rfl rfl fun j a b h1 h2 => by
    match j, h1, h2 with
    | 0, h1, h2 => cases h1; cases h2; exact ht
    | 1, h1, h2 => cases h1; cases h2; exact hu
    | 2, h1, h2 => cases h1; cases h2; exact hv
theorem tx4 {d : Nat} {k : Int} {o : List UInt8} {c : UInt8} {t u v a : Tm} {x y z b : List UInt8} (h : BlkK k 4 o c) (ht : Tx d t x) (hu : Tx d u y) (hv : Tx d v z) (ha : Tx d a b) : Tx (d + 1) (.mk k 0 [t, u, v, a]) (o ++ ser c [x, y, z, b]) :=
  .blk d k 4 o c [t, u, v, a] [x, y, z, b] h rfl rfl fun j t' x' h1 h2 => by
    match j, h1, h2 with
    | 0, h1, h2 => cases h1; cases h2; exact ht
    | 1, h1, h2 => cases h1; cases h2; exact hu
    | 2, h1, h2 => cases h1; cases h2; exact hv
    | 3, h1, h2 => cases h1; cases h2; exact ha
theorem Tx.ne {d : Nat} {t : Tm} {b : List UInt8} (h : Tx d t b) : b ≠ [] := by
  cases h <;> simp
  rename_i h _ _ _
  rcases h with ⟨_, _, rfl, _⟩ | ⟨_, _, rfl, _⟩ | ⟨_, _, rfl, _⟩ | ⟨_, _, rfl, _⟩ <;> simp
theorem Tx.mono {d : Nat} {t : Tm} {b : List UInt8} (h : Tx d t b) : ∀ {d' : Nat}, d ≤ d' → Tx d' t b := by
  induction h with
  | var d n c h => intro d' hd; obtain ⟨e, rfl⟩ : ∃ e, d' = e + 1 := ⟨d' - 1, by omega⟩; exact .var e n c h
  | sort d n c h => intro d' hd; obtain ⟨e, rfl⟩ : ∃ e, d' = e + 1 := ⟨d' - 1, by omega⟩; exact .sort e n c h
  | nat d => intro d' hd; obtain ⟨e, rfl⟩ : ∃ e, d' = e + 1 := ⟨d' - 1, by omega⟩; exact .nat e
  | zero d => intro d' hd; obtain ⟨e, rfl⟩ : ∃ e, d' = e + 1 := ⟨d' - 1, by omega⟩; exact .zero e
  | pre d k c t b h ht ih => intro d' hd; obtain ⟨e, rfl⟩ : ∃ e, d' = e + 1 := ⟨d' - 1, by omega⟩; exact .pre e k c t b h (ih (by omega))
  | rnd d k c t u x y h ht hu i1 i2 => intro d' hd; obtain ⟨e, rfl⟩ : ∃ e, d' = e + 1 := ⟨d' - 1, by omega⟩; exact .rnd e k c t u x y h (i1 (by omega)) (i2 (by omega))
  | lam d t u x y ht hu i1 i2 => intro d' hd; obtain ⟨e, rfl⟩ : ∃ e, d' = e + 1 := ⟨d' - 1, by omega⟩; exact .lam e t u x y (i1 (by omega)) (i2 (by omega))
  | blk d k m o c ts xs h hm hx ht ih => intro d' hd; obtain ⟨e, rfl⟩ : ∃ e, d' = e + 1 := ⟨d' - 1, by omega⟩; exact .blk e k m o c ts xs h hm hx (fun j t x h1 h2 => ih j t x h1 h2 (by omega))
open Go.RowKit
/-- the shapes of the sixteen kinds, a dot for each operand -/
def shpX : List (List UInt8) := [[35], [42], [40, 46, 62, 46, 41], [91, 46, 93, 46], [40, 46, 32, 46, 41], [78], [48], [43, 46], [60, 46, 44, 46, 44, 46, 44, 46, 62], [123, 46, 44, 46, 44, 46, 125], [33, 46], [64, 60, 46, 44, 46, 44, 46, 62], [40, 46, 42, 46, 41], [124, 46, 44, 46, 44, 46, 124], [94, 46], [95, 46]]
/-- what stands around the operands -/
def prt : Nat → List (List UInt8)
  | 3 => [[40], [62], [41]]
  | 4 => [[91], [93], []]
  | 5 => [[40], [32], [41]]
  | 6 => [[78]]
  | 7 => [[48]]
  | 8 => [[43], []]
  | 9 => [[60], [44], [44], [44], [62]]
  | 10 => [[123], [44], [44], [125]]
  | 11 => [[33], []]
  | 12 => [[64, 60], [44], [44], [62]]
  | 13 => [[40], [42], [41]]
  | 14 => [[124], [44], [44], [124]]
  | 15 => [[94], []]
  | 16 => [[95], []]
  | _ => []
/-- behind a part: an operand's text, the next part, and so on -/
def rem : List (List UInt8) → List (List UInt8) → List UInt8
  | x :: xs, p :: ps => x ++ (p ++ rem xs ps)
  | _, _ => []
def inter : List (List UInt8) → List (List UInt8) → List UInt8
  | p :: ps, xs => p ++ rem xs ps
  | [], _ => []
theorem rem_nil {ps : List (List UInt8)} : rem [] ps = [] := by cases ps <;> rfl
theorem rem_drop {xs ps : List (List UInt8)} {j : Nat} {x p : List UInt8} (hx : xs[j]? = some x) (hp : ps[j]? = some p) : rem (xs.drop j) (ps.drop j) = x ++ (p ++ rem (xs.drop (j + 1)) (ps.drop (j + 1))) := by
  obtain ⟨h1, rfl⟩ := List.getElem?_eq_some_iff.1 hx
  obtain ⟨h2, rfl⟩ := List.getElem?_eq_some_iff.1 hp
  rw [List.drop_eq_getElem_cons h1, List.drop_eq_getElem_cons h2, rem]
inductive Tu : Nat → Tm → List UInt8 → Prop
  | num (d k : Nat) (n : Int) (c : UInt8) (h : (k = 1 ∧ n ≤ 9 ∨ k = 2 ∧ n ≤ 3) ∧ 0 ≤ n ∧ (c.toNat : Int) = 48 + n) : Tu (d + 1) (.mk k n []) ((shpX[k - 1]?).getD [] ++ [c])
  | node (d k : Nat) (ts : List Tm) (xs : List (List UInt8)) (hk : 3 ≤ k ∧ k ≤ 16) (hl : (prt k).length = ts.length + 1) (hx : xs.length = ts.length)
      (ht : ∀ (j : Nat) (t : Tm) (x : List UInt8), ts[j]? = some t → xs[j]? = some x → Tu d t x) : Tu (d + 1) (.mk k 0 ts) (inter (prt k) xs)
theorem two_at {α β : Type} {q : α → β → Prop} {t u : α} {x y : β} (h1 : q t x) (h2 : q u y) : ∀ (j : Nat) (a : α) (b : β), [t, u][j]? = some a → [x, y][j]? = some b → q a b
  | 0, a, b, ha, hb => by cases ha; cases hb; exact h1
  | 1, a, b, ha, hb => by cases ha; cases hb; exact h2
  | j + 2, a, b, ha, hb => by simp at ha
theorem one_at {α β : Type} {q : α → β → Prop} {t : α} {x : β} (h1 : q t x) : ∀ (j : Nat) (a : α) (b : β), [t][j]? = some a → [x][j]? = some b → q a b
  | 0, a, b, ha, hb => by cases ha; cases hb; exact h1
  | j + 1, a, b, ha, hb => by simp at ha
theorem none_at {α β : Type} {q : α → β → Prop} {l : List β} : ∀ (j : Nat) (a : α) (b : β), ([] : List α)[j]? = some a → l[j]? = some b → q a b := fun j a b ha => by simp at ha
theorem Tx.tu {d : Nat} {t : Tm} {b : List UInt8} (h : Tx d t b) : Tu d t b := by
  induction h with
  | var d n c h => exact .num d 1 n c ⟨.inl ⟨rfl, h.2.1⟩, h.1, h.2.2⟩
  | sort d n c h => exact .num d 2 n c ⟨.inr ⟨rfl, h.2.1⟩, h.1, h.2.2⟩
  | nat d => exact .node d 6 [] [] ⟨by decide, by decide⟩ rfl rfl none_at
  | zero d => exact .node d 7 [] [] ⟨by decide, by decide⟩ rfl rfl none_at
  | pre d k c t b h ht ih =>
    rcases h with ⟨rfl, rfl⟩ | ⟨rfl, rfl⟩ | ⟨rfl, rfl⟩ | ⟨rfl, rfl⟩
    · have := Tu.node d 8 [t] [b] ⟨by decide, by decide⟩ rfl rfl (one_at ih); simpa [inter, prt, rem] using this
    · have := Tu.node d 11 [t] [b] ⟨by decide, by decide⟩ rfl rfl (one_at ih); simpa [inter, prt, rem] using this
    · have := Tu.node d 15 [t] [b] ⟨by decide, by decide⟩ rfl rfl (one_at ih); simpa [inter, prt, rem] using this
    · have := Tu.node d 16 [t] [b] ⟨by decide, by decide⟩ rfl rfl (one_at ih); simpa [inter, prt, rem] using this
  | rnd d k c t u x y h ht hu i1 i2 =>
    rcases h with ⟨rfl, rfl⟩ | ⟨rfl, rfl⟩ | ⟨rfl, rfl⟩
    · have := Tu.node d 3 [t, u] [x, y] ⟨by decide, by decide⟩ rfl rfl (two_at i1 i2); simpa [inter, prt, rem] using this
    · have := Tu.node d 13 [t, u] [x, y] ⟨by decide, by decide⟩ rfl rfl (two_at i1 i2); simpa [inter, prt, rem] using this
    · have := Tu.node d 5 [t, u] [x, y] ⟨by decide, by decide⟩ rfl rfl (two_at i1 i2); simpa [inter, prt, rem] using this
  | lam d t u x y ht hu i1 i2 => have := Tu.node d 4 [t, u] [x, y] ⟨by decide, by decide⟩ rfl rfl (two_at i1 i2); simpa [inter, prt, rem] using this
  | blk d k m o c ts xs h hm hx ht ih =>
    rcases h with ⟨rfl, rfl, rfl, rfl⟩ | ⟨rfl, rfl, rfl, rfl⟩ | ⟨rfl, rfl, rfl, rfl⟩ | ⟨rfl, rfl, rfl, rfl⟩
    · have := Tu.node d 9 ts xs ⟨by decide, by decide⟩ (by rw [hm]; rfl) (by omega) ih
      match xs, hx with
      | [a, b, c, e], _ => simpa [inter, prt, rem, ser] using this
    · have := Tu.node d 10 ts xs ⟨by decide, by decide⟩ (by rw [hm]; rfl) (by omega) ih
      match xs, hx with
      | [a, b, c], _ => simpa [inter, prt, rem, ser] using this
    · have := Tu.node d 14 ts xs ⟨by decide, by decide⟩ (by rw [hm]; rfl) (by omega) ih
      match xs, hx with
      | [a, b, c], _ => simpa [inter, prt, rem, ser] using this
    · have := Tu.node d 12 ts xs ⟨by decide, by decide⟩ (by rw [hm]; rfl) (by omega) ih
      match xs, hx with
      | [a, b, c], _ => simpa [inter, prt, rem, ser] using this
/-- the kind that a first sign tells -/
def kind0 (k : Nat) : Nat := if k = 5 ∨ k = 13 then 3 else k
theorem prt_kinds {k : Nat} (hk : 3 ≤ k ∧ k ≤ 16) : k = 3 ∨ k = 4 ∨ k = 5 ∨ k = 6 ∨ k = 7 ∨ k = 8 ∨ k = 9 ∨ k = 10 ∨ k = 11 ∨ k = 12 ∨ k = 13 ∨ k = 14 ∨ k = 15 ∨ k = 16 := by omega
/-- a part behind an operand begins with no digit; the empty one is the last -/
theorem prt_sign {k j : Nat} {p : List UInt8} (hk : 3 ≤ k ∧ k ≤ 16) (hp : (prt k)[j + 1]? = some p) : (p = [] ∧ (prt k).length = j + 2) ∨ ∃ c q, p = c :: q ∧ (c.toNat < 48 ∨ 57 < c.toNat) := by
  rcases prt_kinds hk with rfl | rfl | rfl | rfl | rfl | rfl | rfl | rfl | rfl | rfl | rfl | rfl | rfl | rfl <;>
  · simp only [prt] at hp ⊢
    rcases j with _ | _ | _ | _ | j <;> simp at hp <;> subst hp <;> first | (exact .inl ⟨rfl, rfl⟩) | (exact .inr ⟨_, _, rfl, by decide⟩)
end Go.Proofs.YthgmofdfecioaaaGreatDoor
