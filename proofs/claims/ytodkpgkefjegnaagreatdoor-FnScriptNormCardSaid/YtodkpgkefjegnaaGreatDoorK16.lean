/-
  Contracts of the functions that the law reaches, and plain lemmas. No condition.
-/
import Derived.Test.YtodkpgkefjegnaaGreatDoorK2
import Derived.Test.YtodkpgkefjegnaaGreatDoorK3
import Derived.Test.YtodkpgkefjegnaaGreatDoorK5
import Derived.Test.YtodkpgkefjegnaaGreatDoorK6
import Derived.Test.YtodkpgkefjegnaaGreatDoorK7
import Derived.Test.YtodkpgkefjegnaaGreatDoorK8
import Derived.Test.YtodkpgkefjegnaaGreatDoorK9
import Derived.Test.YtodkpgkefjegnaaGreatDoorK10
import Derived.Test.YtodkpgkefjegnaaGreatDoorK14
import Derived.Deep.Upon
import Derived.Lib.SliceRun
import Derived.Deep.DeepCutAuto
namespace Go.Proofs.YtodkpgkefjegnaaGreatDoor
set_option linter.unusedSimpArgs false
set_option linter.unusedVariables false
open Go.RowKit
/-- the cells of terms that can be read -/
theorem rdx_row {p : Nat → Prop} {w : World} {b off : Nat} : ∀ {ts : List Tm} {i : Nat}, RdP p w (some ⟨b, off, none⟩) i ts → ∃ xs, RdX p w ts xs ∧ ∀ j u, xs[j]? = some u → w.cell? ⟨b, off + i * 3 + j, none⟩ = some u
  | [], i, _ => ⟨[], rfl, fun j u h => by simp at h⟩
  | .mk k n ks :: ts, i, h => by
    obtain ⟨⟨b', off', hA, hc⟩, hr⟩ := RdP.cons_iff.1 h
    injection hA with hA
    injection hA with h1 h2
    subst h1 h2
    obtain ⟨hp, c0, c1, A, c, c2, hl, hk⟩ := RdPC.iff.1 hc
    obtain ⟨xs, hx, hcx⟩ := rdx_row hr
    refine ⟨.int .i64 k :: .int .i64 n :: .slice A ks.length c :: xs, ⟨A, c, xs, rfl, hl, hk, hx⟩, fun j u hj => ?_⟩
    match j, hj with
    | 0, hj => simp only [List.getElem?_cons_zero, Option.some.injEq] at hj; subst hj; exact c0
    | 1, hj => simp only [List.getElem?_cons_succ, List.getElem?_cons_zero, Option.some.injEq] at hj; subst hj; exact c1
    | 2, hj => simp only [List.getElem?_cons_succ, List.getElem?_cons_zero, Option.some.injEq] at hj; subst hj; exact c2
    | j + 3, hj =>
      simp only [List.getElem?_cons_succ] at hj
      have := hcx j u hj
      rw [← this]
      congr 2
      omega
theorem RdX.oneC {p : Nat → Prop} {w : World} : ∀ {ts : List Tm} {xs : List Value}, RdX p w ts xs → ∀ u, u ∈ xs → u.oneCell' = true
  | [], xs, h, u, hu => by have h : xs = [] := h; subst h; cases hu
  | .mk k n ks :: ts, xs, h, u, hu => by
    obtain ⟨A, c, ys, rfl, hl, hr, hx⟩ := h
    simp only [List.mem_cons] at hu
    rcases hu with rfl | rfl | rfl | hu
    · rfl
    · rfl
    · rfl
    · exact hx.oneC u hu
section
variable {lo : Nat → Prop} {B : Nat} {w : World} {v : Value} {ts : List Tm} {k n : Int} {ks : List Tm} {A : Option Addr} {c : Nat} {q : Nat → Prop}
end
section
variable {p : Nat → Prop} {w : World} {l : List Tm} {L : Option Addr} {cl g : Nat}
/-- append of a slice of terms to an empty one -/
theorem run_append_listR (hg : w.heap[g]? = some (.cells #[] 25 (0, 0))) (hl : RdP p w L 0 l) (hp : ∀ b, p b → b < w.heap.size ∧ b ≠ g) (hlen : l.length ≤ 1099511627776) (ty : TypeId) :
    ∃ v' w', (Builtin.append_ #[23, 23] ty #[.slice (some ⟨g, 0, none⟩) 0 0, .slice L l.length cl]).run Tryz.prog w = .ok v' w' ∧ PartR p g w' v' l ∧ w.grownBy w' (some g) := by
  have hgw : g < w.heap.size := (Array.getElem?_eq_some_iff.1 hg).1
  obtain ⟨i, hi, hz, hz1, hz2⟩ := info_parts tm_info
  have k1 : w.ownsRow g 25 3 (.slice (some ⟨g, 0, none⟩) 0 0) 0 [] := ⟨by simp, .inr ⟨g, 0, #[], rfl, Nat.le_refl _, hg, Nat.le_refl _, by simp [maxLen], by simp, by simp⟩⟩
  cases l with
  | nil =>
    refine ⟨.slice (some ⟨g, 0, none⟩) 0 0, w, run_append_nothing w 23 23 ty 25 i Tryz.underlying23 hi _ 0 0 (Nat.le_refl _) _ ⟨.inl ⟨25, Tryz.underlying23⟩, fun w' => by simp [Builtin.lenOf], by cases L <;> simp [Builtin.firstCells, loadCells, loadCellsFrom], by cases L <;> simp [Builtin.firstCells, loadCells, loadCellsFrom], by simp, fun u hu => by cases hu⟩, ⟨[], k1, rfl⟩, World.grownBy.refl _ _⟩
  | cons t ts =>
    obtain ⟨⟨b, off, rfl, _⟩, _⟩ := RdP.cons_iff.1 hl
    obtain ⟨x1, hx, hc⟩ := rdx_row hl
    obtain ⟨v', w', hrun, hown, hgr, _, hat⟩ := run_append_own_at (P := Tryz.prog) w g 23 ty 25 i _ 3 40 Tryz.underlying23 hi hz hz1 hz2 rfl (by omega) _ 0 [] k1 ⟨b, off, none⟩ (t :: ts).length cl x1 hx.length (fun j u hj => by
        have := hc j u hj
        rw [show Addr.add ⟨b, off, none⟩ j = ⟨b, off + 0 * 3 + j, none⟩ from by simp only [Addr.add]; split <;> simp_all]
        exact this) hx.oneC (by simp only [maxLen]; omega) (by omega) (by omega)
    rw [Nat.zero_add, List.nil_append] at hown
    have hsz := hgr.size
    have hvo : ∀ b, b < w.heap.size → b ≠ g → v'.ownBlock ≠ some b := by
      intro b hb hbg e
      rcases hat with e' | e'
      · rw [e'] at e; injection e with e; exact hbg e.symm
      · rw [e'] at e; injection e with e; omega
    exact ⟨v', w', hrun, ⟨x1, hown, hx.keep (fun b hb => ⟨.inl hb, by have := (hp b hb).1; omega, hvo b (hp b hb).1 (hp b hb).2⟩) fun b hb hl => hgr.block b hl (fun e => (hp b hb).2 (by injection e))⟩, hgr⟩
end
open Go.RowKit
section
variable {p : Nat → Prop} {w : World} {l : List Tm} {L : Option Addr} {cl g : Nat}
/-- append of a slice of terms to an empty one, in a plain region -/
theorem wpList_append_listR (hg : w.heap[g]? = some (.cells #[] 25 (0, 0))) (hl : RdP p w L 0 l) (hp : ∀ b, p b → b < w.heap.size ∧ b ≠ g) {m : Nat} (hm : l.length = m) (hlen : m ≤ 1099511627776)
    {ops : Array Oper} {rest : List Oper} {o : Oper} {a : Act} {Q : Exit → Act → World → Prop} (hgd : o.guard = none) (s x : Operand)
    (ho : o.op = .call { callee := .builtin .append, args := #[s, x], argTypes := #[23, 23] }) (hs : a.eval s = .slice (some ⟨g, 0, none⟩) 0 0) (hx : a.eval x = .slice L m cl)
    (h : ∀ A' c' w', PartR p g w' (.slice A' m c') l → w.grownBy w' (some g) → wpList Tryz.prog ops Q rest (a.put o.dst (.slice A' m c')) w') :
    wpList Tryz.prog ops Q (o :: rest) a w := by
  subst hm
  refine wpList_plain hgd fun K hK => ?_
  obtain ⟨v', w', hrun, h2, h3⟩ := run_append_listR (cl := cl) hg hl hp hlen o.type
  unfold Oper.wp execOp
  simp only [ho, resolve, invoke, builtin, Sem.run_bind, Sem.run_pure, Result.andThen_ok, List.map_toArray, List.map_cons, List.map_nil, hs, hx, hrun]
  obtain ⟨A', c', rfl⟩ := h2.shape
  exact hK _ _ (h A' c' w' h2 h3)
end
/-- the same terms in a row of their own -/
def GotC (p : Nat → Prop) (w : World) (ks : List Tm) (e : Ending) (w' : World) : Prop :=
  ∃ A c, e = .returned (.slice A ks.length c) ∧ PartR p w.heap.size w' (.slice A ks.length c) ks ∧ Below w.heap.size w w'
set_option maxHeartbeats 1000000 in
set_option maxRecDepth 100000 in
theorem iClone_any (p : Nat → Prop) (ks : List Tm) (A : Option Addr) (c : Nat) (w : World) (hl : ks.length ≤ 1099511627776) (hr : RdP p w A 0 ks) (hpw : ∀ b, p b → b < w.heap.size) :
    Calls Tryz.prog 102 #[.slice A ks.length c] w (GotC p w ks) := by
  cases A with
  | none =>
    have hk : ks = [] := by
      cases ks with
      | nil => rfl
      | cons t ts => obtain ⟨⟨b, off, h, _⟩, _⟩ := RdP.cons_iff.1 hr; cases h
    subst hk
    have hq : ∀ w', (binOp .eql 23 (.slice none 0 c) (.slice none 0 0)).run Tryz.prog w' = .ok (.bool true) w' := fun w' => by rw [Go.Lib.run_eql_slice_nil (t := 23) (h := Tryz.underlying23)]; rfl
    go_enter Tryz.func102, Tryz.ntmps102
    go_wp2_with fail
    go_ret
    exact ⟨none, 0, rfl, PartR.nil, Below.refl _ _⟩
  | some a =>
    have hq : ∀ w', (binOp .eql 23 (.slice (some a) ks.length c) (.slice none 0 0)).run Tryz.prog w' = .ok (.bool false) w' := fun w' => by rw [Go.Lib.run_eql_slice_nil (t := 23) (h := Tryz.underlying23)]; rfl
    go_enter Tryz.func102, Tryz.ntmps102
    go_wp2_with (at_builtin; refine wpList_append_listR (p := p) (g := w.heap.size) (cl := c) (heap_alloc_new w _) (hr.alloc _) (fun b hb => ⟨by have := hpw b hb; simp; omega, by have := hpw b hb; omega⟩) rfl hl rfl _ _ rfl rfl rfl ?_; intro A2 c2 w2 hp2 hg2)
    go_ret
    exact ⟨A2, c2, rfl, hp2, ((Below.refl _ _).alloc (Nat.le_refl _) _).trans ⟨hg2.os, hg2.tape, hg2.output, hg2.size, fun k hk => hg2.block k (by simp; omega) (fun e => by injection e; omega)⟩⟩
open Go.RowKit
/-- numbers that memory holds, in one row -/
def PathX (w : World) (A : Option Addr) (xs : List Int) : Prop :=
  0 < xs.length → ∃ b off, A = some ⟨b, off, none⟩ ∧ ∀ (i : Nat) (u : Value), (xs.map (Value.int .i64))[i]? = some u → w.cell? ⟨b, off + i, none⟩ = some u
theorem PathX.nil {w : World} {A : Option Addr} : PathX w A [] := fun h => absurd h (Nat.lt_irrefl _)
theorem PathX.alloc {w : World} {A : Option Addr} {xs : List Int} (h : PathX w A xs) (o : Obj) : PathX (w.alloc o) A xs := by
  intro hm
  obtain ⟨b, off, h3, h4⟩ := h hm
  exact ⟨b, off, h3, fun i u hu => Keeps.alloc w o _ _ (h4 i u hu)⟩
theorem PathX.rdi {w : World} {A : Option Addr} {xs : List Int} (h : PathX w A xs) : RdI w A xs := fun j hj => by
  obtain ⟨b, off, h3, h4⟩ := h (by omega)
  exact ⟨b, off, h3, h4 j _ (by rw [List.getElem?_map, List.getElem?_eq_getElem hj]; rfl)⟩
theorem PathX.below {w w' : World} {A : Option Addr} {xs : List Int} (h : PathX w A xs) (hb : Below w.heap.size w w') : PathX w' A xs := by
  intro hm
  obtain ⟨b, off, h3, h4⟩ := h hm
  exact ⟨b, off, h3, fun i u hu => (Keeps.of_below hb) _ _ (h4 i u hu)⟩
theorem run_append_pathX {w : World} {A : Option Addr} {xs : List Int} {m c : Nat} (h : PathX w A xs) (h1 : xs.length = m) (hm : m ≤ 1000) (x : Int) (ty : TypeId) :
    ∃ A' c' w', (Builtin.append_ #[66, 66] ty #[.slice (some ⟨w.heap.size, 0, none⟩) 1 1, .slice A m c]).run Tryz.prog (w.alloc (.cells #[.int .i64 x] 3)) = .ok (.slice A' (m + 1) c') w' ∧ m + 1 ≤ c' ∧ PathX w' A' (x :: xs) ∧ Below w.heap.size w w' := by
  obtain ⟨i0, hi, hz0, hz1, hz2⟩ := info_parts int_info
  have hown : (w.alloc (.cells #[.int .i64 x] 3)).ownsRow w.heap.size 3 1 (.slice (some ⟨w.heap.size, 0, none⟩) 1 1) 1 [.int .i64 x] :=
    ⟨rfl, .inr ⟨w.heap.size, 1, #[.int .i64 x], rfl, Nat.le_refl _, heap_alloc_new w _, Nat.le_refl _, by decide, rfl, rfl⟩⟩
  have h2 := h.alloc (.cells #[.int .i64 x] 3)
  have fin : ∀ (v' : Value) (w' : World), w'.ownsRow w.heap.size 3 1 v' (1 + m) (.int .i64 x :: xs.map (Value.int .i64)) → (w.alloc (.cells #[.int .i64 x] 3)).grownBy w' (some w.heap.size) →
      ∃ A' c', v' = .slice A' (m + 1) c' ∧ m + 1 ≤ c' ∧ PathX w' A' (x :: xs) ∧ Below w.heap.size w w' := by
    intro v' w' ho hg
    have hb : Below w.heap.size w w' := ((Below.refl _ _).alloc (Nat.le_refl _) _).grown hg (by simp) (fun k e => by cases e; omega)
    rcases ho.2 with ⟨_, h0⟩ | ⟨g, cap, cur, rfl, hgb, hgc, hn, hmx, hcs, htk⟩
    · omega
    · refine ⟨some ⟨g, 0, none⟩, cap, by rw [Nat.add_comm], by omega, fun _ => ⟨g, 0, rfl, fun i u hu => ?_⟩, hb⟩
      rw [List.map_cons, ← htk] at hu
      have hu2 : cur[i]? = some u := by
        rw [List.getElem?_take] at hu
        split at hu
        · simpa using hu
        · cases hu
      have hB : Blk w' g cur := ⟨3, hgc⟩
      rw [Nat.zero_add]
      exact hB.at_ hu2
  have hcells : ∀ (ad : Addr), A = some ad → ∀ j u, (xs.map (Value.int .i64))[j]? = some u → (w.alloc (.cells #[.int .i64 x] 3)).cell? (ad.add j) = some u := by
    intro ad e j u hu
    have hj : j < xs.length := by have := (List.getElem?_eq_some_iff.1 hu).1; simpa using this
    obtain ⟨b, off, e2, hc⟩ := h2 (by omega)
    rw [e2] at e
    cases e
    have := hc j u hu
    rwa [← Go.WideShapes.add_plain] at this
  rcases A with _ | ad
  · have hz : m = 0 := by
      rcases Nat.eq_zero_or_pos m with h0 | h0
      · exact h0
      · obtain ⟨b, off, e, _⟩ := h2 (by omega); cases e
    subst hz
    have hx : xs = [] := List.eq_nil_of_length_eq_zero h1
    subst hx
    obtain ⟨A', c', hv, hcc, hp, hb⟩ := fin _ _ hown (World.grownBy.refl _ _)
    refine ⟨A', c', _, ?_, hcc, hp, hb⟩
    rw [← hv]
    have hgc := heap_alloc_new w (.cells #[.int .i64 x] 3)
    simp [Builtin.append_, run_underlying Tryz.underlying66, sizeOf, typeInfo, hi, Builtin.lenOf, Builtin.firstCells, storeCells]
  · obtain ⟨v', w', hrun, ho, hg, _, hat⟩ := run_append_own_at (P := Tryz.prog) (w.alloc (.cells #[.int .i64 x] 3)) w.heap.size 66 ty 3 i0 _ 1 8 Tryz.underlying66 hi hz0 hz1 hz2 rfl (by omega) _ 1 _ hown ad m c (xs.map (Value.int .i64)) (by simp [h1]) (hcells ad rfl) (by
      intro u hu
      obtain ⟨z, _, rfl⟩ := List.mem_map.1 hu
      rfl) (by simp only [maxLen]; omega) (by omega) (by simp)
    obtain ⟨A', c', rfl, hcc, hp, hb⟩ := fin v' w' (by simpa using ho) hg
    exact ⟨A', c', w', hrun, hcc, hp, hb⟩
theorem wpList_append_pathX {w : World} {A : Option Addr} {xs : List Int} {m c : Nat} (h : PathX w A xs) (h1 : xs.length = m) (hm : m ≤ 1000) (x : Int)
    {ops : Array Oper} {rest : List Oper} {o : Oper} {a : Act} {Q : Exit → Act → World → Prop} (hgd : o.guard = none) (s t : Operand)
    (ho : o.op = .call { callee := .builtin .append, args := #[s, t], argTypes := #[66, 66] }) (hs : a.eval s = .slice (some ⟨w.heap.size, 0, none⟩) 1 1) (hx : a.eval t = .slice A m c)
    (hk : ∀ A' c' w', m + 1 ≤ c' → PathX w' A' (x :: xs) → Below w.heap.size w w' → wpList Tryz.prog ops Q rest (a.put o.dst (.slice A' (m + 1) c')) w') :
    wpList Tryz.prog ops Q (o :: rest) a (w.alloc (.cells #[.int .i64 x] 3)) := by
  refine wpList_plain hgd fun K hK => ?_
  obtain ⟨A', c', w', hrun, h0, h2, h3⟩ := run_append_pathX (c := c) h h1 hm x o.type
  unfold Oper.wp execOp
  simp only [ho, resolve, invoke, builtin, Sem.run_bind, Sem.run_pure, Result.andThen_ok, List.map_toArray, List.map_cons, List.map_nil, hs, hx, hrun]
  exact hK _ _ (hk A' c' w' h0 h2 h3)
/-- a way, or none -/
def WayPost (o : Option (List Int)) (d : Nat) (w : World) (e : Ending) (w' : World) : Prop :=
  ∃ A m c, e = .returned (.tuple #[.slice A m c, .bool o.isSome]) ∧ m ≤ d ∧ m ≤ c ∧ (∀ p, o = some p → m = p.length ∧ PathX w' A p) ∧ Below w.heap.size w w'
theorem WayPost.some_ {p : List Int} {d : Nat} {w : World} {e : Ending} {w' : World} (h : WayPost (some p) d w e w') :
    ∃ A m c, e = .returned (.tuple #[.slice A m c, .bool true]) ∧ m ≤ d ∧ m ≤ c ∧ m = p.length ∧ PathX w' A p ∧ Below w.heap.size w w' := by
  obtain ⟨A, m, c, he, h1, h2, h3, h4⟩ := h
  exact ⟨A, m, c, he, h1, h2, (h3 p rfl).1, (h3 p rfl).2, h4⟩
theorem WayPost.none_ {d : Nat} {w : World} {e : Ending} {w' : World} (h : WayPost none d w e w') :
    ∃ A m c, e = .returned (.tuple #[.slice A m c, .bool false]) ∧ Below w.heap.size w w' := by
  obtain ⟨A, m, c, he, h1, h2, h3, h4⟩ := h
  exact ⟨A, m, c, he, h4⟩
theorem outP_no : (∀ t, (outP t = none ↔ nrm t = true)) ∧ (∀ (ts : List Tm) (i : Int), (outPs i ts = none ↔ nrms ts = true)) := by
  refine Tm.ind2 (fun k n ks ih => ?_) (fun i => ?_) (fun t ts h1 h2 i => ?_)
  · rw [outP, nrm]
    split
    · rename_i h
      rw [ih 0, h]; simp
    · rename_i h
      simp [h]
  · simp [outPs, nrms]
  · rw [outPs, nrms, Bool.and_eq_true, ← h1, ← h2 (i + 1)]
    cases outP t <;> simp
theorem outPs_first {ks : List Tm} {p : List Int} : ∀ {j : Nat} {i : Int}, (∀ t, t ∈ ks.take j → nrm t = true) → (hj : j < ks.length) → outP ks[j] = some p → outPs i ks = some ((i + j) :: p) := by
  induction ks with
  | nil => intro j i _ hj; exact absurd hj (Nat.not_lt_zero _)
  | cons t ts ih =>
    intro j i hall hj hp
    cases j with
    | zero => rw [outPs]; simp at hp; rw [hp]; simp
    | succ j =>
      have h0 : outP t = none := (outP_no.1 t).2 (hall t (by simp))
      rw [outPs, h0]
      have := ih (j := j) (i := i + 1) (fun u hu => hall u (by simp [hu])) (by simpa using hj) (by simpa using hp)
      rw [this]
      simp; omega
set_option maxRecDepth 100000 in
set_option maxHeartbeats 2000000 in
theorem outX_any (N : Nat) : ∀ (d : Nat) (k n : Int) (ks : List Tm) (A : Option Addr) (c : Nat) (w : World), d ≤ 30 → sizes ks < N → shape d (.mk k n ks) = true → sizes ks ≤ 1099511627775 → Rd w A 0 ks →
    Calls Tryz.prog 16 #[.agg #[.int .i64 k, .int .i64 n, .slice A ks.length c]] w (WayPost (outP (.mk k n ks)) d w) := by
  induction N with
  | zero => intro d k n ks A c w _ hN; exact absurd hN (Nat.not_lt_zero _)
  | succ N ih =>
  intro d k n ks A c w hd hN hsh hM hr
  have hlen := length_le_sizes ks
  obtain ⟨d, rfl⟩ : ∃ d', d = d' + 1 := by cases d with | zero => simp [shape] at hsh | succ d => exact ⟨d, rfl⟩
  obtain ⟨ha, hm1, hm2, hkids⟩ := (shape_split d k n ks).1 hsh
  have hkids := hide hkids
  have ha' := hide ha
  clear ha hm1 hm2 hsh
  by_cases hrd : rdx k ks = 0
  · have hz : outP (.mk k n ks) = outPs 0 ks := by rw [outP, if_pos hrd]
    rw [hz]
    have hrd' := hide hrd
    clear hz
    generalize hoo : outPs 0 ks = oo
    have hoo' := hide hoo
    clear hoo
    go_enter Tryz.func16, Tryz.ntmps16
    go_wp2_with (go_at_call 41; refine (iRedex_any k n ks A c _ (by omega) ha'.out (hr.alloc _)).mono ?_; rw [hrd]; rintro e w1 ⟨rfl, hb1⟩; have hB1 := (Blk.new_ w 25 #[.int .i64 k, .int .i64 n, .slice A ks.length c] rfl).keep hb1; obtain ⟨p10, p11, p12⟩ := hB1.three; replace hb1 := ((Below.refl _ _).alloc (Nat.le_refl _) _).trans (hb1.mono (by simp)))
    go_loopw [14] (fun i wr => ∃ j : Nat, j ≤ ks.length ∧ i = .int .i64 j ∧ Hid (∀ t, t ∈ ks.take j → nrm t = true) ∧ Below w.heap.size w wr)
      (fun i _ => ks.length - (intOf i).toNat)
    case atStart => exact ⟨0, Nat.zero_le _, rfl, hide (by simp), hb1⟩
    case round =>
      obtain ⟨j, hj, rfl, hall, hb⟩ := hrel
      by_cases hlt : j < ks.length
      · obtain ⟨b, off, k1, n1, ks1, A1, c1, rfl, hkj, hc1, hc2, hc3, hl1, hr1⟩ := (hr.below hb).at_ hlt
        have hsz := sizes_le (List.getElem_mem hlt)
        have hs1 := hkids.out _ (List.getElem_mem hlt)
        rw [hkj] at hsz hs1
        simp only [Tm.size] at hsz
        have H3 := hide hkj
        have H4 := hide hs1
        clear hkj hs1
        cases ho1 : outP (.mk k1 n1 ks1) with
        | none =>
          have hn1 : nrm (.mk k1 n1 ks1) = true := (outP_no.1 _).1 ho1
          have hn1' := hide hn1
          have ho1' := hide ho1
          clear ho1 hn1
          go_wp2_with (go_at_call 16; refine (ih d k1 n1 ks1 A1 c1 _ (by omega) (by omega) H4.out (by omega) (hr1.alloc _)).mono ?_; rw [ho1'.out]; intro e w3 hp; obtain ⟨A3, m3, c3, rfl, hb3⟩ := hp.none_; replace hb3 := ((Below.refl _ _).alloc (Nat.le_refl _) _).trans (hb3.mono (by simp)))
          go_roundw
          case rel => exact ⟨j + 1, hlt, by go_num, hide (all_take hlt hall.out (by rw [H3.out]; exact hn1'.out)), hb.trans (hb3.mono hb.size)⟩
          case measure => simp [intOf]; omega
        | some p1 =>
          have ho1' := hide ho1
          clear ho1
          go_wp2_with (first | (go_at_call 16; refine (ih d k1 n1 ks1 A1 c1 _ (by omega) (by omega) H4.out (by omega) (hr1.alloc _)).mono ?_; rw [ho1'.out]; intro e w3 hp; obtain ⟨A3, m3, c3, rfl, hm3, hc3', hm3e, hp3, hb3⟩ := hp.some_; have hm3e' := hide hm3e.symm; clear hm3e; replace hb3 := ((Below.refl _ _).alloc (Nat.le_refl _) _).trans (hb3.mono (by simp))) | (at_builtin; refine wpList_append_pathX hp3 hm3e'.out (by omega) _ rfl _ _ rfl rfl rfl ?_; intro A4 c4 w4 hcc4 hp4 hb4))
          go_ret2
          have hfin := outPs_first (i := 0) hall.out hlt (by rw [H3.out]; exact ho1'.out)
          rw [hoo'.out] at hfin
          refine ⟨A4, m3 + 1, c4, by rw [hfin]; rfl, by omega, hcc4, ?_, hb.trans ((hb3.trans (hb4.mono hb3.size)).mono hb.size)⟩
          intro p hp
          rw [hfin] at hp
          injection hp with hp
          subst hp
          refine ⟨by rw [List.length_cons, hm3e'.out], by simpa using hp4⟩
      · have hje : j = ks.length := by omega
        go_wp2_with fail
        go_ret2
        have ha := hall.out
        rw [hje, List.take_length] at ha
        have h2 : oo = none := by rw [← hoo'.out]; exact (outP_no.2 ks 0).2 ((nrms_iff ks).2 ha)
        refine ⟨none, 0, 0, by rw [h2]; rfl, by omega, Nat.le_refl _, fun p hp => (by rw [h2] at hp; cases hp), hb⟩
  · have hne : (rdx k ks != 0) = true := by simpa using hrd
    have hz : outP (.mk k n ks) = some [] := by rw [outP, if_neg hrd]
    rw [hz]
    have H := hide hrd
    clear hrd hz
    go_enter Tryz.func16, Tryz.ntmps16
    go_wp2_with (go_at_call 41; refine (iRedex_any k n ks A c _ (by omega) ha'.out (hr.alloc _)).mono ?_; rintro e w1 ⟨rfl, hb1⟩; replace hb1 := ((Below.refl _ _).alloc (Nat.le_refl _) _).trans (hb1.mono (by simp)))
    go_ret2
    exact ⟨none, 0, 0, rfl, by omega, Nat.le_refl _, fun p hp => (by injection hp with hp; subst hp; exact ⟨rfl, PathX.nil⟩), hb1⟩
open Go.RowKit
open Go.RowKit
section
variable {P : Program} {ops : Array Oper} {Q : Exit → Act → World → Prop} {S : World → Prop} {need : Nat → Bool}
theorem mid_out {K : Act → World → Prop} {a : Act} {w : World} (h : Mid S K Q .normal a w) : S w ∧ K a w := by unfold Mid at h; exact h
theorem mid_else {K : Act → World → Prop} {e : Exit} {a : Act} {w : World} (he : e ≠ .normal) (h : Mid S K Q e a w) : Q e a w := by
  unfold Mid at h
  cases e <;> first | exact absurd rfl he | exact h
/-- so many operations in any order, behind each of them S; then B -/
def wpAnyA (P : Program) (ops : Array Oper) (Q : Exit → Act → World → Prop) (S : World → Prop) (B : List Nat) : Nat → Array Bool → Act → World → Prop
  | 0, l, a, w => simR ops B l = true ∧ wpList P ops Q (sel ops B) a w
  | n + 1, l, a, w => Region.ready .any ops l ≠ [] ∧ ∀ i ∈ Region.ready .any ops l, ∀ o, ops[i]? = some o → wpList P ops (Mid S (wpAnyA P ops Q S B n (l.setIfInBounds i true)) Q) [o] a w
end
attribute [irreducible] wpAnyA
open Go.RowKit
section
variable {P : Program} {ops : Array Oper} {Q : Exit → Act → World → Prop} {S : World → Prop} {B : List Nat}
/-- what is left of the region: f operations and more, in whatever order; S behind each that is not of B -/
def gC (P : Program) (ops : Array Oper) (Q : Exit → Act → World → Prop) (S : World → Prop) (B : List Nat) (f : Nat) (l : Array Bool) (a : Act) (w : World) : Prop :=
  Closed ops l → wpAnyN P ops Q S (fun j => !B.contains j) f l a w
theorem gC_start {id : Nat} {a : Act} {w : World} (S : World → Prop) (B : List Nat) (f : Nat) (hm : P.follows .mixedOrders = true) (hf : ops.size = f) (h : gC P ops Q S B f (Array.replicate f false) a w.drew) : (Code.region id ops true).wp P Q a w := by
  subst hf
  exact wp_region_any hm (wpAny_of_N (S := S) (need := fun j => !B.contains j) _ _ _ _ (h Closed.start))
theorem gC_take {l l' : Array Bool} {a : Act} {w : World} {f F : Nat} (T : List Nat) {lT : List Oper} (hS : S w) (hF : F = T.length + f) (hsel : Region.noSelect ops = true) (hl : simT ops T l = some l') (hpre : (B.all fun j => T.all fun i => pre ops ops.size j i) = true) (hT : sel ops T = lT)
    (hQ : ∀ c (a : Act) d v w, Q (.panic c) (a.put d v) w → Q (.panic c) a w)
    (h : wpTakeY P ops S (fun a' => gC P ops Q S B f l' a' w) lT a) : gC P ops Q S B F l a w := by
  subst hT hF
  intro hcl
  refine takesY_ok hsel hQ hS T _ _ l' a (fun i hi listed hcl hr j hj hne => ?_) hcl hl h
  rw [Bool.not_eq_true', List.contains_eq_mem, decide_eq_false_iff_not]
  intro hjB
  have h1 := List.all_eq_true.1 (List.all_eq_true.1 hpre j hjB) i hi
  have h2 := hcl.ready hj h1
  have h3 := (mem_ready.1 hr).1
  rcases Nat.lt_or_ge i listed.size with h' | h'
  · simp [h'] at h2 h3; rw [h3] at h2; cases h2
  · simp [Array.getElem?_eq_none h'] at h2
theorem wpAnyN_firstT {need : Nat → Bool} {i : Nat} {oi : Oper} {v : Value} (hi : ops[i]? = some oi) (hsel : ∀ (j : Nat) (o : Oper) cs b, ops[j]? = some o → o.op ≠ .select cs b)
    (hQ : ∀ c a w, Q (.panic c) (a.put oi.dst v) w → Q (.panic c) a w) (hni : need i = false) :
    ∀ (fuel : Nat) (listed : Array Bool) (a : Act) (w : World), Closed ops listed →
      (∀ j oj, ops[j]? = some oj → j ≠ i → listed.getD j true = false → (∀ e ∈ oj.after, Region.binds .any e = true → e.on ≠ i) → oi.apart ops oj = true) →
      i ∈ Region.ready .any ops listed → YIf P ops (fun _ => True) oi v a →
      wpAnyN P ops Q S need fuel (listed.setIfInBounds i true) (a.put oi.dst v) w → wpAnyN P ops Q S need (fuel + 1) listed a w := by
  intro fuel
  induction fuel with
  | zero =>
    intro listed a w hcl _ hr hy H
    refine ⟨fun h => (by rw [h] at hr; cases hr), fun j hj => ?_⟩
    by_cases hji : j = i
    · subst hji; exact hy.wpOp hi trivial ⟨fun h => (by rw [hni] at h; cases h), H⟩
    · have := ready_mono hj hji
      rw [H.1] at this
      cases this
  | succ fuel ih =>
    intro listed a w hcl hfree hr hy H
    refine ⟨fun h => (by rw [h] at hr; cases hr), fun j hj => ?_⟩
    by_cases hji : j = i
    · subst hji; exact hy.wpOp hi trivial ⟨fun h => (by rw [hni] at h; cases h), H⟩
    · have h1 := H.2 j (ready_mono hj hji)
      obtain ⟨hjun, oj, hoj, hall⟩ := mem_ready.1 hj
      have hnot : ∀ e ∈ oj.after, Region.binds .any e = true → e.on ≠ i := fun e he hb heq => by
        have h1 := hall e he hb
        have h0 := (mem_ready.1 hr).1
        rw [heq] at h1
        rcases Nat.lt_or_ge i listed.size with h' | h'
        · simp [h'] at h0 h1; rw [h0] at h1; cases h1
        · simp [Array.getElem?_eq_none h'] at h1
      have h2 := wpOp_putY hoj (hfree j oj hoj hji hjun hnot) (fun cs b => hsel i oi cs b hi) (fun cs b => hsel j oj cs b hoj) hQ hy h1
      have hfree' : ∀ k ok, ops[k]? = some ok → k ≠ i → (listed.setIfInBounds j true).getD k true = false →
          (∀ e ∈ ok.after, Region.binds .any e = true → e.on ≠ i) → oi.apart ops ok = true := fun k ok hk hki hun hno => by
        refine hfree k ok hk hki ?_ hno
        by_cases hjk : j = k
        · subst hjk; exact hjun
        · rw [getD_set_ne true hjk] at hun; exact hun
      refine wpOp_mono (fun a' w' h3 => ⟨h3.2.1, ih (listed.setIfInBounds j true) a' w' (hcl.step hj) hfree' (ready_mono hr (Ne.symm hji)) h3.1 ?_⟩) h2
      rw [Array.setIfInBounds_comm _ _ hji]
      exact h3.2.2
theorem takesT_ok {need : Nat → Bool} (hsel : Region.noSelect ops = true) (hQ : ∀ c (a : Act) d v w, Q (.panic c) (a.put d v) w → Q (.panic c) a w) {w : World} : ∀ (T : List Nat) (fuel : Nat) (listed l' : Array Bool) (a : Act),
    (∀ i, i ∈ T → need i = false) →
    Closed ops listed → simT ops T listed = some l' → wpTakeY P ops (fun _ => True) (fun a' => Closed ops l' → wpAnyN P ops Q S need fuel l' a' w) (sel ops T) a → wpAnyN P ops Q S need (T.length + fuel) listed a w := by
  intro T
  induction T with
  | nil =>
    intro fuel listed l' a _ hcl hs h
    simp only [simT, Option.some.injEq] at hs
    subst hs
    rw [List.length_nil, Nat.zero_add]
    rw [sel, List.filterMap_nil, wpTakeY] at h
    exact h hcl
  | cons i T ih =>
    intro fuel listed l' a hn hcl hs h
    rw [simT] at hs
    split at hs
    case isFalse => cases hs
    rename_i hc
    rw [Bool.and_eq_true] at hc
    have hm : i ∈ Region.ready .any ops listed := by simpa using hc.1
    obtain ⟨_, o, ho, _⟩ := mem_ready.1 hm
    rw [sel_cons ho, wpTakeY] at h
    rw [List.length_cons, Nat.add_right_comm]
    split at h
    · rename_i hw
      obtain ⟨v, hv, hnext⟩ := h
      exact wpAnyN_firstT ho (Region.noSelect_spec hsel) (fun c a w hh => hQ c a _ _ w hh) (hn i (by simp)) _ _ _ _ hcl (Region.free_spec ho hc.2) hm (hv.yif hw)
        (ih _ _ _ _ (fun k hk => hn k (by simp [hk])) (hcl.step hm) hs hnext)
    · rename_i hw
      exact wpAnyN_firstT ho (Region.noSelect_spec hsel) (fun c a w hh => hQ c a _ _ w hh) (hn i (by simp)) _ _ _ _ hcl (Region.free_spec ho hc.2) hm (.inr (.inl ⟨by simpa using hw, rfl⟩))
        (ih _ _ _ _ (fun k hk => hn k (by simp [hk])) (hcl.step hm) hs h)
/-- operations of B that read no memory, taken as soon as they come up -/
theorem gC_takeT {l l' : Array Bool} {a : Act} {w : World} {f F : Nat} (T : List Nat) {lT : List Oper} (hF : F = T.length + f) (hsel : Region.noSelect ops = true) (hl : simT ops T l = some l') (hTB : (T.all fun i => B.contains i) = true) (hT : sel ops T = lT)
    (hQ : ∀ c (a : Act) d v w, Q (.panic c) (a.put d v) w → Q (.panic c) a w)
    (h : wpTakeY P ops (fun _ => True) (fun a' => gC P ops Q S B f l' a' w) lT a) : gC P ops Q S B F l a w := by
  subst hT hF
  intro hcl
  exact takesT_ok hsel hQ T _ _ l' a (fun i hi => by have := List.all_eq_true.1 hTB i hi; simpa using this) hcl hl h
theorem gC_any {l : Array Bool} {a : Act} {w : World} {f : Nat} (hne : Region.ready .any ops l ≠ [])
    (h : ∀ i ∈ Region.ready .any ops l, ∀ o, ops[i]? = some o → wpList P ops (Mid S (gC P ops Q S B f (l.setIfInBounds i true)) Q) [o] a w) : gC P ops Q S B (f + 1) l a w := by
  intro hcl
  refine ⟨fun h0 => absurd h0 hne, fun i hi => ?_⟩
  obtain ⟨_, o, ho, _⟩ := mem_ready.1 hi
  exact wpOp_of_list ho (fun a w hh => ⟨fun _ => (mid_out hh).1, (mid_out hh).2 (hcl.step hi)⟩) (fun e a w he hh => mid_else he hh) (h i hi o ho)
theorem gC_one {i : Nat} {l : Array Bool} {a : Act} {w : World} {f : Nat} {o : Oper} (hr : Region.ready .any ops l = [i]) (ho : ops[i]? = some o)
    (h : wpList P ops (Mid S (gC P ops Q S B f (l.setIfInBounds i true)) Q) [o] a w) : gC P ops Q S B (f + 1) l a w := by
  refine gC_any (by rw [hr]; simp) fun i' hi o' ho' => ?_
  rw [hr] at hi
  obtain rfl : i' = i := by simpa using hi
  rw [ho] at ho'
  injection ho' with ho'
  subst ho'
  exact h
theorem gC_two {i j : Nat} {l : Array Bool} {a : Act} {w : World} {f : Nat} {o o2 : Oper} (hr : Region.ready .any ops l = [i, j]) (ho : ops[i]? = some o) (ho2 : ops[j]? = some o2)
    (h : wpList P ops (Mid S (gC P ops Q S B f (l.setIfInBounds i true)) Q) [o] a w) (h2 : wpList P ops (Mid S (gC P ops Q S B f (l.setIfInBounds j true)) Q) [o2] a w) : gC P ops Q S B (f + 1) l a w := by
  refine gC_any (by rw [hr]; simp) fun i' hi o' ho' => ?_
  rw [hr] at hi
  simp only [List.mem_cons, List.not_mem_nil, or_false] at hi
  rcases hi with rfl | rfl
  · rw [ho] at ho'
    injection ho' with ho'
    subst ho'
    exact h
  · rw [ho2] at ho'
    injection ho' with ho'
    subst ho'
    exact h2
theorem gC_end {l : Array Bool} {a : Act} {w : World} {f : Nat} (R : List Nat) {lB : List Oper} (hf : R.length ≤ f) (hRB : (R.all fun j => B.contains j) = true) (hk : simR ops R l = true) (hB : sel ops R = lB) (h : wpList P ops Q lB a w) : gC P ops Q S B f l a w := by
  subst hB
  intro _
  exact rest_ok (S := S) (fun j hj => by have := List.all_eq_true.1 hRB j hj; simpa using this) [] f l a w (by simpa using hf) hk (by rw [sel, List.filterMap_nil, wpThen]; exact h)
end
attribute [irreducible] gC
open Go.RowKit
theorem name_midw {S : World → Prop} {K : Act → World → Prop} {Q : Exit → Act → World → Prop} {a : Act} {w : World} (h : ∀ wx, wx = w → Mid S K Q .normal a wx) : Mid S K Q .normal a w := h w rfl
set_option maxRecDepth 100000 in
theorem inode_any (k : Int) (v : Value) (hv : ∃ A l c, v = .slice A l c) (w : World) : Calls Tryz.prog 101 #[.int .i64 k, v] w fun e w' => e = .returned (.agg #[.int .i64 k, .int .i64 0, v]) ∧ Below w.heap.size w w' := by
  obtain ⟨A, l, c, rfl⟩ := hv
  go_enter Tryz.func101, Tryz.ntmps101
  go_wp2
  refine bodyPost_ret (v := .agg #[.int .i64 k, .int .i64 0, .slice A l c]) (by simp [results, Tryz.results101, go_sem]) rfl ⟨rfl, ?_⟩
  exact (Below.refl _ _).alloc (Nat.le_refl _) _
end Go.Proofs.YtodkpgkefjegnaaGreatDoor
