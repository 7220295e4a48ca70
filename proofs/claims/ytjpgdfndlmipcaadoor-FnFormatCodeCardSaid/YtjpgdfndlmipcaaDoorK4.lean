/-
  Texts of this claim, merged: contracts of the functions that the law reaches. No condition.
-/
import Derived.Test.YtjpgdfndlmipcaaDoorK2
import Derived.Test.YtjpgdfndlmipcaaDoorK3
import Derived.Deep.RegionHeld3
import Derived.Deep.DeepCutAuto
import Derived.Laws.OwnMore
import Derived.Lib.ItoaNum
import Derived.Outline

namespace Go.Proofs.YtjpgdfndlmipcaaDoor
open Go.RowKit
set_option linter.unusedSimpArgs false
set_option linter.unusedVariables false

def NB : Nat → Nat | 0 => 10 | d + 1 => 4 * NB d
theorem nb_ge (d : Nat) : 10 ≤ NB d := by
  induction d with
  | zero => simp [NB]
  | succ d ih => rw [NB]; omega
def NatD (B : Nat) (w : World) (r p s : Nat) (e : Ending) (w' : World) : Prop :=
  ∃ (k n : Int) (ks : List Tm) (A : Option Addr) (c p' : Nat), e = .returned (.agg #[.int .i64 k, .int .i64 n, .slice A ks.length c]) ∧ ks.length ≤ 9223372036854775807 ∧ sizes ks + 1 ≤ s ∧ p' ≤ p + s ∧ RdP (fun b => w.heap.size ≤ b) w' A 0 ks ∧ Rdr B w' r p' ∧ w.grownBy w' (some r)
def NatO (k : Nat) : Prop := ∀ (B r p : Nat) (n d : Int) (w : World), d ≤ k → -5 ≤ d → 0 ≤ n → n + 2 * k ≤ 20 → p + NB k ≤ 900000000 → B ≤ w.heap.size → Rdr B w r p →
  Calls Tryd.prog 26 #[.pointer (some ⟨r, 0, none⟩), .int .i64 n, .int .i64 d] w (NatD B w r p (NB k))

theorem rdx_cons {p : Nat → Prop} {w : World} {k n : Int} {ks : List Tm} {A : Option Addr} {c : Nat} {ts : List Tm} {ys : List Value} (hl : ks.length ≤ 9223372036854775807) (hr : RdP p w A 0 ks) (hx : RdX p w ts ys) : RdX p w (.mk k n ks :: ts) (.int .i64 k :: .int .i64 n :: .slice A ks.length c :: ys) := ⟨A, c, ys, rfl, hl, hr, hx⟩
theorem rdx_nil {p : Nat → Prop} {w : World} : RdX p w [] [] := rfl
theorem rdp_lt2 {p : Nat → Prop} {w : World} : (∀ t b off i, RdPC p w b off i t → RdPC (fun b => p b ∧ b < w.heap.size) w b off i t) ∧ (∀ ks A i, RdP p w A i ks → RdP (fun b => p b ∧ b < w.heap.size) w A i ks) := by
  refine Tm.ind2 (fun k n ks ih b off i hh => ?_) (fun _ _ _ => RdP.nil) (fun t ts h1 h2 A i hh => ?_)
  · rw [RdPC.iff] at hh ⊢
    obtain ⟨h0, h1, h2, A, c, h3, h4, h5⟩ := hh
    exact ⟨⟨h0, World.block_lt_of_cell? _ _ h1⟩, h1, h2, A, c, h3, h4, ih _ _ h5⟩
  · rw [RdP.cons_iff] at hh ⊢
    obtain ⟨⟨b, off, hA, hc⟩, hr⟩ := hh
    exact ⟨⟨b, off, hA, h1 _ _ _ hc⟩, h2 _ _ hr⟩
theorem RdX.lt_ {p : Nat → Prop} {w : World} : ∀ {ts : List Tm} {xs : List Value}, RdX p w ts xs → RdX (fun b => p b ∧ b < w.heap.size) w ts xs
  | [], xs, h => h
  | .mk k n ks :: ts, xs, h => by
    obtain ⟨A, c, ys, rfl, hl, hr, hx⟩ := h
    exact ⟨A, c, ys, rfl, hl, rdp_lt2.2 _ _ _ hr, hx.lt_⟩
/-- a node whose parts lie above a block -/
theorem node_q {L : Nat} {w : World} {us : List Tm} {x1 : List Value} (k : Int) (hL : L < w.heap.size) (ht : RdX (fun b => L < b) w us x1) (hlen : us.length ≤ 1099511627776) (g c : Nat) (hb : Blk w g x1.toArray) :
    Calls Tryd.prog 44 #[.int .i64 k, .slice (some ⟨g, 0, none⟩) us.length c] w fun e w' => ∃ A c, e = .returned (.agg #[.int .i64 k, .int .i64 0, .slice A us.length c]) ∧ us.length ≤ 9223372036854775807 ∧ RdP (fun b => L < b) w' A 0 us ∧ Below w.heap.size w w' := by
  refine (l1NodeR_any k ht.lt_ (fun b hb => hb.2) hlen g c hb).mono ?_
  rintro e w' ⟨A, c', rfl, h1, h2, h3⟩
  exact ⟨A, c', rfl, h1, h2.mono (fun b hb => hb.elim (fun h => h.1) (fun h => by omega)), h3⟩

/-- what holds of the worlds on the way -/
structure StN (B r p g8 : Nat) (w0 w : World) : Prop where
  rd : Rdr B w r p
  gr : w0.grownBy w (some r)
  hZ : Blk w w0.heap.size #[.int .i64 0, .int .i64 0, .slice none 0 0]
  h8 : Blk w g8 #[.int .i64 6, .int .i64 0, .slice none 0 0]
  hB : B ≤ w0.heap.size
  hg : w0.heap.size < g8
section
variable {B r p p' g8 : Nat} {w0 w w' : World}
theorem StN.size (h : StN B r p g8 w0 w) : w0.heap.size < w.heap.size ∧ g8 < w.heap.size ∧ B ≤ w.heap.size ∧ r < w0.heap.size := ⟨h.hZ.lt, h.h8.lt, by have := h.hZ.lt; have := h.hB; omega, by have := h.rd.lt; have := h.hB; omega⟩
theorem StN.drew (h : StN B r p g8 w0 w) : StN B r p g8 w0 w.drew := ⟨h.rd.drew, only_drew h.gr, h.hZ.drew, h.h8.drew, h.hB, h.hg⟩
theorem StN.alloc (h : StN B r p g8 w0 w) (o : Obj) : StN B r p g8 w0 (w.alloc o) := ⟨h.rd.alloc h.size.2.2.1 o, only_alloc h.gr o, h.hZ.alloc o, h.h8.alloc o, h.hB, h.hg⟩
theorem StN.below (h : StN B r p g8 w0 w) (hb : Below w.heap.size w w') : StN B r p g8 w0 w' := ⟨h.rd.below hb h.size.2.2.1, only_below h.gr hb, h.hZ.keep hb, h.h8.keep hb, h.hB, h.hg⟩
theorem StN.grown (h : StN B r p g8 w0 w) (hr : Rdr B w' r p') (hg : w.grownBy w' (some r)) : StN B r p' g8 w0 w' :=
  ⟨hr, grown_trans h.gr hg, h.hZ.grown hg (by have := h.size; simp; omega), h.h8.grown hg (by have := h.size; have := h.hg; simp; omega), h.hB, h.hg⟩
theorem StN.set (h : StN B r p g8 w0 w) {g o : Nat} (hg : w0.heap.size < g) (hg8 : g8 ≠ g) (u : Value) : StN B r p g8 w0 (w.setCell ⟨g, o, none⟩ u) :=
  ⟨h.rd.setCell (by have := h.hB; simp; omega) u, only_setCell h.gr (.inr (by simp; omega)) u, h.hZ.far (by simp; omega) u, h.h8.far hg8 u, h.hB, h.hg⟩
theorem StN.p_eq (h : StN B r p g8 w0 w) (e : p = p') : StN B r p' g8 w0 w := e ▸ h
/-- the term that is answered -/
theorem StN.done {k n : Int} {ks : List Tm} {A : Option Addr} {s : Nat} (h : StN B r p' g8 w0 w) (hp : p' ≤ p + s) (hs : sizes ks + 1 ≤ s) (hl : ks.length ≤ 9223372036854775807) (hk : RdP (fun b => w0.heap.size < b) w A 0 ks) (x y z : Value) (c : Nat) :
    NatD B w0 r p s (.returned (.agg #[.int .i64 k, .int .i64 n, .slice A ks.length c])) (((w.setCell ⟨w0.heap.size, 0, none⟩ x).setCell ⟨w0.heap.size, 1, none⟩ y).setCell ⟨w0.heap.size, 2, none⟩ z) := by
  have hB := h.hB
  refine ⟨k, n, ks, A, c, p', rfl, hl, hs, hp, ?_, ?_, ?_⟩
  · exact (((hk.setCell (by simp) _).setCell (by simp) _).setCell (by simp) _).mono (fun b hb => by omega)
  · exact ((h.rd.setCell (by simp; omega) _).setCell (by simp; omega) _).setCell (by simp; omega) _
  · exact only_setCell (only_setCell (only_setCell h.gr (.inr (by simp)) _) (.inr (by simp)) _) (.inr (by simp)) _
end
theorem RdP.grownL {L r : Nat} {w w' : World} {A : Option Addr} {ks : List Tm} (h : RdP (fun b => L < b) w A 0 ks) (hg : w.grownBy w' (some r)) (hr : r ≤ L) : RdP (fun b => L < b) w' A 0 ks := h.grown hg (fun b hb e => by injection e with e; omega)
theorem name_callsN {P : Program} {f : FuncId} {args : Array Value} {w : World} {Q : Ending → World → Prop} (h : ∀ wx, wx = w → Calls P f args wx Q) : Calls P f args w Q := h w rfl
theorem far3n {w : World} {b o g : Nat} {v x y z : Value} (h : w.cell? ⟨b, o, none⟩ = some v) (hb : b ≠ g) : (((w.setCell ⟨g, 0, none⟩ x).setCell ⟨g, 1, none⟩ y).setCell ⟨g, 2, none⟩ z).cell? ⟨b, o, none⟩ = some v := by
  have e : (((w.setCell ⟨g, 0, none⟩ x).setCell ⟨g, 1, none⟩ y).setCell ⟨g, 2, none⟩ z).heap[b]? = w.heap[b]? :=
    (Below.heap_setCell _ ⟨g, 2, none⟩ _ b hb).trans ((Below.heap_setCell _ ⟨g, 1, none⟩ _ b hb).trans (Below.heap_setCell _ ⟨g, 0, none⟩ _ b hb))
  rw [← h]
  simp only [World.cell?, e]
set_option maxHeartbeats 8000000 in
set_option maxRecDepth 100000 in
theorem nat_step (k : Nat) (hk : k ≤ 3) (ih : NatO k) (B r p : Nat) (n d : Int) (w : World) (hd : 1 ≤ d) (hdk : d ≤ k + 1) (hn : 0 ≤ n) (hnk : n + 2 * k ≤ 18) (hp : p + NB (k + 1) ≤ 900000000) (hB : B ≤ w.heap.size) (hr : Rdr B w r p) :
    Calls Tryd.prog 26 #[.pointer (some ⟨r, 0, none⟩), .int .i64 n, .int .i64 d] w (NatD B w r p (NB (k + 1))) := by
  have ihx : ∀ (B r p : Nat) (n d : Int) (w : World), d ≤ k → -5 ≤ d → 0 ≤ n → n + 2 * k ≤ 20 → p + NB k ≤ 900000000 → B ≤ w.heap.size → Rdr B w r p → Calls Tryd.prog 26 #[.pointer (some ⟨r, 0, none⟩), .int .i64 n, .int .i64 d] w (NatD B w r p (NB k)) := ih
  clear ih
  have hrl := hr.lt
  have hnb := nb_ge k
  have hnbe : NB (k + 1) = 4 * NB k := rfl
  have hnb4 := hide hnbe
  rw [hnbe] at hp
  clear hnbe
  have hd1 : ¬ (d < 1) := by omega
  have k1 : IntKind.i64.wrap (d - 1) = d - 1 := IntWalk.i64_in _ (by omega)
  have k2 : IntKind.i64.wrap (d - 2) = d - 2 := IntWalk.i64_in _ (by omega)
  have k3 : wrap64 (d - 1) = d - 1 := IntWalk.wrap64_in _ (by omega)
  have k4 : wrap64 (d - 2) = d - 2 := IntWalk.wrap64_in _ (by omega)
  have k5 : IntKind.i64.wrap (n + 1) = n + 1 := IntWalk.i64_in _ (by omega)
  have k6 : IntKind.i64.wrap (n + 2) = n + 2 := IntWalk.i64_in _ (by omega)
  have k7 : wrap64 (n + 1) = n + 1 := IntWalk.wrap64_in _ (by omega)
  have k8 : wrap64 (n + 2) = n + 2 := IntWalk.wrap64_in _ (by omega)
  go_enter Tryd.func26, Tryd.ntmps26
  go_wp2_with (first
    | (go_at_call 43; have _t := tokA; refine (sLeaf_any _ _ _).mono ?_; rintro e w2 ⟨rfl, hb2⟩; have hr2 := (hr1.alloc (by omega) (.cells #[.int .i64 7, .int .i64 0, .slice none 0 0] 48)).below hb2 (by simp; omega); have hZ2 := (hZ1.alloc (.cells #[.int .i64 7, .int .i64 0, .slice none 0 0] 48)).keep hb2; have g2 := only_below (only_alloc g1 (.cells #[.int .i64 7, .int .i64 0, .slice none 0 0] 48)) hb2; have s2 : w1.heap.size + 1 ≤ w2.heap.size := (by have := hb2.size; simpa using this))
    | (go_at_call 43; refine (sLeaf_any _ _ _).mono ?_; rintro e w1 ⟨rfl, hb1⟩; have hr1 := (hr.alloc (by omega) (.cells #[.int .i64 0, .int .i64 0, .slice none 0 0] 48)).below hb1 (by simp; omega); have hZ1 := (Blk.new_ w 48 #[.int .i64 0, .int .i64 0, .slice none 0 0] rfl).keep hb1; have g1 : w.grownBy w1 (some r) := only_below (only_alloc (World.grownBy.refl _ _) _) hb1; have s1 : w.heap.size + 1 ≤ w1.heap.size := (by have := hb1.size; simpa using this); have tokA := trivial))
  refine (pick_any B r p 7 _ (by omega) (by omega) (by simp; omega) (hr2.alloc (by omega) _)).mono ?_
  rintro e w3 ⟨m, rfl, hm, hm0, hr3, hg3⟩
  have hS := (StN.mk (g8 := w2.heap.size) (hr2.alloc (by omega) _) (only_alloc g2 _) (hZ2.alloc _) (Blk.new_ w2 48 #[.int .i64 6, .int .i64 0, .slice none 0 0] rfl) hB (by omega)).grown hr3 hg3
  have hm' : m < 7 := by have := hm (by omega); omega
  obtain ⟨g8, hg8⟩ : ∃ g8, g8 = w2.heap.size := ⟨_, rfl⟩
  rw [← hg8] at hS ⊢
  clear hm hm0 hg3 hr3 hg8 hr2 hZ2 g2 s2 hb2 hb1 hr1 hZ1 g1 s1
  obtain ⟨d0, d1, d2⟩ := hS.hZ.three
  have e0 := hS.hZ.frozen 0
  have e1 := hS.hZ.frozen 1
  have e2 := hS.hZ.frozen 2
  obtain ⟨x0, x1, x2⟩ := hS.h8.three
  by_cases m0 : m = 0
  · subst m0
    have r0 := hS.h8.ruleG (g := r) (by have := hS.size; have := hS.hg; omega) (i := 0) rfl
    have r1 := hS.h8.ruleG (g := r) (by have := hS.size; have := hS.hg; omega) (i := 1) rfl
    have r2 := hS.h8.ruleG (g := r) (by have := hS.size; have := hS.hg; omega) (i := 2) rfl
    go_wp2_with fail
    refine wp_region_firstY (fun w' => w3.grownBy w' (some r)) [0, 1, 2, 3, 4, 5, 9, 10, 11, 12] [6, 7, 8, 13, 14, 15] [16] [_, _, _, _, _, _, _, _, _, _] [_, _, _, _, _, _] [_] (by kernel_rfl) (by kernel_rfl) rfl rfl rfl (fun _ _ d _ _ h => by cases d <;> exact h) (only_drew (World.grownBy.refl _ _)) ?_
    repeat (first | ((refine takeY_skip (a' := ?_) ?_ ?_ ?_); (rotate_left); (· (simp [Region.wanted, yielded]; done)); (· (simp only [List.getElem_toArray, List.getElem_cons_zero, List.getElem_cons_succ, Act.put, List.setIfInBounds_toArray, List.set_cons_zero, List.set_cons_succ]; exact rfl))) | ((refine takeY_step (v := ?_) (a' := ?_) ?_ ?_ ?_ ?_); (rotate_left 2); (· (simp [Region.wanted, yielded]; done)); (· (intro w' hS'; go_simp; try (with_reducible rfl))); (· (simp only [List.getElem_toArray, List.getElem_cons_zero, List.getElem_cons_succ, Act.put, List.setIfInBounds_toArray, List.set_cons_zero, List.set_cons_succ]; exact rfl))))
    refine takeY_nil (then_cons ?_)
    go_wp2_with (go_at_call 26; refine (ihx B r (p + 1) (n + 1) (d - 1) _ (by omega) (by omega) (by omega) (by omega) (by omega) hS.drew.size.2.2.1 hS.drew.rd).mono ?_; rintro e w4 ⟨k4', n4', ks4, A4, c4, p4, rfl, hl4, hs4, hp4, hk4, hr4, hg4⟩; have hS4 := hS.drew.grown hr4 hg4; replace hk4 := hk4.mono (q := fun b => w.heap.size < b) (fun b hb => Nat.lt_of_lt_of_le hS.drew.size.1 hb); clear hr4)
    have G4 : w3.grownBy w4 (some r) := grown_trans (only_drew (World.grownBy.refl _ _)) hg4
    refine mid_intro G4 (then_cons ?_)
    go_wp2_with fail
    refine mid_intro (only_alloc G4 _) (then_cons ?_)
    go_wp2_with (go_at_call 44; refine (node_q (L := w.heap.size) (us := [.mk 6 0 [], .mk k4' n4' ks4]) 4 (hS4.alloc _).size.1 (rdx_cons (by simp) RdP.nil (rdx_cons hl4 (hk4.alloc _) rfl)) (by simp) _ 2 (Blk.new_ _ 48 _ rfl)).mono ?_; rintro e w5 ⟨A5, c5, rfl, hl5, hk5, hb5⟩; have hS5 := (hS4.alloc _).below hb5; have lk5 := hl5)
    have G5 : w3.grownBy w5 (some r) := only_below (only_alloc G4 _) hb5
    refine mid_intro G5 (then_cons ?_)
    go_wp2_with (go_at_call 26; refine (ihx B r p4 n (d - 1) _ (by omega) (by omega) (by omega) (by omega) (by omega) hS5.size.2.2.1 hS5.rd).mono ?_; rintro e w6 ⟨k6', n6', ks6, A6, c6, p6, rfl, hl6, hs6, hp6, hk6, hr6, hg6⟩; have hS6 := hS5.grown hr6 hg6; replace hk6 := hk6.mono (q := fun b => w.heap.size < b) (fun b hb => Nat.lt_of_lt_of_le hS5.size.1 hb); replace hk5 := hk5.grownL hg6 (Nat.le_of_lt hS5.size.2.2.2); clear hr6)
    have G6 : w3.grownBy w6 (some r) := grown_trans G5 hg6
    refine mid_intro G6 (then_cons ?_)
    go_wp2_with fail
    refine mid_intro (only_alloc G6 _) (then_cons ?_)
    go_wp2_with (go_at_call 44; refine (node_q (L := w.heap.size) (us := [.mk 4 0 [.mk 6 0 [], .mk k4' n4' ks4], .mk k6' n6' ks6]) 5 (hS6.alloc _).size.1 (rdx_cons (by simp) (hk5.alloc _) (rdx_cons hl6 (hk6.alloc _) rfl)) (by simp) _ 2 (Blk.new_ _ 48 _ rfl)).mono ?_; rintro e w7 ⟨A7, c7, rfl, hl7, hk7, hb7⟩; have hS7 := (hS6.alloc _).below hb7; have lk7 := hl7)
    have G7 : w3.grownBy w7 (some r) := only_below (only_alloc G6 _) hb7
    refine mid_intro G7 (then_nil ?_)
    clear d0 d1 d2 e0 e1 e2
    obtain ⟨d0, d1, d2⟩ := hS7.hZ.three
    have e0 := hS7.hZ.frozen 0
    have e1 := hS7.hZ.frozen 1
    have e2 := hS7.hZ.frozen 2
    go_wp2_with fail
    refine bodyPost_ret (v := .agg #[.int .i64 5, .int .i64 0, .slice A7 2 c7]) (by simp [results, Tryd.results26, go_sem, d0, d1, d2]) rfl (hS7.done (ks := [.mk 4 0 [.mk 6 0 [], .mk k4' n4' ks4], .mk k6' n6' ks6]) (by rw [hnb4.out]; omega) (by rw [hnb4.out]; simp only [sizes, Tm.size]; omega) (by simp) hk7 _ _ _ c7)
  have q0 : ((m : Int) == 0) = false := beq_eq_false_iff_ne.2 (by omega)
  by_cases m1 : m = 1
  · subst m1
    go_wp2_with fail
    go_cut [9] (fun s9 wx => ∃ (g9 : Nat) (A6 : Option Addr) (c6 p4 : Nat) (tt : Tm), s9 = .pointer (some ⟨g9, 0, none⟩) ∧ Blk wx g9 #[.int .i64 4, .int .i64 0, .slice A6 2 c6] ∧ RdP (fun b => w.heap.size < b) wx A6 0 [.mk 6 0 [], .mk 4 0 [.mk 6 0 [], tt]] ∧ tt.size ≤ NB k ∧ StN B r p4 g8 w wx ∧ p4 ≤ p + 1 + NB k ∧ g9 ≠ r)
    case first =>
      have lS := hS.size
      have lWd : w3.drew.heap.size = w3.heap.size := rfl
      have lS' := hS.hg
      go_region_held3 (fun w' => w'.cell? ⟨g8, 0, none⟩ = some (.int .i64 6) ∧ w'.cell? ⟨g8, 1, none⟩ = some (.int .i64 0) ∧ w'.cell? ⟨g8, 2, none⟩ = some (.slice none 0 0)) (((try dsimp only); (first | with_reducible exact ⟨x0, x1, x2⟩ | with_reducible exact ⟨u0, u1, u2⟩ | with_reducible exact ⟨v0, v1, v2⟩ | with_reducible exact ⟨t0, t1, t2⟩ | ((with_reducible refine ⟨far3n t0 ?_, far3n t1 ?_, far3n t2 ?_⟩) <;> omega) | ((with_reducible refine ⟨far3n (Keeps.alloc _ _ _ _ t0) ?_, far3n (Keeps.alloc _ _ _ _ t1) ?_, far3n (Keeps.alloc _ _ _ _ t2) ?_⟩) <;> omega) | with_reducible exact ⟨Keeps.alloc _ _ _ _ x0, Keeps.alloc _ _ _ _ x1, Keeps.alloc _ _ _ _ x2⟩ | with_reducible exact ⟨Keeps.alloc _ _ _ _ u0, Keeps.alloc _ _ _ _ u1, Keeps.alloc _ _ _ _ u2⟩ | with_reducible exact ⟨Keeps.alloc _ _ _ _ v0, Keeps.alloc _ _ _ _ v1, Keeps.alloc _ _ _ _ v2⟩ | with_reducible exact ⟨Keeps.alloc _ _ _ _ t0, Keeps.alloc _ _ _ _ t1, Keeps.alloc _ _ _ _ t2⟩ | with_reducible exact ⟨Keeps.alloc _ _ _ _ (Keeps.alloc _ _ _ _ x0), Keeps.alloc _ _ _ _ (Keeps.alloc _ _ _ _ x1), Keeps.alloc _ _ _ _ (Keeps.alloc _ _ _ _ x2)⟩ | with_reducible exact ⟨Keeps.alloc _ _ _ _ (Keeps.alloc _ _ _ _ u0), Keeps.alloc _ _ _ _ (Keeps.alloc _ _ _ _ u1), Keeps.alloc _ _ _ _ (Keeps.alloc _ _ _ _ u2)⟩ | with_reducible exact ⟨Keeps.alloc _ _ _ _ (Keeps.alloc _ _ _ _ v0), Keeps.alloc _ _ _ _ (Keeps.alloc _ _ _ _ v1), Keeps.alloc _ _ _ _ (Keeps.alloc _ _ _ _ v2)⟩ | with_reducible exact ⟨Keeps.alloc _ _ _ _ (Keeps.alloc _ _ _ _ t0), Keeps.alloc _ _ _ _ (Keeps.alloc _ _ _ _ t1), Keeps.alloc _ _ _ _ (Keeps.alloc _ _ _ _ t2)⟩ | go_keep))) (first
        | (go_at_call 44; have _t := tk2; refine name_callsN ?_; intro wx6 hwx; have hSx : StN B r p4 g8 w wx6 := (by rw [hwx]; with_reducible (repeat (first | exact hS5 | refine StN.alloc ?_ _ | refine StN.drew ?_))); have hkx : RdP (fun b => ((wx4.heap.size ≤ b ∧ b < w4.heap.size) ∨ wx5.heap.size ≤ b) ∧ b < w5.heap.size) wx6 A5 0 [.mk 6 0 [], .mk k4' n4' ks4] := (by rw [hwx]; with_reducible (repeat (first | exact hk5 | refine RdP.alloc ?_ _ | refine RdP.drew ?_))); have sx6 := congrArg (fun w : World => w.heap.size) hwx; (try simp [lWd] at sx6); (first | (refine (fun (hQx : Blk wx6 (w3.heap.size) #[.int .i64 0, .int .i64 0, .slice none 0 0]) => ?_) ?_; rotate_left; (rw [hwx]; ((repeat (first | with_reducible exact hQ | ((with_reducible refine Blk.new_ _ 48 _ ?_); (first | rfl | (simp [lWd] <;> fail))) | (with_reducible refine Blk.drew ?_) | (with_reducible refine Blk.alloc ?_ _))) <;> fail))) | (refine (fun (hQx : Blk wx6 (w4.heap.size) #[.int .i64 0, .int .i64 0, .slice none 0 0]) => ?_) ?_; rotate_left; (rw [hwx]; ((repeat (first | with_reducible exact hQ | ((with_reducible refine Blk.new_ _ 48 _ ?_); (first | rfl | (simp [lWd] <;> fail))) | (with_reducible refine Blk.drew ?_) | (with_reducible refine Blk.alloc ?_ _))) <;> fail))) | (refine (fun (hQx : Blk wx6 (w4.heap.size + 1) #[.int .i64 0, .int .i64 0, .slice none 0 0]) => ?_) ?_; rotate_left; (rw [hwx]; ((repeat (first | with_reducible exact hQ | ((with_reducible refine Blk.new_ _ 48 _ ?_); (first | rfl | (simp [lWd] <;> fail))) | (with_reducible refine Blk.drew ?_) | (with_reducible refine Blk.alloc ?_ _))) <;> fail))) | (refine (fun (hQx : Blk wx6 (w5.heap.size) #[.int .i64 0, .int .i64 0, .slice none 0 0]) => ?_) ?_; rotate_left; (rw [hwx]; ((repeat (first | with_reducible exact hQ | ((with_reducible refine Blk.new_ _ 48 _ ?_); (first | rfl | (simp [lWd] <;> fail))) | (with_reducible refine Blk.drew ?_) | (with_reducible refine Blk.alloc ?_ _))) <;> fail))) | (refine (fun (hQx : Blk wx6 (w5.heap.size + 1) #[.int .i64 0, .int .i64 0, .slice none 0 0]) => ?_) ?_; rotate_left; (rw [hwx]; ((repeat (first | with_reducible exact hQ | ((with_reducible refine Blk.new_ _ 48 _ ?_); (first | rfl | (simp [lWd] <;> fail))) | (with_reducible refine Blk.drew ?_) | (with_reducible refine Blk.alloc ?_ _))) <;> fail))) | skip); refine (l1NodeR_any (p := (fun b => ((wx4.heap.size ≤ b ∧ b < w4.heap.size) ∨ wx5.heap.size ≤ b) ∧ b < w5.heap.size)) (us := [.mk 6 0 [], .mk 4 0 [.mk 6 0 [], .mk k4' n4' ks4]]) 4 (rdx_cons (by simp) RdP.nil (rdx_cons (by first | exact hl5 | simp) hkx rfl)) (fun b hb => by omega) (by simp) _ 2 (by rw [hwx]; first | exact Blk.new_ _ 48 _ rfl | exact Blk.new_ _ 48 _ (by simp) | exact (Blk.new_ _ 48 _ rfl).alloc _)).mono ?_; clear hwx; rintro e w6 ⟨A6, c6, rfl, hl6, hk6, hb6⟩; replace hk6 : RdP (fun b => ((((wx4.heap.size ≤ b ∧ b < w4.heap.size) ∨ wx5.heap.size ≤ b) ∧ b < w5.heap.size) ∨ wx6.heap.size ≤ b) ∧ b < w6.heap.size) w6 A6 0 [.mk 6 0 [], .mk 4 0 [.mk 6 0 [], .mk k4' n4' ks4]] := rdp_lt2.2 _ _ _ hk6; have hS6 := hSx.below hb6; (try clear hQ); (try (have hQ := hQx.keep hb6)); (try clear hQx); (try (obtain ⟨q0, q1, q2⟩ := hQ.three)); (try (have z0 := hQ.frozen 0)); (try (have z1 := hQ.frozen 1)); (try (have z2 := hQ.frozen 2)); (try (have lq := hQ.lt)); clear hSx hkx; obtain ⟨t0, t1, t2⟩ := hS6.h8.three; have l6 := hS6.size; have y6 := hb6.size; have tk3 := trivial)
        | (go_at_call 44; have _t := tk1; refine name_callsN ?_; intro wx5 hwx; have hSx : StN B r p4 g8 w wx5 := (by rw [hwx]; with_reducible (repeat (first | exact hS4 | refine StN.alloc ?_ _ | refine StN.drew ?_))); have hkx : RdP (fun b => wx4.heap.size ≤ b ∧ b < w4.heap.size) wx5 A4 0 ks4 := (by rw [hwx]; with_reducible (repeat (first | exact hk4 | refine RdP.alloc ?_ _ | refine RdP.drew ?_))); have sx5 := congrArg (fun w : World => w.heap.size) hwx; (try simp [lWd] at sx5); (first | (refine (fun (hQx : Blk wx5 (w3.heap.size) #[.int .i64 0, .int .i64 0, .slice none 0 0]) => ?_) ?_; rotate_left; (rw [hwx]; ((repeat (first | with_reducible exact hQ | ((with_reducible refine Blk.new_ _ 48 _ ?_); (first | rfl | (simp [lWd] <;> fail))) | (with_reducible refine Blk.drew ?_) | (with_reducible refine Blk.alloc ?_ _))) <;> fail))) | (refine (fun (hQx : Blk wx5 (w4.heap.size) #[.int .i64 0, .int .i64 0, .slice none 0 0]) => ?_) ?_; rotate_left; (rw [hwx]; ((repeat (first | with_reducible exact hQ | ((with_reducible refine Blk.new_ _ 48 _ ?_); (first | rfl | (simp [lWd] <;> fail))) | (with_reducible refine Blk.drew ?_) | (with_reducible refine Blk.alloc ?_ _))) <;> fail))) | (refine (fun (hQx : Blk wx5 (w4.heap.size + 1) #[.int .i64 0, .int .i64 0, .slice none 0 0]) => ?_) ?_; rotate_left; (rw [hwx]; ((repeat (first | with_reducible exact hQ | ((with_reducible refine Blk.new_ _ 48 _ ?_); (first | rfl | (simp [lWd] <;> fail))) | (with_reducible refine Blk.drew ?_) | (with_reducible refine Blk.alloc ?_ _))) <;> fail))) | skip); refine (l1NodeR_any (p := (fun b => wx4.heap.size ≤ b ∧ b < w4.heap.size)) (us := [.mk 6 0 [], .mk k4' n4' ks4]) 4 (rdx_cons (by simp) RdP.nil (rdx_cons (by first | exact hl4 | simp) hkx rfl)) (fun b hb => by omega) (by simp) _ 2 (by rw [hwx]; first | exact Blk.new_ _ 48 _ rfl | exact Blk.new_ _ 48 _ (by simp) | exact (Blk.new_ _ 48 _ rfl).alloc _)).mono ?_; clear hwx; rintro e w5 ⟨A5, c5, rfl, hl5, hk5, hb5⟩; replace hk5 : RdP (fun b => ((wx4.heap.size ≤ b ∧ b < w4.heap.size) ∨ wx5.heap.size ≤ b) ∧ b < w5.heap.size) w5 A5 0 [.mk 6 0 [], .mk k4' n4' ks4] := rdp_lt2.2 _ _ _ hk5; have hS5 := hSx.below hb5; (try clear hQ); (try (have hQ := hQx.keep hb5)); (try clear hQx); (try (obtain ⟨q0, q1, q2⟩ := hQ.three)); (try (have z0 := hQ.frozen 0)); (try (have z1 := hQ.frozen 1)); (try (have z2 := hQ.frozen 2)); (try (have lq := hQ.lt)); clear hSx hkx; obtain ⟨v0, v1, v2⟩ := hS5.h8.three; have l5 := hS5.size; have y5 := hb5.size; have tk2 := trivial)
        | (go_at_call 26; refine name_callsN ?_; intro wx4 hwx; have hSx : StN B r (p + 1) g8 w wx4 := (by rw [hwx]; with_reducible (repeat (first | exact hS | refine StN.alloc ?_ _ | refine StN.drew ?_))); have sx4 := congrArg (fun w : World => w.heap.size) hwx; (try simp [lWd] at sx4); (first | (refine (fun (hQx : Blk wx4 (w3.heap.size) #[.int .i64 0, .int .i64 0, .slice none 0 0]) => ?_) ?_; rotate_left; (rw [hwx]; ((repeat (first | ((with_reducible refine Blk.new_ _ 48 _ ?_); (first | rfl | (simp [lWd] <;> fail))) | (with_reducible refine Blk.drew ?_) | (with_reducible refine Blk.alloc ?_ _))) <;> fail))) | skip); refine (ihx B r (p + 1) (n + 2) (d - 2) _ (by omega) (by omega) (by omega) (by omega) (by omega) hSx.size.2.2.1 hSx.rd).mono ?_; clear hwx; rintro e w4 ⟨k4', n4', ks4, A4, c4, p4, rfl, hl4, hs4, hp4, hk4, hr4, hg4⟩; have hS4 := hSx.grown hr4 hg4; replace hk4 : RdP (fun b => wx4.heap.size ≤ b ∧ b < w4.heap.size) w4 A4 0 ks4 := rdp_lt2.2 _ _ _ hk4; (try (have hQ := hQx.grown hg4 (by simp; omega))); (try clear hQx); (try (obtain ⟨q0, q1, q2⟩ := hQ.three)); (try (have z0 := hQ.frozen 0)); (try (have z1 := hQ.frozen 1)); (try (have z2 := hQ.frozen 2)); (try (have lq := hQ.lt)); clear hr4 hSx; obtain ⟨u0, u1, u2⟩ := hS4.h8.three; have l4 := hS4.size; have y4 := hg4.size; have tk1 := trivial))
      all_goals
        go_wp2_with fail
        go_meet
        exact ⟨_, A6, c6, p4, .mk k4' n4' ks4, rfl, (by first | exact ((hQ.set_ 0 _).set_ 1 _).set_ 2 _ | exact Blk.new_ _ 48 _ rfl), (by first | exact (hk6.alloc _).mono (fun b hb => by omega) | exact (((hk6.setCell (by simp; omega) _).setCell (by simp; omega) _).setCell (by simp; omega) _).mono (fun b hb => by omega)), by simp only [Tm.size]; omega, (by first | exact hS6.alloc _ | exact ((hS6.set (by omega) (by omega) _).set (by omega) (by omega) _).set (by omega) (by omega) _), by omega, by omega⟩
    case rest =>
      obtain ⟨g9, A6, c6, p4, tt, rfl, hT, hk6, htt, hSc, hp4, hne9⟩ := hcut
      clear x0 x1 x2 d0 d1 d2 e0 e1 e2
      have lS := hSc.size
      have lS' := hSc.hg
      have lg9 : g9 ≠ r := hne9
      have r0 := hSc.h8.ruleG (g := r) (by omega) (i := 0) rfl
      have r1 := hSc.h8.ruleG (g := r) (by omega) (i := 1) rfl
      have r2 := hSc.h8.ruleG (g := r) (by omega) (i := 2) rfl
      have y0 := hT.ruleG (g := r) lg9 (i := 0) rfl
      have y1 := hT.ruleG (g := r) lg9 (i := 1) rfl
      have y2 := hT.ruleG (g := r) lg9 (i := 2) rfl
      go_wp2_with fail
      refine wp_region_firstY (fun w' => wc.grownBy w' (some r)) [0, 1, 4, 5, 6, 7, 9, 10, 11, 12, 13] [2, 3, 8, 14, 15, 16] [17] [_, _, _, _, _, _, _, _, _, _, _] [_, _, _, _, _, _] [_] (by kernel_rfl) (by kernel_rfl) rfl rfl rfl (fun _ _ d _ _ h => by cases d <;> exact h) (only_drew (World.grownBy.refl _ _)) ?_
      repeat (first | ((refine takeY_skip (a' := ?_) ?_ ?_ ?_); (rotate_left); (· (simp [Region.wanted, yielded]; done)); (· (simp only [List.getElem_toArray, List.getElem_cons_zero, List.getElem_cons_succ, Act.put, List.setIfInBounds_toArray, List.set_cons_zero, List.set_cons_succ]; exact rfl))) | ((refine takeY_step (v := ?_) (a' := ?_) ?_ ?_ ?_ ?_); (rotate_left 2); (· (simp [Region.wanted, yielded]; done)); (· (intro w' hS'; go_simp; try (with_reducible rfl))); (· (simp only [List.getElem_toArray, List.getElem_cons_zero, List.getElem_cons_succ, Act.put, List.setIfInBounds_toArray, List.set_cons_zero, List.set_cons_succ]; exact rfl))))
      refine takeY_nil (then_cons ?_)
      go_wp2_with fail
      refine mid_intro (only_alloc (only_drew (World.grownBy.refl _ _)) _) (then_cons ?_)
      go_wp2_with (go_at_call 44; refine (node_q (L := w.heap.size) (us := [.mk 6 0 [], .mk 6 0 []]) 4 (hSc.drew.alloc _).size.1 (rdx_cons (by simp) RdP.nil (rdx_cons (by simp) RdP.nil rfl)) (by simp) _ 2 (Blk.new_ _ 48 _ rfl)).mono ?_; rintro e w7 ⟨A7, c7, rfl, hl7, hk7, hb7⟩; have hS7 := (hSc.drew.alloc _).below hb7; have lk7 := hl7; replace hk6 := (hk6.drew.alloc _).below hb7)
      have G7 : wc.grownBy w7 (some r) := only_below (only_alloc (only_drew (World.grownBy.refl _ _)) _) hb7
      refine mid_intro G7 (then_cons ?_)
      go_wp2_with (go_at_call 26; refine (ihx B r p4 n (d - 2) _ (by omega) (by omega) (by omega) (by omega) (by omega) hS7.size.2.2.1 hS7.rd).mono ?_; rintro e w8 ⟨k8', n8', ks8, A8, c8, p8, rfl, hl8, hs8, hp8, hk8, hr8, hg8⟩; have hS8 := hS7.grown hr8 hg8; replace hk8 := hk8.mono (q := fun b => w.heap.size < b) (fun b hb => Nat.lt_of_lt_of_le hS7.size.1 hb); replace hk6 := hk6.grownL hg8 (Nat.le_of_lt hS7.size.2.2.2); replace hk7 := hk7.grownL hg8 (Nat.le_of_lt hS7.size.2.2.2); clear hr8)
      have G8 : wc.grownBy w8 (some r) := grown_trans G7 hg8
      refine mid_intro G8 (then_cons ?_)
      go_wp2_with (go_at_call 26; refine (ihx B r p8 n (d - 1) _ (by omega) (by omega) (by omega) (by omega) (by omega) hS8.size.2.2.1 hS8.rd).mono ?_; rintro e w9 ⟨k9', n9', ks9, A9, c9, p9, rfl, hl9, hs9, hp9, hk9, hr9, hg9⟩; have hS9 := hS8.grown hr9 hg9; replace hk9 := hk9.mono (q := fun b => w.heap.size < b) (fun b hb => Nat.lt_of_lt_of_le hS8.size.1 hb); replace hk6 := hk6.grownL hg9 (Nat.le_of_lt hS8.size.2.2.2); replace hk7 := hk7.grownL hg9 (Nat.le_of_lt hS8.size.2.2.2); replace hk8 := hk8.grownL hg9 (Nat.le_of_lt hS8.size.2.2.2); clear hr9)
      have G9 : wc.grownBy w9 (some r) := grown_trans G8 hg9
      refine mid_intro G9 (then_cons ?_)
      go_wp2_with fail
      refine mid_intro (only_alloc G9 _) (then_cons ?_)
      go_wp2_with (go_at_call 44; refine (node_q (L := w.heap.size) (us := [.mk 4 0 [.mk 6 0 [], .mk 6 0 []], .mk k8' n8' ks8, .mk 4 0 [.mk 6 0 [], .mk 4 0 [.mk 6 0 [], tt]], .mk k9' n9' ks9]) 9 (hS9.alloc _).size.1 (rdx_cons (by simp) (hk7.alloc _) (rdx_cons hl8 (hk8.alloc _) (rdx_cons (by simp) (hk6.alloc _) (rdx_cons hl9 (hk9.alloc _) rfl)))) (by simp) _ 4 (Blk.new_ _ 48 _ rfl)).mono ?_; rintro e w10 ⟨A10, c10, rfl, hl10, hk10, hb10⟩; have hS10 := (hS9.alloc _).below hb10; have lk10 := hl10)
      have G10 : wc.grownBy w10 (some r) := only_below (only_alloc G9 _) hb10
      refine mid_intro G10 (then_nil ?_)
      obtain ⟨d0, d1, d2⟩ := hS10.hZ.three
      have e0 := hS10.hZ.frozen 0
      have e1 := hS10.hZ.frozen 1
      have e2 := hS10.hZ.frozen 2
      go_wp2_with fail
      refine bodyPost_ret (v := .agg #[.int .i64 9, .int .i64 0, .slice A10 4 c10]) (by simp [results, Tryd.results26, go_sem, d0, d1, d2]) rfl (hS10.done (ks := [.mk 4 0 [.mk 6 0 [], .mk 6 0 []], .mk k8' n8' ks8, .mk 4 0 [.mk 6 0 [], .mk 4 0 [.mk 6 0 [], tt]], .mk k9' n9' ks9]) (by rw [hnb4.out]; omega) (by rw [hnb4.out]; simp only [sizes, Tm.size]; omega) (by simp) hk10 _ _ _ c10)
  have q1 : ((m : Int) == 1) = false := beq_eq_false_iff_ne.2 (by omega)
  by_cases m2 : m = 2
  · subst m2
    go_wp2_with (first
      | (go_at_call 44; have _t := tk3; refine (node_q (L := w.heap.size) (us := [.mk 13 0 [.mk 6 0 [], .mk 6 0 []], .mk k5' n5' ks5, .mk k6' n6' ks6]) 14 (hS6.alloc _).size.1 (rdx_cons (by simp) (hk4.alloc _) (rdx_cons hl5 (hk5.alloc _) (rdx_cons hl6 (hk6.alloc _) rfl))) (by simp) _ 3 (Blk.new_ _ 48 _ rfl)).mono ?_; rintro e w7 ⟨A7, c7, rfl, hl7, hk7, hb7⟩; have hS7 := (hS6.alloc _).below hb7; have lk7 := hl7; have tk4 := trivial)
      | (go_at_call 26; have _t := tk2; refine (ihx B r p5 n (d - 2) _ (by omega) (by omega) (by omega) (by omega) (by omega) hS5.size.2.2.1 hS5.rd).mono ?_; rintro e w6 ⟨k6', n6', ks6, A6, c6, p6, rfl, hl6, hs6, hp6, hk6, hr6, hg6⟩; have hS6 := hS5.grown hr6 hg6; replace hk6 := hk6.mono (q := fun b => w.heap.size < b) (fun b hb => Nat.lt_of_lt_of_le hS5.size.1 hb); replace hk4 := hk4.grownL hg6 (Nat.le_of_lt hS5.size.2.2.2); replace hk5 := hk5.grownL hg6 (Nat.le_of_lt hS5.size.2.2.2); clear hr6; have tk3 := trivial)
      | (go_at_call 26; have _t := tk1; refine (ihx B r (p + 1) n (d - 1) _ (by omega) (by omega) (by omega) (by omega) (by omega) hS4.size.2.2.1 hS4.rd).mono ?_; rintro e w5 ⟨k5', n5', ks5, A5, c5, p5, rfl, hl5, hs5, hp5, hk5, hr5, hg5⟩; have hS5 := hS4.grown hr5 hg5; replace hk5 := hk5.mono (q := fun b => w.heap.size < b) (fun b hb => Nat.lt_of_lt_of_le hS4.size.1 hb); replace hk4 := hk4.grownL hg5 (Nat.le_of_lt hS4.size.2.2.2); clear hr5; have tk2 := trivial)
      | (go_at_call 44; refine (node_q (L := w.heap.size) (us := [.mk 6 0 [], .mk 6 0 []]) 13 (hS.alloc _).size.1 (rdx_cons (by simp) RdP.nil (rdx_cons (by simp) RdP.nil rfl)) (by simp) _ 2 (Blk.new_ _ 48 _ rfl)).mono ?_; rintro e w4 ⟨A4, c4, rfl, hl4, hk4, hb4⟩; have hS4 := (hS.alloc _).below hb4; have lk4 := hl4; have tk1 := trivial))
    refine name_world ?_
    intro W hW
    have hSW : StN B r p6 g8 w W := by rw [hW]; exact hS7.alloc _
    have hT : Blk W w7.heap.size #[.int .i64 14, .int .i64 0, .slice A7 3 c7] := by rw [hW]; exact Blk.new_ _ 48 _ rfl
    have hkW : RdP (fun b => w.heap.size < b) W A7 0 [.mk 13 0 [.mk 6 0 [], .mk 6 0 []], .mk k5' n5' ks5, .mk k6' n6' ks6] := by rw [hW]; exact hk7.alloc _
    have l7 : w.heap.size < w7.heap.size := hS7.size.1
    have l7r : r < w.heap.size := hS7.size.2.2.2
    have lW := hSW.size
    have lWr : r < W.heap.size := by omega
    have lWd : W.drew.heap.size = W.heap.size := rfl
    clear hW x0 x1 x2 hS7 hS6 hS5 hS4 hS hk7 hk6 hk5 hk4
    obtain ⟨y0, y1, y2⟩ := hT.three
    go_region_held3 (fun w' => w'.cell? ⟨w7.heap.size, 0, none⟩ = some (.int .i64 14) ∧ w'.cell? ⟨w7.heap.size, 1, none⟩ = some (.int .i64 0) ∧ w'.cell? ⟨w7.heap.size, 2, none⟩ = some (.slice A7 3 c7)) (((try dsimp only); (first | with_reducible exact ⟨y0, y1, y2⟩ | with_reducible exact ⟨z0, z1, z2⟩ | with_reducible exact ⟨v0, v1, v2⟩ | ((with_reducible refine ⟨far3n v0 ?_, far3n v1 ?_, far3n v2 ?_⟩) <;> omega) | ((with_reducible refine ⟨far3n (Keeps.alloc _ _ _ _ v0) ?_, far3n (Keeps.alloc _ _ _ _ v1) ?_, far3n (Keeps.alloc _ _ _ _ v2) ?_⟩) <;> omega) | with_reducible exact ⟨Keeps.alloc _ _ _ _ y0, Keeps.alloc _ _ _ _ y1, Keeps.alloc _ _ _ _ y2⟩ | with_reducible exact ⟨Keeps.alloc _ _ _ _ z0, Keeps.alloc _ _ _ _ z1, Keeps.alloc _ _ _ _ z2⟩ | with_reducible exact ⟨Keeps.alloc _ _ _ _ v0, Keeps.alloc _ _ _ _ v1, Keeps.alloc _ _ _ _ v2⟩ | with_reducible exact ⟨Keeps.alloc _ _ _ _ (Keeps.alloc _ _ _ _ y0), Keeps.alloc _ _ _ _ (Keeps.alloc _ _ _ _ y1), Keeps.alloc _ _ _ _ (Keeps.alloc _ _ _ _ y2)⟩ | with_reducible exact ⟨Keeps.alloc _ _ _ _ (Keeps.alloc _ _ _ _ z0), Keeps.alloc _ _ _ _ (Keeps.alloc _ _ _ _ z1), Keeps.alloc _ _ _ _ (Keeps.alloc _ _ _ _ z2)⟩ | with_reducible exact ⟨Keeps.alloc _ _ _ _ (Keeps.alloc _ _ _ _ v0), Keeps.alloc _ _ _ _ (Keeps.alloc _ _ _ _ v1), Keeps.alloc _ _ _ _ (Keeps.alloc _ _ _ _ v2)⟩ | go_keep))) (first
      | (go_at_call 44; have _t := tk8; refine name_callsN ?_; intro wy hwy; have hSy : StN B r (p6 + 1) g8 w wy := (by rw [hwy]; with_reducible (repeat (first | exact hS8 | refine StN.alloc ?_ _ | refine StN.drew ?_))); have hky : RdP (fun b => w.heap.size < b) wy A7 0 [.mk 13 0 [.mk 6 0 [], .mk 6 0 []], .mk k5' n5' ks5, .mk k6' n6' ks6] := (by rw [hwy]; with_reducible (repeat (first | exact hk8 | refine RdP.alloc ?_ _ | refine RdP.drew ?_))); have hTy : Blk wy w7.heap.size #[.int .i64 14, .int .i64 0, .slice A7 3 c7] := (by rw [hwy]; with_reducible (repeat (first | exact hT8 | refine Blk.alloc ?_ _ | refine Blk.drew ?_))); refine (node_q (L := w.heap.size) (us := [.mk 14 0 [.mk 13 0 [.mk 6 0 [], .mk 6 0 []], .mk k5' n5' ks5, .mk k6' n6' ks6]]) x hSy.size.1 (rdx_cons (by simp) hky rfl) (by simp) _ 1 (by rw [hwy]; first | exact hR | exact Blk.new_ _ 48 _ rfl)).mono ?_; clear hwy; rintro e w9 ⟨A9, c9, rfl, hl9, hk9, hb9⟩; have hS9 := hSy.below hb9; have hT9 := hTy.keep hb9; clear d0 d1 d2 e0 e1 e2; obtain ⟨d0, d1, d2⟩ := hS9.hZ.three; have e0 := hS9.hZ.frozen 0; have e1 := hS9.hZ.frozen 1; have e2 := hS9.hZ.frozen 2; obtain ⟨v0, v1, v2⟩ := hT9.three)
      | (go_at_call 27; refine name_callsN ?_; intro wx hwx; have hSx : StN B r p6 g8 w wx := (by rw [hwx]; with_reducible (repeat (first | exact hSW | refine StN.alloc ?_ _ | refine StN.drew ?_))); have hkx : RdP (fun b => w.heap.size < b) wx A7 0 [.mk 13 0 [.mk 6 0 [], .mk 6 0 []], .mk k5' n5' ks5, .mk k6' n6' ks6] := (by rw [hwx]; with_reducible (repeat (first | exact hkW | refine RdP.alloc ?_ _ | refine RdP.drew ?_))); have hTx : Blk wx w7.heap.size #[.int .i64 14, .int .i64 0, .slice A7 3 c7] := (by rw [hwx]; with_reducible (repeat (first | exact hT | refine Blk.alloc ?_ _ | refine Blk.drew ?_))); have lx := hSx.size; (first | (refine (fun (hRx : Blk wx (W.heap.size) #[.int .i64 14, .int .i64 0, .slice A7 3 c7]) => ?_) ?_; rotate_left; (rw [hwx]; ((repeat (first | ((with_reducible refine Blk.new_ _ 48 _ ?_); (first | rfl | (simp [lWd] <;> fail))) | (with_reducible refine Blk.drew ?_) | (with_reducible refine Blk.alloc ?_ _))) <;> fail))) | (refine (fun (hRx : Blk wx (W.heap.size + 1) #[.int .i64 14, .int .i64 0, .slice A7 3 c7]) => ?_) ?_; rotate_left; (rw [hwx]; ((repeat (first | ((with_reducible refine Blk.new_ _ 48 _ ?_); (first | rfl | (simp [lWd] <;> fail))) | (with_reducible refine Blk.drew ?_) | (with_reducible refine Blk.alloc ?_ _))) <;> fail))) | skip); refine (num_any [15, 16] B r p6 _ _ (by decide) (by decide) (by omega) lx.2.2.1 hSx.rd (by rw [hwx]; show Blk _ _ #[.int .i64 15, .int .i64 16]; ((repeat (first | ((with_reducible refine Blk.new_ _ 3 _ ?_); (first | rfl | (simp [lWd] <;> fail))) | (with_reducible refine Blk.drew ?_) | (with_reducible refine Blk.alloc ?_ _))) <;> fail)) (by omega)).mono ?_; clear hwx; rintro e w8 ⟨x, hx, rfl, hr8, hg8⟩; have hS8 := hSx.grown hr8 hg8; have hk8 := hkx.grownL hg8 (by omega); have hT8 := hTx.grown hg8 (by simp; omega); (try (have hR := hRx.grown hg8 (by simp; omega))); clear hr8 hkx hTx hSx; obtain ⟨z0, z1, z2⟩ := hT8.three; have tk8 := trivial))
    all_goals
      go_wp2_with fail
      refine bodyPost_ret (v := .agg #[.int .i64 x, .int .i64 0, .slice A9 1 c9]) (by simp [results, Tryd.results26, go_sem, d0, d1, d2]) rfl (hS9.done (ks := [.mk 14 0 [.mk 13 0 [.mk 6 0 [], .mk 6 0 []], .mk k5' n5' ks5, .mk k6' n6' ks6]]) (by rw [hnb4.out]; omega) (by rw [hnb4.out]; simp only [sizes, Tm.size]; omega) (by simp) hk9 _ _ _ c9)
  have q2 : ((m : Int) == 2) = false := beq_eq_false_iff_ne.2 (by omega)
  by_cases m3 : m = 3
  · subst m3
    go_wp2_with (first
      | (go_at_call 44; have _t := tk4; refine (node_q (L := w.heap.size) (us := [.mk 4 0 [.mk 6 0 [], .mk 6 0 []], .mk 11 0 [.mk k5' n5' ks5], .mk k7' n7' ks7]) 12 (hS7.alloc _).size.1 (rdx_cons (by simp) (hk4.alloc _) (rdx_cons (by simp) (hk6.alloc _) (rdx_cons hl7 (hk7.alloc _) rfl))) (by simp) _ 3 (Blk.new_ _ 48 _ rfl)).mono ?_; rintro e w8 ⟨A8, c8, rfl, hl8, hk8, hb8⟩; have hS8 := (hS7.alloc _).below hb8; have lk8 := hl8; clear d0 d1 d2 e0 e1 e2; obtain ⟨d0, d1, d2⟩ := hS8.hZ.three; have e0 := hS8.hZ.frozen 0; have e1 := hS8.hZ.frozen 1; have e2 := hS8.hZ.frozen 2)
      | (go_at_call 26; have _t := tk3; refine (ihx B r p5 n (d - 1) _ (by omega) (by omega) (by omega) (by omega) (by omega) hS6.size.2.2.1 hS6.rd).mono ?_; rintro e w7 ⟨k7', n7', ks7, A7, c7, p7, rfl, hl7, hs7, hp7, hk7, hr7, hg7⟩; have hS7 := hS6.grown hr7 hg7; replace hk7 := hk7.mono (q := fun b => w.heap.size < b) (fun b hb => Nat.lt_of_lt_of_le hS6.size.1 hb); replace hk4 := hk4.grownL hg7 (Nat.le_of_lt hS6.size.2.2.2); replace hk6 := hk6.grownL hg7 (Nat.le_of_lt hS6.size.2.2.2); clear hr7; have tk4 := trivial)
      | (go_at_call 44; have _t := tk2; refine (node_q (L := w.heap.size) (us := [.mk k5' n5' ks5]) 11 (hS5.alloc _).size.1 (rdx_cons hl5 (hk5.alloc _) rfl) (by simp) _ 1 (Blk.new_ _ 48 _ rfl)).mono ?_; rintro e w6 ⟨A6, c6, rfl, hl6, hk6, hb6⟩; have hS6 := (hS5.alloc _).below hb6; replace hk4 := (hk4.alloc _).below hb6; have lk6 := hl6; have tk3 := trivial)
      | (go_at_call 26; have _t := tk1; refine (ihx B r (p + 1) n (d - 2) _ (by omega) (by omega) (by omega) (by omega) (by omega) hS4.size.2.2.1 hS4.rd).mono ?_; rintro e w5 ⟨k5', n5', ks5, A5, c5, p5, rfl, hl5, hs5, hp5, hk5, hr5, hg5⟩; have hS5 := hS4.grown hr5 hg5; replace hk5 := hk5.mono (q := fun b => w.heap.size < b) (fun b hb => Nat.lt_of_lt_of_le hS4.size.1 hb); replace hk4 := hk4.grownL hg5 (Nat.le_of_lt hS4.size.2.2.2); clear hr5; have tk2 := trivial)
      | (go_at_call 44; refine (node_q (L := w.heap.size) (us := [.mk 6 0 [], .mk 6 0 []]) 4 (hS.alloc _).size.1 (rdx_cons (by simp) RdP.nil (rdx_cons (by simp) RdP.nil rfl)) (by simp) _ 2 (Blk.new_ _ 48 _ rfl)).mono ?_; rintro e w4 ⟨A4, c4, rfl, hl4, hk4, hb4⟩; have hS4 := (hS.alloc _).below hb4; have lk4 := hl4; have tk1 := trivial))
    refine bodyPost_ret (v := .agg #[.int .i64 12, .int .i64 0, .slice A8 3 c8]) (by simp [results, Tryd.results26, go_sem, d0, d1, d2]) rfl (hS8.done (ks := [.mk 4 0 [.mk 6 0 [], .mk 6 0 []], .mk 11 0 [.mk k5' n5' ks5], .mk k7' n7' ks7]) (by rw [hnb4.out]; omega) (by rw [hnb4.out]; simp only [sizes, Tm.size]; omega) (by simp) hk8 _ _ _ c8)
  have q3 : ((m : Int) == 3) = false := beq_eq_false_iff_ne.2 (by omega)
  by_cases m4 : m = 4
  · subst m4
    go_wp2_with (first
      | (go_at_call 26; refine (ihx B r (p + 1) n 0 _ (by omega) (by omega) (by omega) (by omega) (by omega) hS.size.2.2.1 hS.rd).mono ?_; rintro e w4 ⟨k4', n4', ks4, A4, c4, p4, rfl, hl4, hs4, hp4, hk4, hr4, hg4⟩; have hS4 := hS.grown hr4 hg4; replace hk4 := hk4.mono (q := fun b => w.heap.size < b) (fun b hb => Nat.lt_of_lt_of_le hS.size.1 hb); clear hr4; clear d0 d1 d2 e0 e1 e2; obtain ⟨d0, d1, d2⟩ := hS4.hZ.three; have e0 := hS4.hZ.frozen 0; have e1 := hS4.hZ.frozen 1; have e2 := hS4.hZ.frozen 2))
    refine bodyPost_ret (v := .agg #[.int .i64 k4', .int .i64 n4', .slice A4 ks4.length c4]) (by simp [results, Tryd.results26, go_sem, d0, d1, d2]) rfl (hS4.done (by rw [hnb4.out]; omega) (by rw [hnb4.out]; omega) hl4 hk4 _ _ _ c4)
  have q4 : ((m : Int) == 4) = false := beq_eq_false_iff_ne.2 (by omega)
  go_wp2_with (first
    | (go_at_call 44; have _t := tk1; refine (node_q (L := w.heap.size) (us := [.mk k4' n4' ks4]) 8 (hS4.alloc _).size.1 (rdx_cons hl4 (hk4.alloc _) rfl) (by simp) _ 1 (Blk.new_ _ 48 _ rfl)).mono ?_; rintro e w5 ⟨A5, c5, rfl, hl5, hk5, hb5⟩; have hS5 := (hS4.alloc _).below hb5; have lk5 := hl5; clear d0 d1 d2 e0 e1 e2; obtain ⟨d0, d1, d2⟩ := hS5.hZ.three; have e0 := hS5.hZ.frozen 0; have e1 := hS5.hZ.frozen 1; have e2 := hS5.hZ.frozen 2)
    | (go_at_call 26; refine (ihx B r (p + 1) n (d - 1) _ (by omega) (by omega) (by omega) (by omega) (by omega) hS.size.2.2.1 hS.rd).mono ?_; rintro e w4 ⟨k4', n4', ks4, A4, c4, p4, rfl, hl4, hs4, hp4, hk4, hr4, hg4⟩; have hS4 := hS.grown hr4 hg4; replace hk4 := hk4.mono (q := fun b => w.heap.size < b) (fun b hb => Nat.lt_of_lt_of_le hS.size.1 hb); clear hr4; have tk1 := trivial))
  refine bodyPost_ret (v := .agg #[.int .i64 8, .int .i64 0, .slice A5 1 c5]) (by simp [results, Tryd.results26, go_sem, d0, d1, d2]) rfl (hS5.done (ks := [.mk k4' n4' ks4]) (by rw [hnb4.out]; omega) (by rw [hnb4.out]; simp only [sizes, Tm.size]; omega) (by simp) hk5 _ _ _ c5)
set_option maxHeartbeats 4000000 in
set_option maxRecDepth 100000 in
theorem nat_leaf (B r p : Nat) (n d : Int) (w : World) (hd : d < 1) (hn : 0 ≤ n) (hnk : n ≤ 20) (hp : p ≤ 900000000) (hB : B ≤ w.heap.size) (hr : Rdr B w r p) :
    Calls Tryd.prog 26 #[.pointer (some ⟨r, 0, none⟩), .int .i64 n, .int .i64 d] w (NatD B w r p 10) := by
  have hrl := hr.lt
  by_cases h0 : 0 < n
  · go_enter Tryd.func26, Tryd.ntmps26
    go_wp2_with (first
      | (go_at_call 43; have _t := tokA; refine (sLeaf_any _ _ _).mono ?_; rintro e w2 ⟨rfl, hb2⟩; have hr2 := (hr1.alloc (by omega) (.cells #[.int .i64 7, .int .i64 0, .slice none 0 0] 48)).below hb2 (by simp; omega); have hZ2 := (hZ1.alloc (.cells #[.int .i64 7, .int .i64 0, .slice none 0 0] 48)).keep hb2; have g2 := only_below (only_alloc g1 (.cells #[.int .i64 7, .int .i64 0, .slice none 0 0] 48)) hb2; have s2 : w1.heap.size + 1 ≤ w2.heap.size := (by have := hb2.size; simpa using this))
      | (go_at_call 43; refine (sLeaf_any _ _ _).mono ?_; rintro e w1 ⟨rfl, hb1⟩; have hr1 := (hr.alloc (by omega) (.cells #[.int .i64 0, .int .i64 0, .slice none 0 0] 48)).below hb1 (by simp; omega); have hZ1 := (Blk.new_ w 48 #[.int .i64 0, .int .i64 0, .slice none 0 0] rfl).keep hb1; have g1 : w.grownBy w1 (some r) := only_below (only_alloc (World.grownBy.refl _ _) _) hb1; have s1 : w.heap.size + 1 ≤ w1.heap.size := (by have := hb1.size; simpa using this); have tokA := trivial))
    refine (pick_any B r p 2 _ (by omega) (by omega) (by simp; omega) (hr2.alloc (by omega) _)).mono ?_
    rintro e w3 ⟨m, rfl, hm, hm0, hr3, hg3⟩
    have hS := (StN.mk (g8 := w2.heap.size) (hr2.alloc (by omega) _) (only_alloc g2 _) (hZ2.alloc _) (Blk.new_ w2 48 #[.int .i64 6, .int .i64 0, .slice none 0 0] rfl) hB (by omega)).grown hr3 hg3
    have hN3 : Blk w3 w1.heap.size #[.int .i64 7, .int .i64 0, .slice none 0 0] := (((Blk.new_ w1 48 #[.int .i64 7, .int .i64 0, .slice none 0 0] rfl).keep hb2).alloc _).grown hg3 (by simp; omega)
    obtain ⟨g8, hg8⟩ : ∃ g8, g8 = w2.heap.size := ⟨_, rfl⟩
    rw [← hg8] at hS ⊢
    clear hm hm0 hg3 hr3 hg8 hr2 hZ2 g2 s2 hb2 hb1 hr1 hZ1 g1 s1
    obtain ⟨d0, d1, d2⟩ := hS.hZ.three
    have e0 := hS.hZ.frozen 0
    have e1 := hS.hZ.frozen 1
    have e2 := hS.hZ.frozen 2
    obtain ⟨x0, x1, x2⟩ := hN3.three
    by_cases m0 : m = 0
    · subst m0
      go_wp2_with (first
        | (go_at_call 43; have _t := tk1; refine (sLeaf_any _ _ _).mono ?_; rintro e w5 ⟨rfl, hb5⟩; have hS5 := hS4.below hb5; clear d0 d1 d2 e0 e1 e2; obtain ⟨d0, d1, d2⟩ := hS5.hZ.three; have e0 := hS5.hZ.frozen 0; have e1 := hS5.hZ.frozen 1; have e2 := hS5.hZ.frozen 2)
        | (go_at_call 16; refine (pick_any B r (p + 1) n _ (by omega) (by omega) hS.size.2.2.1 hS.rd).mono ?_; rintro e w4 ⟨m4, rfl, hm4, hm40, hr4, hg4⟩; clear hm4 hm40; have hS4 := hS.grown hr4 hg4; clear hr4; have tk1 := trivial))
      refine bodyPost_ret (v := .agg #[.int .i64 1, .int .i64 m4, .slice none 0 0]) (by simp [results, Tryd.results26, go_sem, d0, d1, d2]) rfl (hS5.done (ks := []) (by omega) (by simp [sizes]) (by simp) RdP.nil _ _ _ 0)
    · have q0 : ((m : Int) == 0) = false := beq_eq_false_iff_ne.2 (by omega)
      go_wp2_with fail
      refine bodyPost_ret (v := .agg #[.int .i64 7, .int .i64 0, .slice none 0 0]) ?_ rfl ?_
      · simp [results, Tryd.results26, go_sem, d0, d1, d2]
      · exact (hS.done (p := p) (s := 10) (ks := []) (by omega) (by simp [sizes]) (by simp) RdP.nil _ _ _ 0)
  · go_enter Tryd.func26, Tryd.ntmps26
    go_wp2_with (first
      | (go_at_call 43; have _t := tokA; refine (sLeaf_any _ _ _).mono ?_; rintro e w2 ⟨rfl, hb2⟩; have hr2 := (hr1.alloc (by omega) (.cells #[.int .i64 7, .int .i64 0, .slice none 0 0] 48)).below hb2 (by simp; omega); have hZ2 := (hZ1.alloc (.cells #[.int .i64 7, .int .i64 0, .slice none 0 0] 48)).keep hb2; have hN2 := (Blk.new_ w1 48 #[.int .i64 7, .int .i64 0, .slice none 0 0] rfl).keep hb2; have g2 := only_below (only_alloc g1 (.cells #[.int .i64 7, .int .i64 0, .slice none 0 0] 48)) hb2; have s2 : w1.heap.size + 1 ≤ w2.heap.size := (by have := hb2.size; simpa using this); have hS := (StN.mk (g8 := w2.heap.size) (hr2.alloc (by omega) (.cells #[.int .i64 6, .int .i64 0, .slice none 0 0] 48)) (only_alloc g2 _) (hZ2.alloc _) (Blk.new_ w2 48 #[.int .i64 6, .int .i64 0, .slice none 0 0] rfl) hB (by omega)); have lz2 := hZ2.lt; have ln2 := hN2.lt; obtain ⟨d0, d1, d2⟩ := hZ2.three; have e0 := hZ2.frozen 0; have e1 := hZ2.frozen 1; have e2 := hZ2.frozen 2; obtain ⟨x0, x1, x2⟩ := hN2.three)
      | (go_at_call 43; refine (sLeaf_any _ _ _).mono ?_; rintro e w1 ⟨rfl, hb1⟩; have hr1 := (hr.alloc (by omega) (.cells #[.int .i64 0, .int .i64 0, .slice none 0 0] 48)).below hb1 (by simp; omega); have hZ1 := (Blk.new_ w 48 #[.int .i64 0, .int .i64 0, .slice none 0 0] rfl).keep hb1; have g1 : w.grownBy w1 (some r) := only_below (only_alloc (World.grownBy.refl _ _) _) hb1; have s1 : w.heap.size + 1 ≤ w1.heap.size := (by have := hb1.size; simpa using this); have tokA := trivial))
    refine bodyPost_ret (v := .agg #[.int .i64 7, .int .i64 0, .slice none 0 0]) ?_ rfl ?_
    · simp [results, Tryd.results26, go_sem, d0, d1, d2, lz2]
    · refine ⟨7, 0, [], none, 0, p, rfl, by simp, by simp [sizes], by omega, RdP.nil, ?_, ?_⟩
      · exact (((hr2.setCell (by simp; omega) _).setCell (by simp; omega) _).setCell (by simp; omega) _).alloc (by simp; omega) _
      · exact only_alloc (only_setCell (only_setCell (only_setCell g2 (.inr (by simp)) _) (.inr (by simp)) _) (.inr (by simp)) _) _

theorem nat_any (k : Nat) (hk : k ≤ 4) : NatO k := by
  induction k with
  | zero =>
    intro B r p n d w hd hd5 hn hnk hp hB hr
    exact nat_leaf B r p n d w (by omega) hn (by omega) (by simp [NB] at hp; omega) hB hr
  | succ k ih =>
    intro B r p n d w hd hd5 hn hnk hp hB hr
    by_cases h1 : 1 ≤ d
    · exact nat_step k (by omega) (ih (by omega)) B r p n d w h1 (by omega) hn (by omega) hp hB hr
    · refine (nat_leaf B r p n d w (by omega) hn (by omega) (by omega) hB hr).mono ?_
      rintro e w' ⟨k', n', ks, A, c, p', he, hl, hs, hp', h⟩
      have := nb_ge (k + 1)
      exact ⟨k', n', ks, A, c, p', he, hl, by omega, by omega, h⟩
end Go.Proofs.YtjpgdfndlmipcaaDoor

namespace Go.Proofs.YtjpgdfndlmipcaaDoor.Cd
open Go.RowKit
set_option linter.unusedSimpArgs false
set_option linter.unusedVariables false

theorem app_none (g : Nat) (ty : TypeId) (w : World) : (Builtin.append_ #[23, 23] ty #[.slice (some ⟨g, 0, none⟩) 0 0, .slice none 0 0]).run Tryd.prog w = .ok (.slice (some ⟨g, 0, none⟩) 0 0) w := by
  obtain ⟨i, hi, hz, hz1, hz2⟩ := info_parts tm_info
  simp [Builtin.append_, run_underlying Tryd.underlying23, sizeOf, typeInfo, hi, Builtin.lenOf, Builtin.firstCells, storeCells]
set_option maxHeartbeats 2000000 in
set_option maxRecDepth 100000 in
theorem node0_any (k : Int) (w : World) : Calls Tryd.prog 29 #[.int .i64 k, .slice none 0 0] w fun e w' => ∃ A c, e = .returned (.agg #[.int .i64 k, .int .i64 0, .slice A 0 c]) ∧ Below w.heap.size w w' := by
  have ha := fun ty w => app_none (w.heap.size + 1) ty w
  go_enter Tryd.func29, Tryd.ntmps29
  have ha2 : ∀ ty w', (Builtin.append_ #[23, 23] ty #[.slice (some ⟨w.heap.size + 1, 0, none⟩) 0 0, .slice none 0 0]).run Tryd.prog w' = .ok (.slice (some ⟨w.heap.size + 1, 0, none⟩) 0 0) w' := fun ty w' => app_none _ ty w'
  go_wp2
  refine bodyPost_ret (v := .agg #[.int .i64 k, .int .i64 0, .slice (some ⟨w.heap.size + 1, 0, none⟩) 0 0]) (by simp [results, Tryd.results29, go_sem]) rfl ⟨_, _, rfl, ?_⟩
  exact ((Below.refl _ _).alloc (Nat.le_refl _) _).alloc (by simp) _
theorem rdx_cons {p : Nat → Prop} {w : World} {k n : Int} {ks : List Tm} {A : Option Addr} {c : Nat} {ts : List Tm} {ys : List Value} (hl : ks.length ≤ 9223372036854775807) (hr : RdP p w A 0 ks) (hx : RdX p w ts ys) : RdX p w (.mk k n ks :: ts) (.int .i64 k :: .int .i64 n :: .slice A ks.length c :: ys) := ⟨A, c, ys, rfl, hl, hr, hx⟩
theorem RdX.lt_ {p : Nat → Prop} {w : World} : ∀ {ts : List Tm} {xs : List Value}, RdX p w ts xs → RdX (fun b => p b ∧ b < w.heap.size) w ts xs
  | [], xs, h => h
  | .mk k n ks :: ts, xs, h => by
    obtain ⟨A, c, ys, rfl, hl, hr, hx⟩ := h
    exact ⟨A, c, ys, rfl, hl, rdp_lt2.2 _ _ _ hr, hx.lt_⟩
/-- a node whose parts lie above a block -/
theorem node_q {L : Nat} {w : World} {us : List Tm} {x1 : List Value} (k : Int) (hL : L < w.heap.size) (ht : RdX (fun b => L < b) w us x1) (hlen : us.length ≤ 1099511627776) (g c : Nat) (hb : Blk w g x1.toArray) :
    Calls Tryd.prog 29 #[.int .i64 k, .slice (some ⟨g, 0, none⟩) us.length c] w fun e w' => ∃ A c, e = .returned (.agg #[.int .i64 k, .int .i64 0, .slice A us.length c]) ∧ us.length ≤ 9223372036854775807 ∧ RdP (fun b => L < b) w' A 0 us ∧ Below w.heap.size w w' := by
  refine (l1NodeR_any k ht.lt_ (fun b hb => hb.2) hlen g c hb).mono ?_
  rintro e w' ⟨A, c', rfl, h1, h2, h3⟩
  exact ⟨A, c', rfl, h1, h2.mono (fun b hb => hb.elim (fun h => h.1) (fun h => by omega)), h3⟩
end Go.Proofs.YtjpgdfndlmipcaaDoor.Cd

namespace Go.Proofs.YtjpgdfndlmipcaaDoor.Cd
open Go.RowKit
set_option linter.unusedSimpArgs false
set_option linter.unusedVariables false

/-- what a scan answers -/
def scanB (d : Nat) (c0 : Int) (k n : Int) (ks : List Tm) : Bool := shape d (.mk k n ks) && decide (c0 + 1 + sizes ks ≤ 400)
theorem scan_no {d : Nat} {c0 k n : Int} {ks : List Tm} (h : ¬ (0 < d ∧ arity k = (ks.length : Int) ∧ 0 ≤ n ∧ n ≤ mostN k ∧ c0 + 1 ≤ 400)) : false = scanB d c0 k n ks := by
  cases e : scanB d c0 k n ks with
  | false => rfl
  | true =>
    simp only [scanB, Bool.and_eq_true, decide_eq_true_eq] at e
    cases d with
    | zero => simp [shape] at e
    | succ d =>
      have := (shape_split d k n ks).1 e.1
      exact absurd ⟨by omega, this.1, this.2.1, this.2.2.1, by omega⟩ h
theorem scan_yes {d : Nat} {c0 k n : Int} {ks : List Tm} (h : shape d (.mk k n ks) = true) (h2 : c0 + 1 + (sizes ks : Int) ≤ 400) : true = scanB d c0 k n ks := by
  simp only [scanB, h, decide_eq_true h2, Bool.and_self]
theorem scan_child_yes {d : Nat} {c0 k1 n1 : Int} {ks ks1 : List Tm} {j : Nat} (hj : j < ks.length) (hk : ks[j] = .mk k1 n1 ks1) (hst : sizes (ks.take (j + 1)) = sizes (ks.take j) + (sizes ks1 + 1))
    (hb : true = scanB d (c0 + 1 + (sizes (ks.take j) : Int)) k1 n1 ks1) : shape d ks[j] = true ∧ c0 + 1 + (sizes (ks.take (j + 1)) : Int) ≤ 400 := by
  simp only [scanB] at hb
  have hb := hb.symm
  rw [Bool.and_eq_true, decide_eq_true_eq] at hb
  rw [hk]
  refine ⟨hb.1, ?_⟩
  have := hb.2
  rw [hst]
  push_cast
  omega
theorem scan_child_no {d : Nat} {c0 k n k1 n1 : Int} {ks ks1 : List Tm} {j : Nat} (hj : j < ks.length) (hk : ks[j] = .mk k1 n1 ks1) (hst : sizes (ks.take (j + 1)) = sizes (ks.take j) + (sizes ks1 + 1))
    (hb : false = scanB d (c0 + 1 + (sizes (ks.take j) : Int)) k1 n1 ks1) : false = scanB (d + 1) c0 k n ks := by
  cases e : scanB (d + 1) c0 k n ks with
  | false => rfl
  | true =>
    simp only [scanB, Bool.and_eq_true, decide_eq_true_eq] at e
    have h1 := (shape_split d k n ks).1 e.1
    have h2 := h1.2.2.2 _ (List.getElem_mem hj)
    have h3 := sizes_take_le ks (j + 1)
    rw [hk] at h2
    simp only [scanB, h2, Bool.true_and] at hb
    have := of_decide_eq_false hb.symm
    omega
theorem all_take {ks : List Tm} {j : Nat} {p : Tm → Prop} (hj : j < ks.length) (h : ∀ t, t ∈ ks.take j → p t) (h1 : p ks[j]) : ∀ t, t ∈ ks.take (j + 1) → p t := by
  intro t ht
  rw [List.take_succ_eq_append_getElem hj, List.mem_append] at ht
  rcases ht with ht | ht
  · exact h t ht
  · simp at ht; rw [ht]; exact h1
theorem only_alloc_drop {w w' : World} {o : Obj} {m : Option Nat} (h : (w.alloc o).grownBy w' m) : w.grownBy w' m := only_trans (only_alloc (World.grownBy.refl _ _) o) h
def ScanPost (d : Nat) (c0 : Int) (k n : Int) (ks : List Tm) (g : Nat) (w : World) (e : Ending) (w' : World) : Prop :=
  ∃ (b : Bool) (c1 : Int), e = .returned (.bool b) ∧ b = scanB d c0 k n ks ∧ (b = true → c1 = c0 + 1 + sizes ks) ∧ 0 ≤ c1 ∧ c1 ≤ 1000 ∧ Blk w' g #[.int .i64 c1] ∧ w.grownBy w' (some g)

set_option maxRecDepth 100000 in
set_option maxHeartbeats 2000000 in
theorem scan_any (N : Nat) : ∀ (k n : Int) (ks : List Tm) (A : Option Addr) (c : Nat) (deep : Int) (d : Nat) (c0 : Int) (g : Nat) (w : World), sizes ks < N → ks.length ≤ 9223372036854775807 → 1 ≤ deep → deep + d ≤ 31 → 31 ≤ deep + d → 0 ≤ c0 → c0 ≤ 900 →
    Blk w g #[.int .i64 c0] → RdP (· ≠ g) w A 0 ks →
    Calls Tryd.prog 22 #[.agg #[.int .i64 k, .int .i64 n, .slice A ks.length c], .int .i64 deep, .pointer (some ⟨g, 0, none⟩)] w (ScanPost d c0 k n ks g w) := by
  induction N with
  | zero => intro k n ks A c deep d c0 g w hN; exact absurd hN (Nat.not_lt_zero _)
  | succ N ih =>
  intro k n ks A c deep d c0 g w hN hl hd1 hd2 hd3 hc1 hc2 hcb hr
  by_cases hk1 : k = 1
  · have hM := hide (show mostN k = 20 from by rw [mostN, if_pos hk1])
    have qk : (k == 1) = true := by simpa using hk1
    clear hk1
    have hgl := hcb.lt
    have hgc := hcb.at_ (i := 0) rfl
    have hgf := hcb.frozen 0
    by_cases h0 : c0 + 1 ≤ 400
    · by_cases h1 : deep ≤ 30
      · by_cases h2 : arity k = (ks.length : Int)
        · have q2 : (arity k != (ks.length : Int)) = false := by simpa using h2
          by_cases h3 : 0 ≤ n ∧ n ≤ 20
          · have q0 : decide (400 < c0 + 1) = false := by simp; omega
            have q1 : decide (30 < deep) = false := by simp; omega
            have q3 : (decide (0 ≤ n) && decide (n ≤ 20)) = true := by simp [h3.1, h3.2]
            have H := hide (show arity k = (ks.length : Int) ∧ 0 ≤ n ∧ n ≤ mostN k from ⟨h2, h3.1, by rw [hM.out]; exact h3.2⟩)
            clear h2 h3
            go_enter Tryd.func22, Tryd.ntmps22
            go_wp2_with fail
            refine name_world ?_
            intro wx hwx
            have hg0 : w.grownBy wx (some g) := by rw [hwx]; exact only_alloc (only_setCell (World.grownBy.refl _ _) (.inl rfl) _) _
            have hB : Blk wx w.heap.size #[.int .i64 k, .int .i64 n, .slice A ks.length c] := by rw [hwx]; exact Blk.new_ _ _ _ (by simp)
            have hG : Blk wx g #[.int .i64 (c0 + 1)] := by rw [hwx]; exact (hcb.set_ 0 _).alloc _
            have hrx : RdP (· ≠ g) wx A 0 ks := hr.grown hg0 (fun b hb e => hb (by injection e))
            have hsx : w.heap.size < wx.heap.size := by rw [hwx]; simp
            have r0 := hB.rule (i := 0) rfl
            have r1 := hB.rule (i := 1) rfl
            have r2 := hB.rule (i := 2) rfl
            have r3 := hG.rule (i := 0) rfl
            clear hwx
            refine wp_region_class (fun w' => Below wx.heap.size wx w') (by kernel_rfl) (by kernel_rfl) (Below.refl _ _).drew ?_
            repeat (first | ((refine quiet_skip (a' := ?_) ?_ ?_ ?_); (rotate_left); (· (simp [Region.wanted, yielded, Go.undef]; done)); (· (simp only [Act.put, List.setIfInBounds_toArray, List.set_cons_zero, List.set_cons_succ]; exact rfl))) | ((refine quiet_one (v := ?_) (a' := ?_) ?_ ?_ ?_ ?_); (rotate_left 2); (· (simp [Region.wanted, yielded, Go.undef]; done)); (· (intro w' hS'; go_simp; try (with_reducible rfl))); (· (simp only [Act.put, List.setIfInBounds_toArray, List.set_cons_zero, List.set_cons_succ]; exact rfl))) | ((refine quiet_below (v := ?_) (a' := ?_) 36 ?_ ?_ ?_ ?_ ?_ ?_); (rotate_left 3); (· (simp [Region.wanted, yielded, Go.undef]; done)); (· (intro w' hS'; go_simp; try (with_reducible rfl))); (· (intro w' hS'; exact operands_any _ _)); (· (simp only [Act.put, List.setIfInBounds_toArray, List.set_cons_zero, List.set_cons_succ]; exact rfl))) | ((refine quiet_same (v := ?_) (a' := ?_) 37 ?_ ?_ ?_ ?_ ?_ ?_); (rotate_left 3); (· (simp [Region.wanted, yielded, Go.undef]; done)); (· (intro w' hS'; go_simp; try (with_reducible rfl))); (· (intro w' hS'; exact within_any _ _ _ _)); (· (simp only [Act.put, List.setIfInBounds_toArray, List.set_cons_zero, List.set_cons_succ]; exact rfl))))
            refine quiet_nil ?_
            intro w2 hb2
            replace hB := hB.keep hb2
            replace hG := hG.keep hb2
            replace hrx := hrx.below hb2
            replace hg0 := only_below hg0 hb2
            clear r0 r1 r2 r3 hb2
            obtain ⟨d, rfl⟩ : ∃ d', d = d' + 1 := ⟨d - 1, by omega⟩
            have hz := hide (shape_split d k n ks)
            have c2 := hB.at_ (i := 2) rfl
            go_wp2_with fail
            go_loopw [45] (fun i wr => ∃ j : Nat, j ≤ ks.length ∧ i = .int .i64 j ∧ Hid (∀ t, t ∈ ks.take j → shape d t = true) ∧ c0 + 1 + sizes (ks.take j) ≤ 400 ∧ Blk wr g #[.int .i64 (c0 + 1 + sizes (ks.take j))] ∧ w.grownBy wr (some g)) (fun i _ => ks.length - (intOf i).toNat)
            case atStart => exact ⟨0, Nat.zero_le _, rfl, hide (by simp), by simp [sizes]; omega, by simpa [sizes] using hG, hg0⟩
            case round =>
              obtain ⟨j, hj, rfl, hall, hle, hGr, hgr⟩ := hrel
              by_cases hlt : j < ks.length
              · obtain ⟨b, off, k1, n1, ks1, A1, c1, rfl, hkj, hc1, hc2, hc3, hl1, hr1⟩ := (hr.grown hgr (fun b hb e => hb (by injection e))).at_ hlt
                have hst := sizes_take ks j hlt
                have hsz := sizes_le (List.getElem_mem hlt)
                rw [hkj] at hsz hst
                simp only [Tm.size] at hsz hst
                have H3 := hide hkj
                have H4 := hide hst
                clear hkj hst
                go_wp2_with (go_at_call 22; refine (ih k1 n1 ks1 A1 c1 (deep + 1) d (c0 + 1 + sizes (ks.take j)) g _ (by omega) hl1 (by omega) (by omega) (by omega) (by omega) (by omega) (hGr.alloc _) (hr1.alloc _)).mono ?_; rintro e w3 ⟨b, cx, rfl, hbe, hcx, hx0, hx1, hG3, hg3⟩; have hbe' := hide hbe; have hcx' := hide hcx; clear hbe hcx)
                · rename_i hbx
                  cases b with
                  | true => simp at hbx
                  | false =>
                  go_ret
                  exact ⟨false, cx, rfl, scan_child_no hlt H3.out H4.out hbe'.out, (fun h => (by cases h)), hx0, hx1, hG3, only_trans hgr (only_alloc_drop hg3)⟩
                · rename_i hbx
                  cases b with
                  | false => simp at hbx
                  | true =>
                  have hcx2 := hcx'.out rfl
                  obtain ⟨hs1, hs2⟩ := scan_child_yes hlt H3.out H4.out hbe'.out
                  have h4 := H4.out
                  refine ⟨?_, by simp [intOf]; omega⟩
                  repeat apply Exists.intro
                  refine ⟨⟨j + 1, hlt, by rfl, hide (all_take hlt hall.out hs1), hs2, ?_, only_trans hgr (only_alloc_drop hg3)⟩, by rw [q3]; rfl⟩
                  rw [show c0 + 1 + (sizes (ks.take (j+1)) : Int) = cx from by rw [hcx2, h4]; push_cast; omega]
                  exact hG3
              · go_wp2_with fail
                go_ret
                have hje : j = ks.length := by omega
                have ha := hall.out
                rw [hje, List.take_length] at ha hle hGr
                exact ⟨true, _, rfl, scan_yes (hz.out.2 ⟨H.out.1, H.out.2.1, H.out.2.2, ha⟩) hle, (fun _ => rfl), by omega, by omega, hGr, hgr⟩
          · have q0 : decide (400 < c0 + 1) = false := by simp; omega
            have q1 : decide (30 < deep) = false := by simp; omega
            have q3 : (decide (0 ≤ n) && decide (n ≤ 20)) = false := by
              rw [Bool.and_eq_false_iff, decide_eq_false_iff_not, decide_eq_false_iff_not]; omega
            have H := hide (show ¬ (0 ≤ n ∧ n ≤ mostN k) from by rw [hM.out]; exact h3)
            clear h2 h3
            go_enter Tryd.func22, Tryd.ntmps22
            go_wp2_with fail
            refine name_world ?_
            intro wx hwx
            have hg0 : w.grownBy wx (some g) := by rw [hwx]; exact only_alloc (only_setCell (World.grownBy.refl _ _) (.inl rfl) _) _
            have hB : Blk wx w.heap.size #[.int .i64 k, .int .i64 n, .slice A ks.length c] := by rw [hwx]; exact Blk.new_ _ _ _ (by simp)
            have hG : Blk wx g #[.int .i64 (c0 + 1)] := by rw [hwx]; exact (hcb.set_ 0 _).alloc _
            have hrx : RdP (· ≠ g) wx A 0 ks := hr.grown hg0 (fun b hb e => hb (by injection e))
            have hsx : w.heap.size < wx.heap.size := by rw [hwx]; simp
            have r0 := hB.rule (i := 0) rfl
            have r1 := hB.rule (i := 1) rfl
            have r2 := hB.rule (i := 2) rfl
            have r3 := hG.rule (i := 0) rfl
            clear hwx
            refine wp_region_class (fun w' => Below wx.heap.size wx w') (by kernel_rfl) (by kernel_rfl) (Below.refl _ _).drew ?_
            repeat (first | ((refine quiet_skip (a' := ?_) ?_ ?_ ?_); (rotate_left); (· (simp [Region.wanted, yielded, Go.undef]; done)); (· (simp only [Act.put, List.setIfInBounds_toArray, List.set_cons_zero, List.set_cons_succ]; exact rfl))) | ((refine quiet_one (v := ?_) (a' := ?_) ?_ ?_ ?_ ?_); (rotate_left 2); (· (simp [Region.wanted, yielded, Go.undef]; done)); (· (intro w' hS'; go_simp; try (with_reducible rfl))); (· (simp only [Act.put, List.setIfInBounds_toArray, List.set_cons_zero, List.set_cons_succ]; exact rfl))) | ((refine quiet_below (v := ?_) (a' := ?_) 36 ?_ ?_ ?_ ?_ ?_ ?_); (rotate_left 3); (· (simp [Region.wanted, yielded, Go.undef]; done)); (· (intro w' hS'; go_simp; try (with_reducible rfl))); (· (intro w' hS'; exact operands_any _ _)); (· (simp only [Act.put, List.setIfInBounds_toArray, List.set_cons_zero, List.set_cons_succ]; exact rfl))) | ((refine quiet_same (v := ?_) (a' := ?_) 37 ?_ ?_ ?_ ?_ ?_ ?_); (rotate_left 3); (· (simp [Region.wanted, yielded, Go.undef]; done)); (· (intro w' hS'; go_simp; try (with_reducible rfl))); (· (intro w' hS'; exact within_any _ _ _ _)); (· (simp only [Act.put, List.setIfInBounds_toArray, List.set_cons_zero, List.set_cons_succ]; exact rfl))))
            refine quiet_nil ?_
            intro w2 hb2
            replace hB := hB.keep hb2
            replace hG := hG.keep hb2
            replace hrx := hrx.below hb2
            replace hg0 := only_below hg0 hb2
            clear r0 r1 r2 r3 hb2
            go_wp2_with fail
            go_ret
            exact ⟨_, c0 + 1, rfl, scan_no (by have := H.out; omega), (fun h => (by cases h)), by omega, by omega, hG, hg0⟩
        · have q0 : decide (400 < c0 + 1) = false := by simp; omega
          have q1 : decide (30 < deep) = false := by simp; omega
          have q2 : (arity k != (ks.length : Int)) = true := by simpa using h2
          have H := hide h2
          clear h2
          go_enter Tryd.func22, Tryd.ntmps22
          go_wp2_with fail
          refine name_world ?_
          intro wx hwx
          have hg0 : w.grownBy wx (some g) := by rw [hwx]; exact only_alloc (only_setCell (World.grownBy.refl _ _) (.inl rfl) _) _
          have hB : Blk wx w.heap.size #[.int .i64 k, .int .i64 n, .slice A ks.length c] := by rw [hwx]; exact Blk.new_ _ _ _ (by simp)
          have hG : Blk wx g #[.int .i64 (c0 + 1)] := by rw [hwx]; exact (hcb.set_ 0 _).alloc _
          have hrx : RdP (· ≠ g) wx A 0 ks := hr.grown hg0 (fun b hb e => hb (by injection e))
          have hsx : w.heap.size < wx.heap.size := by rw [hwx]; simp
          have r0 := hB.rule (i := 0) rfl
          have r1 := hB.rule (i := 1) rfl
          have r2 := hB.rule (i := 2) rfl
          have r3 := hG.rule (i := 0) rfl
          clear hwx
          refine wp_region_class (fun w' => Below wx.heap.size wx w') (by kernel_rfl) (by kernel_rfl) (Below.refl _ _).drew ?_
          repeat (first | ((refine quiet_skip (a' := ?_) ?_ ?_ ?_); (rotate_left); (· (simp [Region.wanted, yielded, Go.undef]; done)); (· (simp only [Act.put, List.setIfInBounds_toArray, List.set_cons_zero, List.set_cons_succ]; exact rfl))) | ((refine quiet_one (v := ?_) (a' := ?_) ?_ ?_ ?_ ?_); (rotate_left 2); (· (simp [Region.wanted, yielded, Go.undef]; done)); (· (intro w' hS'; go_simp; try (with_reducible rfl))); (· (simp only [Act.put, List.setIfInBounds_toArray, List.set_cons_zero, List.set_cons_succ]; exact rfl))) | ((refine quiet_below (v := ?_) (a' := ?_) 36 ?_ ?_ ?_ ?_ ?_ ?_); (rotate_left 3); (· (simp [Region.wanted, yielded, Go.undef]; done)); (· (intro w' hS'; go_simp; try (with_reducible rfl))); (· (intro w' hS'; exact operands_any _ _)); (· (simp only [Act.put, List.setIfInBounds_toArray, List.set_cons_zero, List.set_cons_succ]; exact rfl))) | ((refine quiet_same (v := ?_) (a' := ?_) 37 ?_ ?_ ?_ ?_ ?_ ?_); (rotate_left 3); (· (simp [Region.wanted, yielded, Go.undef]; done)); (· (intro w' hS'; go_simp; try (with_reducible rfl))); (· (intro w' hS'; exact within_any _ _ _ _)); (· (simp only [Act.put, List.setIfInBounds_toArray, List.set_cons_zero, List.set_cons_succ]; exact rfl))))
          refine quiet_nil ?_
          intro w2 hb2
          replace hB := hB.keep hb2
          replace hG := hG.keep hb2
          replace hrx := hrx.below hb2
          replace hg0 := only_below hg0 hb2
          clear r0 r1 r2 r3 hb2
          go_wp2_with fail
          go_ret
          exact ⟨_, c0 + 1, rfl, scan_no (by have := H.out; omega), (fun h => (by cases h)), by omega, by omega, hG, hg0⟩
      · have q0 : decide (400 < c0 + 1) = false := by simp; omega
        have q1 : decide (30 < deep) = true := by simp; omega
        have H := hide h1
        go_enter Tryd.func22, Tryd.ntmps22
        go_wp2_with fail
        refine name_world ?_
        intro wx hwx
        have hg0 : w.grownBy wx (some g) := by rw [hwx]; exact only_alloc (only_setCell (World.grownBy.refl _ _) (.inl rfl) _) _
        have hB : Blk wx w.heap.size #[.int .i64 k, .int .i64 n, .slice A ks.length c] := by rw [hwx]; exact Blk.new_ _ _ _ (by simp)
        have hG : Blk wx g #[.int .i64 (c0 + 1)] := by rw [hwx]; exact (hcb.set_ 0 _).alloc _
        have hrx : RdP (· ≠ g) wx A 0 ks := hr.grown hg0 (fun b hb e => hb (by injection e))
        have hsx : w.heap.size < wx.heap.size := by rw [hwx]; simp
        have r0 := hB.rule (i := 0) rfl
        have r1 := hB.rule (i := 1) rfl
        have r2 := hB.rule (i := 2) rfl
        have r3 := hG.rule (i := 0) rfl
        clear hwx
        refine wp_region_class (fun w' => Below wx.heap.size wx w') (by kernel_rfl) (by kernel_rfl) (Below.refl _ _).drew ?_
        repeat (first | ((refine quiet_skip (a' := ?_) ?_ ?_ ?_); (rotate_left); (· (simp [Region.wanted, yielded, Go.undef]; done)); (· (simp only [Act.put, List.setIfInBounds_toArray, List.set_cons_zero, List.set_cons_succ]; exact rfl))) | ((refine quiet_one (v := ?_) (a' := ?_) ?_ ?_ ?_ ?_); (rotate_left 2); (· (simp [Region.wanted, yielded, Go.undef]; done)); (· (intro w' hS'; go_simp; try (with_reducible rfl))); (· (simp only [Act.put, List.setIfInBounds_toArray, List.set_cons_zero, List.set_cons_succ]; exact rfl))) | ((refine quiet_below (v := ?_) (a' := ?_) 36 ?_ ?_ ?_ ?_ ?_ ?_); (rotate_left 3); (· (simp [Region.wanted, yielded, Go.undef]; done)); (· (intro w' hS'; go_simp; try (with_reducible rfl))); (· (intro w' hS'; exact operands_any _ _)); (· (simp only [Act.put, List.setIfInBounds_toArray, List.set_cons_zero, List.set_cons_succ]; exact rfl))) | ((refine quiet_same (v := ?_) (a' := ?_) 37 ?_ ?_ ?_ ?_ ?_ ?_); (rotate_left 3); (· (simp [Region.wanted, yielded, Go.undef]; done)); (· (intro w' hS'; go_simp; try (with_reducible rfl))); (· (intro w' hS'; exact within_any _ _ _ _)); (· (simp only [Act.put, List.setIfInBounds_toArray, List.set_cons_zero, List.set_cons_succ]; exact rfl))))
        refine quiet_nil ?_
        intro w2 hb2
        replace hB := hB.keep hb2
        replace hG := hG.keep hb2
        replace hrx := hrx.below hb2
        replace hg0 := only_below hg0 hb2
        clear r0 r1 r2 r3 hb2
        go_wp2_with fail
        go_ret
        exact ⟨_, c0 + 1, rfl, scan_no (by have := H.out; omega), (fun h => (by cases h)), by omega, by omega, hG, hg0⟩
    · have q0 : decide (400 < c0 + 1) = true := by simp; omega
      have H := hide h0
      go_enter Tryd.func22, Tryd.ntmps22
      go_wp2_with fail
      refine name_world ?_
      intro wx hwx
      have hg0 : w.grownBy wx (some g) := by rw [hwx]; exact only_alloc (only_setCell (World.grownBy.refl _ _) (.inl rfl) _) _
      have hB : Blk wx w.heap.size #[.int .i64 k, .int .i64 n, .slice A ks.length c] := by rw [hwx]; exact Blk.new_ _ _ _ (by simp)
      have hG : Blk wx g #[.int .i64 (c0 + 1)] := by rw [hwx]; exact (hcb.set_ 0 _).alloc _
      have hrx : RdP (· ≠ g) wx A 0 ks := hr.grown hg0 (fun b hb e => hb (by injection e))
      have hsx : w.heap.size < wx.heap.size := by rw [hwx]; simp
      have r0 := hB.rule (i := 0) rfl
      have r1 := hB.rule (i := 1) rfl
      have r2 := hB.rule (i := 2) rfl
      have r3 := hG.rule (i := 0) rfl
      clear hwx
      refine wp_region_class (fun w' => Below wx.heap.size wx w') (by kernel_rfl) (by kernel_rfl) (Below.refl _ _).drew ?_
      repeat (first | ((refine quiet_skip (a' := ?_) ?_ ?_ ?_); (rotate_left); (· (simp [Region.wanted, yielded, Go.undef]; done)); (· (simp only [Act.put, List.setIfInBounds_toArray, List.set_cons_zero, List.set_cons_succ]; exact rfl))) | ((refine quiet_one (v := ?_) (a' := ?_) ?_ ?_ ?_ ?_); (rotate_left 2); (· (simp [Region.wanted, yielded, Go.undef]; done)); (· (intro w' hS'; go_simp; try (with_reducible rfl))); (· (simp only [Act.put, List.setIfInBounds_toArray, List.set_cons_zero, List.set_cons_succ]; exact rfl))) | ((refine quiet_below (v := ?_) (a' := ?_) 36 ?_ ?_ ?_ ?_ ?_ ?_); (rotate_left 3); (· (simp [Region.wanted, yielded, Go.undef]; done)); (· (intro w' hS'; go_simp; try (with_reducible rfl))); (· (intro w' hS'; exact operands_any _ _)); (· (simp only [Act.put, List.setIfInBounds_toArray, List.set_cons_zero, List.set_cons_succ]; exact rfl))) | ((refine quiet_same (v := ?_) (a' := ?_) 37 ?_ ?_ ?_ ?_ ?_ ?_); (rotate_left 3); (· (simp [Region.wanted, yielded, Go.undef]; done)); (· (intro w' hS'; go_simp; try (with_reducible rfl))); (· (intro w' hS'; exact within_any _ _ _ _)); (· (simp only [Act.put, List.setIfInBounds_toArray, List.set_cons_zero, List.set_cons_succ]; exact rfl))))
      refine quiet_nil ?_
      intro w2 hb2
      replace hB := hB.keep hb2
      replace hG := hG.keep hb2
      replace hrx := hrx.below hb2
      replace hg0 := only_below hg0 hb2
      clear r0 r1 r2 r3 hb2
      go_wp2_with fail
      go_ret
      exact ⟨_, c0 + 1, rfl, scan_no (by have := H.out; omega), (fun h => (by cases h)), by omega, by omega, hG, hg0⟩
  · have hM := hide (show mostN k = 0 from by rw [mostN, if_neg hk1])
    have qk : (k == 1) = false := by simpa using hk1
    clear hk1
    have hgl := hcb.lt
    have hgc := hcb.at_ (i := 0) rfl
    have hgf := hcb.frozen 0
    by_cases h0 : c0 + 1 ≤ 400
    · by_cases h1 : deep ≤ 30
      · by_cases h2 : arity k = (ks.length : Int)
        · have q2 : (arity k != (ks.length : Int)) = false := by simpa using h2
          by_cases h3 : 0 ≤ n ∧ n ≤ 0
          · have q0 : decide (400 < c0 + 1) = false := by simp; omega
            have q1 : decide (30 < deep) = false := by simp; omega
            have q3 : (decide (0 ≤ n) && decide (n ≤ 0)) = true := by simp [h3.1, h3.2]
            have H := hide (show arity k = (ks.length : Int) ∧ 0 ≤ n ∧ n ≤ mostN k from ⟨h2, h3.1, by rw [hM.out]; exact h3.2⟩)
            clear h2 h3
            go_enter Tryd.func22, Tryd.ntmps22
            go_wp2_with fail
            refine name_world ?_
            intro wx hwx
            have hg0 : w.grownBy wx (some g) := by rw [hwx]; exact only_alloc (only_setCell (World.grownBy.refl _ _) (.inl rfl) _) _
            have hB : Blk wx w.heap.size #[.int .i64 k, .int .i64 n, .slice A ks.length c] := by rw [hwx]; exact Blk.new_ _ _ _ (by simp)
            have hG : Blk wx g #[.int .i64 (c0 + 1)] := by rw [hwx]; exact (hcb.set_ 0 _).alloc _
            have hrx : RdP (· ≠ g) wx A 0 ks := hr.grown hg0 (fun b hb e => hb (by injection e))
            have hsx : w.heap.size < wx.heap.size := by rw [hwx]; simp
            have r0 := hB.rule (i := 0) rfl
            have r1 := hB.rule (i := 1) rfl
            have r2 := hB.rule (i := 2) rfl
            have r3 := hG.rule (i := 0) rfl
            clear hwx
            refine wp_region_class (fun w' => Below wx.heap.size wx w') (by kernel_rfl) (by kernel_rfl) (Below.refl _ _).drew ?_
            repeat (first | ((refine quiet_skip (a' := ?_) ?_ ?_ ?_); (rotate_left); (· (simp [Region.wanted, yielded, Go.undef]; done)); (· (simp only [Act.put, List.setIfInBounds_toArray, List.set_cons_zero, List.set_cons_succ]; exact rfl))) | ((refine quiet_one (v := ?_) (a' := ?_) ?_ ?_ ?_ ?_); (rotate_left 2); (· (simp [Region.wanted, yielded, Go.undef]; done)); (· (intro w' hS'; go_simp; try (with_reducible rfl))); (· (simp only [Act.put, List.setIfInBounds_toArray, List.set_cons_zero, List.set_cons_succ]; exact rfl))) | ((refine quiet_below (v := ?_) (a' := ?_) 36 ?_ ?_ ?_ ?_ ?_ ?_); (rotate_left 3); (· (simp [Region.wanted, yielded, Go.undef]; done)); (· (intro w' hS'; go_simp; try (with_reducible rfl))); (· (intro w' hS'; exact operands_any _ _)); (· (simp only [Act.put, List.setIfInBounds_toArray, List.set_cons_zero, List.set_cons_succ]; exact rfl))) | ((refine quiet_same (v := ?_) (a' := ?_) 37 ?_ ?_ ?_ ?_ ?_ ?_); (rotate_left 3); (· (simp [Region.wanted, yielded, Go.undef]; done)); (· (intro w' hS'; go_simp; try (with_reducible rfl))); (· (intro w' hS'; exact within_any _ _ _ _)); (· (simp only [Act.put, List.setIfInBounds_toArray, List.set_cons_zero, List.set_cons_succ]; exact rfl))))
            refine quiet_nil ?_
            intro w2 hb2
            replace hB := hB.keep hb2
            replace hG := hG.keep hb2
            replace hrx := hrx.below hb2
            replace hg0 := only_below hg0 hb2
            clear r0 r1 r2 r3 hb2
            obtain ⟨d, rfl⟩ : ∃ d', d = d' + 1 := ⟨d - 1, by omega⟩
            have hz := hide (shape_split d k n ks)
            have c2 := hB.at_ (i := 2) rfl
            go_wp2_with fail
            go_loopw [45] (fun i wr => ∃ j : Nat, j ≤ ks.length ∧ i = .int .i64 j ∧ Hid (∀ t, t ∈ ks.take j → shape d t = true) ∧ c0 + 1 + sizes (ks.take j) ≤ 400 ∧ Blk wr g #[.int .i64 (c0 + 1 + sizes (ks.take j))] ∧ w.grownBy wr (some g)) (fun i _ => ks.length - (intOf i).toNat)
            case atStart => exact ⟨0, Nat.zero_le _, rfl, hide (by simp), by simp [sizes]; omega, by simpa [sizes] using hG, hg0⟩
            case round =>
              obtain ⟨j, hj, rfl, hall, hle, hGr, hgr⟩ := hrel
              by_cases hlt : j < ks.length
              · obtain ⟨b, off, k1, n1, ks1, A1, c1, rfl, hkj, hc1, hc2, hc3, hl1, hr1⟩ := (hr.grown hgr (fun b hb e => hb (by injection e))).at_ hlt
                have hst := sizes_take ks j hlt
                have hsz := sizes_le (List.getElem_mem hlt)
                rw [hkj] at hsz hst
                simp only [Tm.size] at hsz hst
                have H3 := hide hkj
                have H4 := hide hst
                clear hkj hst
                go_wp2_with (go_at_call 22; refine (ih k1 n1 ks1 A1 c1 (deep + 1) d (c0 + 1 + sizes (ks.take j)) g _ (by omega) hl1 (by omega) (by omega) (by omega) (by omega) (by omega) (hGr.alloc _) (hr1.alloc _)).mono ?_; rintro e w3 ⟨b, cx, rfl, hbe, hcx, hx0, hx1, hG3, hg3⟩; have hbe' := hide hbe; have hcx' := hide hcx; clear hbe hcx)
                · rename_i hbx
                  cases b with
                  | true => simp at hbx
                  | false =>
                  go_ret
                  exact ⟨false, cx, rfl, scan_child_no hlt H3.out H4.out hbe'.out, (fun h => (by cases h)), hx0, hx1, hG3, only_trans hgr (only_alloc_drop hg3)⟩
                · rename_i hbx
                  cases b with
                  | false => simp at hbx
                  | true =>
                  have hcx2 := hcx'.out rfl
                  obtain ⟨hs1, hs2⟩ := scan_child_yes hlt H3.out H4.out hbe'.out
                  have h4 := H4.out
                  refine ⟨?_, by simp [intOf]; omega⟩
                  repeat apply Exists.intro
                  refine ⟨⟨j + 1, hlt, by rfl, hide (all_take hlt hall.out hs1), hs2, ?_, only_trans hgr (only_alloc_drop hg3)⟩, by rw [q3]; rfl⟩
                  rw [show c0 + 1 + (sizes (ks.take (j+1)) : Int) = cx from by rw [hcx2, h4]; push_cast; omega]
                  exact hG3
              · go_wp2_with fail
                go_ret
                have hje : j = ks.length := by omega
                have ha := hall.out
                rw [hje, List.take_length] at ha hle hGr
                exact ⟨true, _, rfl, scan_yes (hz.out.2 ⟨H.out.1, H.out.2.1, H.out.2.2, ha⟩) hle, (fun _ => rfl), by omega, by omega, hGr, hgr⟩
          · have q0 : decide (400 < c0 + 1) = false := by simp; omega
            have q1 : decide (30 < deep) = false := by simp; omega
            have q3 : (decide (0 ≤ n) && decide (n ≤ 0)) = false := by
              rw [Bool.and_eq_false_iff, decide_eq_false_iff_not, decide_eq_false_iff_not]; omega
            have H := hide (show ¬ (0 ≤ n ∧ n ≤ mostN k) from by rw [hM.out]; exact h3)
            clear h2 h3
            go_enter Tryd.func22, Tryd.ntmps22
            go_wp2_with fail
            refine name_world ?_
            intro wx hwx
            have hg0 : w.grownBy wx (some g) := by rw [hwx]; exact only_alloc (only_setCell (World.grownBy.refl _ _) (.inl rfl) _) _
            have hB : Blk wx w.heap.size #[.int .i64 k, .int .i64 n, .slice A ks.length c] := by rw [hwx]; exact Blk.new_ _ _ _ (by simp)
            have hG : Blk wx g #[.int .i64 (c0 + 1)] := by rw [hwx]; exact (hcb.set_ 0 _).alloc _
            have hrx : RdP (· ≠ g) wx A 0 ks := hr.grown hg0 (fun b hb e => hb (by injection e))
            have hsx : w.heap.size < wx.heap.size := by rw [hwx]; simp
            have r0 := hB.rule (i := 0) rfl
            have r1 := hB.rule (i := 1) rfl
            have r2 := hB.rule (i := 2) rfl
            have r3 := hG.rule (i := 0) rfl
            clear hwx
            refine wp_region_class (fun w' => Below wx.heap.size wx w') (by kernel_rfl) (by kernel_rfl) (Below.refl _ _).drew ?_
            repeat (first | ((refine quiet_skip (a' := ?_) ?_ ?_ ?_); (rotate_left); (· (simp [Region.wanted, yielded, Go.undef]; done)); (· (simp only [Act.put, List.setIfInBounds_toArray, List.set_cons_zero, List.set_cons_succ]; exact rfl))) | ((refine quiet_one (v := ?_) (a' := ?_) ?_ ?_ ?_ ?_); (rotate_left 2); (· (simp [Region.wanted, yielded, Go.undef]; done)); (· (intro w' hS'; go_simp; try (with_reducible rfl))); (· (simp only [Act.put, List.setIfInBounds_toArray, List.set_cons_zero, List.set_cons_succ]; exact rfl))) | ((refine quiet_below (v := ?_) (a' := ?_) 36 ?_ ?_ ?_ ?_ ?_ ?_); (rotate_left 3); (· (simp [Region.wanted, yielded, Go.undef]; done)); (· (intro w' hS'; go_simp; try (with_reducible rfl))); (· (intro w' hS'; exact operands_any _ _)); (· (simp only [Act.put, List.setIfInBounds_toArray, List.set_cons_zero, List.set_cons_succ]; exact rfl))) | ((refine quiet_same (v := ?_) (a' := ?_) 37 ?_ ?_ ?_ ?_ ?_ ?_); (rotate_left 3); (· (simp [Region.wanted, yielded, Go.undef]; done)); (· (intro w' hS'; go_simp; try (with_reducible rfl))); (· (intro w' hS'; exact within_any _ _ _ _)); (· (simp only [Act.put, List.setIfInBounds_toArray, List.set_cons_zero, List.set_cons_succ]; exact rfl))))
            refine quiet_nil ?_
            intro w2 hb2
            replace hB := hB.keep hb2
            replace hG := hG.keep hb2
            replace hrx := hrx.below hb2
            replace hg0 := only_below hg0 hb2
            clear r0 r1 r2 r3 hb2
            go_wp2_with fail
            go_ret
            exact ⟨_, c0 + 1, rfl, scan_no (by have := H.out; omega), (fun h => (by cases h)), by omega, by omega, hG, hg0⟩
        · have q0 : decide (400 < c0 + 1) = false := by simp; omega
          have q1 : decide (30 < deep) = false := by simp; omega
          have q2 : (arity k != (ks.length : Int)) = true := by simpa using h2
          have H := hide h2
          clear h2
          go_enter Tryd.func22, Tryd.ntmps22
          go_wp2_with fail
          refine name_world ?_
          intro wx hwx
          have hg0 : w.grownBy wx (some g) := by rw [hwx]; exact only_alloc (only_setCell (World.grownBy.refl _ _) (.inl rfl) _) _
          have hB : Blk wx w.heap.size #[.int .i64 k, .int .i64 n, .slice A ks.length c] := by rw [hwx]; exact Blk.new_ _ _ _ (by simp)
          have hG : Blk wx g #[.int .i64 (c0 + 1)] := by rw [hwx]; exact (hcb.set_ 0 _).alloc _
          have hrx : RdP (· ≠ g) wx A 0 ks := hr.grown hg0 (fun b hb e => hb (by injection e))
          have hsx : w.heap.size < wx.heap.size := by rw [hwx]; simp
          have r0 := hB.rule (i := 0) rfl
          have r1 := hB.rule (i := 1) rfl
          have r2 := hB.rule (i := 2) rfl
          have r3 := hG.rule (i := 0) rfl
          clear hwx
          refine wp_region_class (fun w' => Below wx.heap.size wx w') (by kernel_rfl) (by kernel_rfl) (Below.refl _ _).drew ?_
          repeat (first | ((refine quiet_skip (a' := ?_) ?_ ?_ ?_); (rotate_left); (· (simp [Region.wanted, yielded, Go.undef]; done)); (· (simp only [Act.put, List.setIfInBounds_toArray, List.set_cons_zero, List.set_cons_succ]; exact rfl))) | ((refine quiet_one (v := ?_) (a' := ?_) ?_ ?_ ?_ ?_); (rotate_left 2); (· (simp [Region.wanted, yielded, Go.undef]; done)); (· (intro w' hS'; go_simp; try (with_reducible rfl))); (· (simp only [Act.put, List.setIfInBounds_toArray, List.set_cons_zero, List.set_cons_succ]; exact rfl))) | ((refine quiet_below (v := ?_) (a' := ?_) 36 ?_ ?_ ?_ ?_ ?_ ?_); (rotate_left 3); (· (simp [Region.wanted, yielded, Go.undef]; done)); (· (intro w' hS'; go_simp; try (with_reducible rfl))); (· (intro w' hS'; exact operands_any _ _)); (· (simp only [Act.put, List.setIfInBounds_toArray, List.set_cons_zero, List.set_cons_succ]; exact rfl))) | ((refine quiet_same (v := ?_) (a' := ?_) 37 ?_ ?_ ?_ ?_ ?_ ?_); (rotate_left 3); (· (simp [Region.wanted, yielded, Go.undef]; done)); (· (intro w' hS'; go_simp; try (with_reducible rfl))); (· (intro w' hS'; exact within_any _ _ _ _)); (· (simp only [Act.put, List.setIfInBounds_toArray, List.set_cons_zero, List.set_cons_succ]; exact rfl))))
          refine quiet_nil ?_
          intro w2 hb2
          replace hB := hB.keep hb2
          replace hG := hG.keep hb2
          replace hrx := hrx.below hb2
          replace hg0 := only_below hg0 hb2
          clear r0 r1 r2 r3 hb2
          go_wp2_with fail
          go_ret
          exact ⟨_, c0 + 1, rfl, scan_no (by have := H.out; omega), (fun h => (by cases h)), by omega, by omega, hG, hg0⟩
      · have q0 : decide (400 < c0 + 1) = false := by simp; omega
        have q1 : decide (30 < deep) = true := by simp; omega
        have H := hide h1
        go_enter Tryd.func22, Tryd.ntmps22
        go_wp2_with fail
        refine name_world ?_
        intro wx hwx
        have hg0 : w.grownBy wx (some g) := by rw [hwx]; exact only_alloc (only_setCell (World.grownBy.refl _ _) (.inl rfl) _) _
        have hB : Blk wx w.heap.size #[.int .i64 k, .int .i64 n, .slice A ks.length c] := by rw [hwx]; exact Blk.new_ _ _ _ (by simp)
        have hG : Blk wx g #[.int .i64 (c0 + 1)] := by rw [hwx]; exact (hcb.set_ 0 _).alloc _
        have hrx : RdP (· ≠ g) wx A 0 ks := hr.grown hg0 (fun b hb e => hb (by injection e))
        have hsx : w.heap.size < wx.heap.size := by rw [hwx]; simp
        have r0 := hB.rule (i := 0) rfl
        have r1 := hB.rule (i := 1) rfl
        have r2 := hB.rule (i := 2) rfl
        have r3 := hG.rule (i := 0) rfl
        clear hwx
        refine wp_region_class (fun w' => Below wx.heap.size wx w') (by kernel_rfl) (by kernel_rfl) (Below.refl _ _).drew ?_
        repeat (first | ((refine quiet_skip (a' := ?_) ?_ ?_ ?_); (rotate_left); (· (simp [Region.wanted, yielded, Go.undef]; done)); (· (simp only [Act.put, List.setIfInBounds_toArray, List.set_cons_zero, List.set_cons_succ]; exact rfl))) | ((refine quiet_one (v := ?_) (a' := ?_) ?_ ?_ ?_ ?_); (rotate_left 2); (· (simp [Region.wanted, yielded, Go.undef]; done)); (· (intro w' hS'; go_simp; try (with_reducible rfl))); (· (simp only [Act.put, List.setIfInBounds_toArray, List.set_cons_zero, List.set_cons_succ]; exact rfl))) | ((refine quiet_below (v := ?_) (a' := ?_) 36 ?_ ?_ ?_ ?_ ?_ ?_); (rotate_left 3); (· (simp [Region.wanted, yielded, Go.undef]; done)); (· (intro w' hS'; go_simp; try (with_reducible rfl))); (· (intro w' hS'; exact operands_any _ _)); (· (simp only [Act.put, List.setIfInBounds_toArray, List.set_cons_zero, List.set_cons_succ]; exact rfl))) | ((refine quiet_same (v := ?_) (a' := ?_) 37 ?_ ?_ ?_ ?_ ?_ ?_); (rotate_left 3); (· (simp [Region.wanted, yielded, Go.undef]; done)); (· (intro w' hS'; go_simp; try (with_reducible rfl))); (· (intro w' hS'; exact within_any _ _ _ _)); (· (simp only [Act.put, List.setIfInBounds_toArray, List.set_cons_zero, List.set_cons_succ]; exact rfl))))
        refine quiet_nil ?_
        intro w2 hb2
        replace hB := hB.keep hb2
        replace hG := hG.keep hb2
        replace hrx := hrx.below hb2
        replace hg0 := only_below hg0 hb2
        clear r0 r1 r2 r3 hb2
        go_wp2_with fail
        go_ret
        exact ⟨_, c0 + 1, rfl, scan_no (by have := H.out; omega), (fun h => (by cases h)), by omega, by omega, hG, hg0⟩
    · have q0 : decide (400 < c0 + 1) = true := by simp; omega
      have H := hide h0
      go_enter Tryd.func22, Tryd.ntmps22
      go_wp2_with fail
      refine name_world ?_
      intro wx hwx
      have hg0 : w.grownBy wx (some g) := by rw [hwx]; exact only_alloc (only_setCell (World.grownBy.refl _ _) (.inl rfl) _) _
      have hB : Blk wx w.heap.size #[.int .i64 k, .int .i64 n, .slice A ks.length c] := by rw [hwx]; exact Blk.new_ _ _ _ (by simp)
      have hG : Blk wx g #[.int .i64 (c0 + 1)] := by rw [hwx]; exact (hcb.set_ 0 _).alloc _
      have hrx : RdP (· ≠ g) wx A 0 ks := hr.grown hg0 (fun b hb e => hb (by injection e))
      have hsx : w.heap.size < wx.heap.size := by rw [hwx]; simp
      have r0 := hB.rule (i := 0) rfl
      have r1 := hB.rule (i := 1) rfl
      have r2 := hB.rule (i := 2) rfl
      have r3 := hG.rule (i := 0) rfl
      clear hwx
      refine wp_region_class (fun w' => Below wx.heap.size wx w') (by kernel_rfl) (by kernel_rfl) (Below.refl _ _).drew ?_
      repeat (first | ((refine quiet_skip (a' := ?_) ?_ ?_ ?_); (rotate_left); (· (simp [Region.wanted, yielded, Go.undef]; done)); (· (simp only [Act.put, List.setIfInBounds_toArray, List.set_cons_zero, List.set_cons_succ]; exact rfl))) | ((refine quiet_one (v := ?_) (a' := ?_) ?_ ?_ ?_ ?_); (rotate_left 2); (· (simp [Region.wanted, yielded, Go.undef]; done)); (· (intro w' hS'; go_simp; try (with_reducible rfl))); (· (simp only [Act.put, List.setIfInBounds_toArray, List.set_cons_zero, List.set_cons_succ]; exact rfl))) | ((refine quiet_below (v := ?_) (a' := ?_) 36 ?_ ?_ ?_ ?_ ?_ ?_); (rotate_left 3); (· (simp [Region.wanted, yielded, Go.undef]; done)); (· (intro w' hS'; go_simp; try (with_reducible rfl))); (· (intro w' hS'; exact operands_any _ _)); (· (simp only [Act.put, List.setIfInBounds_toArray, List.set_cons_zero, List.set_cons_succ]; exact rfl))) | ((refine quiet_same (v := ?_) (a' := ?_) 37 ?_ ?_ ?_ ?_ ?_ ?_); (rotate_left 3); (· (simp [Region.wanted, yielded, Go.undef]; done)); (· (intro w' hS'; go_simp; try (with_reducible rfl))); (· (intro w' hS'; exact within_any _ _ _ _)); (· (simp only [Act.put, List.setIfInBounds_toArray, List.set_cons_zero, List.set_cons_succ]; exact rfl))))
      refine quiet_nil ?_
      intro w2 hb2
      replace hB := hB.keep hb2
      replace hG := hG.keep hb2
      replace hrx := hrx.below hb2
      replace hg0 := only_below hg0 hb2
      clear r0 r1 r2 r3 hb2
      go_wp2_with fail
      go_ret
      exact ⟨_, c0 + 1, rfl, scan_no (by have := H.out; omega), (fun h => (by cases h)), by omega, by omega, hG, hg0⟩
end Go.Proofs.YtjpgdfndlmipcaaDoor.Cd

namespace Go.Proofs.YtjpgdfndlmipcaaDoor
open Go.RowKit
set_option linter.unusedSimpArgs false
set_option linter.unusedVariables false

/-- the shapes of the sixteen kinds, a dot for each operand -/
def shpX : List (List UInt8) := [[35], [42], [40, 46, 62, 46, 41], [91, 46, 93, 46], [40, 46, 32, 46, 41], [78], [48], [43, 46], [60, 46, 44, 46, 44, 46, 44, 46, 62], [123, 46, 44, 46, 44, 46, 125], [33, 46], [64, 60, 46, 44, 46, 44, 46, 62], [40, 46, 42, 46, 41], [124, 46, 44, 46, 44, 46, 124], [94, 46], [95, 46]]
/-- what stands around the operands -/
def prt : Nat → List (List UInt8)
  | 3 => [[40], [62], [41]]
  | 4 => [[91], [93], []]
  | 5 => [[40], [32], [41]]
  | 6 => [[78]]
  | 7 => [[48]]
  | 8 => [[43], []]
  | 9 => [[60], [44], [44], [44], [62]]
  | 10 => [[123], [44], [44], [125]]
  | 11 => [[33], []]
  | 12 => [[64, 60], [44], [44], [62]]
  | 13 => [[40], [42], [41]]
  | 14 => [[124], [44], [44], [124]]
  | 15 => [[94], []]
  | 16 => [[95], []]
  | _ => []
/-- behind a part: an operand's text, the next part, and so on -/
def rem : List (List UInt8) → List (List UInt8) → List UInt8
  | x :: xs, p :: ps => x ++ (p ++ rem xs ps)
  | _, _ => []
def inter : List (List UInt8) → List (List UInt8) → List UInt8
  | p :: ps, xs => p ++ rem xs ps
  | [], _ => []
theorem rem_nil {ps : List (List UInt8)} : rem [] ps = [] := by cases ps <;> rfl
theorem rem_drop {xs ps : List (List UInt8)} {j : Nat} {x p : List UInt8} (hx : xs[j]? = some x) (hp : ps[j]? = some p) : rem (xs.drop j) (ps.drop j) = x ++ (p ++ rem (xs.drop (j + 1)) (ps.drop (j + 1))) := by
  obtain ⟨h1, rfl⟩ := List.getElem?_eq_some_iff.1 hx
  obtain ⟨h2, rfl⟩ := List.getElem?_eq_some_iff.1 hp
  rw [List.drop_eq_getElem_cons h1, List.drop_eq_getElem_cons h2, rem]

inductive Tu : Nat → Tm → List UInt8 → Prop
  | num (d k : Nat) (n : Int) (c : UInt8) (h : (k = 1 ∧ n ≤ 9 ∨ k = 2 ∧ n ≤ 3) ∧ 0 ≤ n ∧ (c.toNat : Int) = 48 + n) : Tu (d + 1) (.mk k n []) ((shpX[k - 1]?).getD [] ++ [c])
  | node (d k : Nat) (ts : List Tm) (xs : List (List UInt8)) (hk : 3 ≤ k ∧ k ≤ 16) (hl : (prt k).length = ts.length + 1) (hx : xs.length = ts.length)
      (ht : ∀ (j : Nat) (t : Tm) (x : List UInt8), ts[j]? = some t → xs[j]? = some x → Tu d t x) : Tu (d + 1) (.mk k 0 ts) (inter (prt k) xs)
theorem two_at {α β : Type} {q : α → β → Prop} {t u : α} {x y : β} (h1 : q t x) (h2 : q u y) : ∀ (j : Nat) (a : α) (b : β), [t, u][j]? = some a → [x, y][j]? = some b → q a b
  | 0, a, b, ha, hb => by cases ha; cases hb; exact h1
  | 1, a, b, ha, hb => by cases ha; cases hb; exact h2
  | j + 2, a, b, ha, hb => by simp at ha
theorem one_at {α β : Type} {q : α → β → Prop} {t : α} {x : β} (h1 : q t x) : ∀ (j : Nat) (a : α) (b : β), [t][j]? = some a → [x][j]? = some b → q a b
  | 0, a, b, ha, hb => by cases ha; cases hb; exact h1
  | j + 1, a, b, ha, hb => by simp at ha
theorem none_at {α β : Type} {q : α → β → Prop} {l : List β} : ∀ (j : Nat) (a : α) (b : β), ([] : List α)[j]? = some a → l[j]? = some b → q a b := fun j a b ha => by simp at ha
theorem Tx.tu {d : Nat} {t : Tm} {b : List UInt8} (h : Tx d t b) : Tu d t b := by
  induction h with
  | var d n c h => exact .num d 1 n c ⟨.inl ⟨rfl, h.2.1⟩, h.1, h.2.2⟩
  | sort d n c h => exact .num d 2 n c ⟨.inr ⟨rfl, h.2.1⟩, h.1, h.2.2⟩
  | nat d => exact .node d 6 [] [] ⟨by decide, by decide⟩ rfl rfl none_at
  | zero d => exact .node d 7 [] [] ⟨by decide, by decide⟩ rfl rfl none_at
  | pre d k c t b h ht ih =>
    rcases h with ⟨rfl, rfl⟩ | ⟨rfl, rfl⟩ | ⟨rfl, rfl⟩ | ⟨rfl, rfl⟩
    · have := Tu.node d 8 [t] [b] ⟨by decide, by decide⟩ rfl rfl (one_at ih); simpa [inter, prt, rem] using this
    · have := Tu.node d 11 [t] [b] ⟨by decide, by decide⟩ rfl rfl (one_at ih); simpa [inter, prt, rem] using this
    · have := Tu.node d 15 [t] [b] ⟨by decide, by decide⟩ rfl rfl (one_at ih); simpa [inter, prt, rem] using this
    · have := Tu.node d 16 [t] [b] ⟨by decide, by decide⟩ rfl rfl (one_at ih); simpa [inter, prt, rem] using this
  | rnd d k c t u x y h ht hu i1 i2 =>
    rcases h with ⟨rfl, rfl⟩ | ⟨rfl, rfl⟩ | ⟨rfl, rfl⟩
    · have := Tu.node d 3 [t, u] [x, y] ⟨by decide, by decide⟩ rfl rfl (two_at i1 i2); simpa [inter, prt, rem] using this
    · have := Tu.node d 13 [t, u] [x, y] ⟨by decide, by decide⟩ rfl rfl (two_at i1 i2); simpa [inter, prt, rem] using this
    · have := Tu.node d 5 [t, u] [x, y] ⟨by decide, by decide⟩ rfl rfl (two_at i1 i2); simpa [inter, prt, rem] using this
  | lam d t u x y ht hu i1 i2 => have := Tu.node d 4 [t, u] [x, y] ⟨by decide, by decide⟩ rfl rfl (two_at i1 i2); simpa [inter, prt, rem] using this
  | blk d k m o c ts xs h hm hx ht ih =>
    rcases h with ⟨rfl, rfl, rfl, rfl⟩ | ⟨rfl, rfl, rfl, rfl⟩ | ⟨rfl, rfl, rfl, rfl⟩ | ⟨rfl, rfl, rfl, rfl⟩
    · have := Tu.node d 9 ts xs ⟨by decide, by decide⟩ (by rw [hm]; rfl) (by omega) ih
      match xs, hx with
      | [a, b, c, e], _ => simpa [inter, prt, rem, ser] using this
    · have := Tu.node d 10 ts xs ⟨by decide, by decide⟩ (by rw [hm]; rfl) (by omega) ih
      match xs, hx with
      | [a, b, c], _ => simpa [inter, prt, rem, ser] using this
    · have := Tu.node d 14 ts xs ⟨by decide, by decide⟩ (by rw [hm]; rfl) (by omega) ih
      match xs, hx with
      | [a, b, c], _ => simpa [inter, prt, rem, ser] using this
    · have := Tu.node d 12 ts xs ⟨by decide, by decide⟩ (by rw [hm]; rfl) (by omega) ih
      match xs, hx with
      | [a, b, c], _ => simpa [inter, prt, rem, ser] using this

/-- the kind that a first sign tells -/
def kind0 (k : Nat) : Nat := if k = 5 ∨ k = 13 then 3 else k
theorem prt_kinds {k : Nat} (hk : 3 ≤ k ∧ k ≤ 16) : k = 3 ∨ k = 4 ∨ k = 5 ∨ k = 6 ∨ k = 7 ∨ k = 8 ∨ k = 9 ∨ k = 10 ∨ k = 11 ∨ k = 12 ∨ k = 13 ∨ k = 14 ∨ k = 15 ∨ k = 16 := by omega
/-- a part behind an operand begins with no digit; the empty one is the last -/
theorem prt_sign {k j : Nat} {p : List UInt8} (hk : 3 ≤ k ∧ k ≤ 16) (hp : (prt k)[j + 1]? = some p) : (p = [] ∧ (prt k).length = j + 2) ∨ ∃ c q, p = c :: q ∧ (c.toNat < 48 ∨ 57 < c.toNat) := by
  rcases prt_kinds hk with rfl | rfl | rfl | rfl | rfl | rfl | rfl | rfl | rfl | rfl | rfl | rfl | rfl | rfl <;>
  · simp only [prt] at hp ⊢
    rcases j with _ | _ | _ | _ | j <;> simp at hp <;> subst hp <;> first | (exact .inl ⟨rfl, rfl⟩) | (exact .inr ⟨_, _, rfl, by decide⟩)
end Go.Proofs.YtjpgdfndlmipcaaDoor

namespace Go.Proofs.YtjpgdfndlmipcaaDoor.Cd
open Go.RowKit
set_option linter.unusedSimpArgs false
set_option linter.unusedVariables false

/-- what stands around the operands of a code -/
def prt : Nat → List (List UInt8)
  | 2 => [[46], []]
  | 3 => [[40], [32], [41]]
  | 4 => [[48]]
  | 5 => [[43], []]
  | 6 => [[60], [44], [44], [62]]
  | 7 => [[124], [44], [124]]
  | 8 => [[94], []]
  | 9 => [[95], []]
  | 10 => [[63]]
  | _ => []
theorem kinds {k : Nat} (hk : 2 ≤ k ∧ k ≤ 10) : k = 2 ∨ k = 3 ∨ k = 4 ∨ k = 5 ∨ k = 6 ∨ k = 7 ∨ k = 8 ∨ k = 9 ∨ k = 10 := by omega
inductive Tc : Nat → Tm → List UInt8 → Prop
  | num (d n : Nat) (h : n ≤ 20) : Tc (d + 1) (.mk 1 n []) (35 :: Lib.decDigits n)
  | node (d k : Nat) (ts : List Tm) (xs : List (List UInt8)) (hk : 2 ≤ k ∧ k ≤ 10) (hl : (prt k).length = ts.length + 1) (hx : xs.length = ts.length)
      (ht : ∀ (j : Nat) (t : Tm) (x : List UInt8), ts[j]? = some t → xs[j]? = some x → Tc d t x) : Tc (d + 1) (.mk k 0 ts) (inter (prt k) xs)

/-- begins with no digit -/
def nd : List UInt8 → Prop
  | [] => True
  | c :: _ => c.toNat < 48 ∨ 57 < c.toNat
def ndB : List UInt8 → Bool
  | [] => false
  | c :: _ => decide (c.toNat < 48) || decide (57 < c.toNat)
def good : List (List UInt8) → Bool
  | [] => true
  | [p] => p.isEmpty || ndB p
  | p :: q :: ps => ndB p && good (q :: ps)
theorem ndB_app {p : List UInt8} (h : ndB p = true) (x : List UInt8) : nd (p ++ x) := by
  cases p with
  | nil => cases h
  | cons c p => simpa [ndB, nd] using h
theorem digits_le {n : Nat} (h : n ≤ 20) : (Lib.decDigits n).length ≤ 2 := by
  by_cases h1 : n < 10
  · rw [Lib.decDigits_one h1]; simp
  · rw [Lib.decDigits_two h1 (by omega)]; simp
theorem dig_nat {i : Nat} (h : i < 10) : (UInt8.ofNat (48 + i)).toNat = 48 + i := by
  rw [UInt8.toNat_ofNat']; omega
theorem dig_inj {i j : Nat} (hi : i < 10) (hj : j < 10) (h : UInt8.ofNat (48 + i) = UInt8.ofNat (48 + j)) : i = j := by
  have := congrArg UInt8.toNat h
  rw [dig_nat hi, dig_nat hj] at this; omega
theorem digits_uniq {n m : Nat} {x y : List UInt8} (hn : n ≤ 20) (hm : m ≤ 20) (hx : nd x) (hy : nd y) (h : Lib.decDigits n ++ x = Lib.decDigits m ++ y) : n = m ∧ x = y := by
  by_cases h1 : n < 10 <;> by_cases h2 : m < 10
  · rw [Lib.decDigits_one h1, Lib.decDigits_one h2] at h
    simp only [List.cons_append, List.nil_append, List.cons.injEq] at h
    exact ⟨dig_inj h1 h2 h.1, h.2⟩
  · rw [Lib.decDigits_one h1, Lib.decDigits_two h2 (by omega)] at h
    simp only [List.cons_append, List.nil_append, List.cons.injEq] at h
    obtain ⟨_, rfl⟩ := h
    have := dig_nat (i := m % 10) (by omega)
    simp only [nd] at hx
    omega
  · rw [Lib.decDigits_two h1 (by omega), Lib.decDigits_one h2] at h
    simp only [List.cons_append, List.nil_append, List.cons.injEq] at h
    obtain ⟨_, rfl⟩ := h
    have := dig_nat (i := n % 10) (by omega)
    simp only [nd] at hy
    omega
  · rw [Lib.decDigits_two h1 (by omega), Lib.decDigits_two h2 (by omega)] at h
    simp only [List.cons_append, List.nil_append, List.cons.injEq] at h
    have e1 := dig_inj (by omega) (by omega) h.1
    have e2 := dig_inj (by omega) (by omega) h.2.1
    exact ⟨by omega, h.2.2⟩
theorem prt_good {k : Nat} (hk : 2 ≤ k ∧ k ≤ 10) : ∃ c ps, prt k = [c] :: ps ∧ good ps = true ∧ c ≠ 35 := by
  rcases kinds hk with rfl | rfl | rfl | rfl | rfl | rfl | rfl | rfl | rfl <;> exact ⟨_, _, rfl, by decide, by decide⟩
theorem prt_head {k l : Nat} {c : UInt8} {ps qs : List (List UInt8)} (hk : 2 ≤ k ∧ k ≤ 10) (hl : 2 ≤ l ∧ l ≤ 10) (h1 : prt k = [c] :: ps) (h2 : prt l = [c] :: qs) : k = l := by
  rcases kinds hk with rfl | rfl | rfl | rfl | rfl | rfl | rfl | rfl | rfl <;>
  · simp only [prt, List.cons.injEq] at h1
    obtain ⟨⟨rfl, _⟩, _⟩ := h1
    rcases kinds hl with rfl | rfl | rfl | rfl | rfl | rfl | rfl | rfl | rfl <;> first | rfl | (exact absurd h2 (by simp [prt]))
theorem rem_uniq {p : Tm → List UInt8 → Prop} {q : Tm → List UInt8 → Prop} (hpq : ∀ t x, p t x → ∀ u y a b, q u y → nd a → nd b → x ++ a = y ++ b → t = u ∧ a = b) : ∀ (ps xs ys : List (List UInt8)) (ts us : List Tm) (a b : List UInt8),
    good ps = true → ps.length = ts.length → ps.length = us.length → xs.length = ts.length → ys.length = us.length → (∀ (j : Nat) (t : Tm) (x : List UInt8), ts[j]? = some t → xs[j]? = some x → p t x) → (∀ (j : Nat) (t : Tm) (x : List UInt8), us[j]? = some t → ys[j]? = some x → q t x) →
    nd a → nd b → rem xs ps ++ a = rem ys ps ++ b → ts = us ∧ a = b
  | [], xs, ys, ts, us, a, b, hg, h1, h2, h3, h4, ht, hu, ha, hb, h => by
    have e1 := List.eq_nil_of_length_eq_zero h1.symm
    have e2 := List.eq_nil_of_length_eq_zero h2.symm
    subst e1 e2
    have e1 := List.eq_nil_of_length_eq_zero h3
    have e2 := List.eq_nil_of_length_eq_zero h4
    subst e1 e2
    exact ⟨rfl, h⟩
  | s :: ps, xs, ys, ts, us, a, b, hg, h1, h2, h3, h4, ht, hu, ha, hb, h => by
    match ts, us, xs, ys, h1, h2, h3, h4 with
    | t :: ts, u :: us, x :: xs, y :: ys, h1, h2, h3, h4 =>
    simp only [List.length_cons] at h1 h2 h3 h4
    simp only [rem, List.append_assoc] at h
    have hnd : nd (s ++ (rem xs ps ++ a)) ∧ nd (s ++ (rem ys ps ++ b)) ∧ good ps = true := by
      cases ps with
      | nil =>
        have e1 := List.eq_nil_of_length_eq_zero (show ts.length = 0 by simp only [List.length_nil] at h1; omega)
        have e2 := List.eq_nil_of_length_eq_zero (show us.length = 0 by simp only [List.length_nil] at h2; omega)
        subst e1 e2
        have e1 := List.eq_nil_of_length_eq_zero (show xs.length = 0 by simp only [List.length_nil] at h3; omega)
        have e2 := List.eq_nil_of_length_eq_zero (show ys.length = 0 by simp only [List.length_nil] at h4; omega)
        subst e1 e2
        simp only [good, Bool.or_eq_true] at hg
        rcases hg with hg | hg
        · have : s = [] := by simpa using hg
          subst this
          exact ⟨ha, hb, rfl⟩
        · exact ⟨ndB_app hg _, ndB_app hg _, rfl⟩
      | cons s' ps =>
        simp only [good, Bool.and_eq_true] at hg
        exact ⟨ndB_app hg.1 _, ndB_app hg.1 _, hg.2⟩
    obtain ⟨e1, e2⟩ := hpq t x (ht 0 t x rfl rfl) u y _ _ (hu 0 u y rfl rfl) hnd.1 hnd.2.1 h
    have e3 := List.append_cancel_left e2
    obtain ⟨e4, e5⟩ := rem_uniq hpq ps xs ys ts us a b hnd.2.2 (by omega) (by omega) (by omega) (by omega) (fun j t x h1 h2 => ht (j + 1) t x (by simpa using h1) (by simpa using h2)) (fun j t x h1 h2 => hu (j + 1) t x (by simpa using h1) (by simpa using h2)) ha hb e3
    exact ⟨by rw [e1, e4], e5⟩
theorem Tc.uniq {d : Nat} {t : Tm} {x : List UInt8} (h : Tc d t x) : ∀ (u : Tm) (y a b : List UInt8), Tc d u y → nd a → nd b → x ++ a = y ++ b → t = u ∧ a = b := by
  induction h with
  | num d n hn =>
    intro u y a b hu ha hb he
    cases hu with
    | num _ m hm =>
      simp only [List.cons_append, List.cons.injEq, true_and] at he
      obtain ⟨rfl, e⟩ := digits_uniq hn hm ha hb he
      exact ⟨rfl, e⟩
    | node _ k ts xs hk hl hx ht =>
      obtain ⟨c, ps, e, _, hc⟩ := prt_good hk
      rw [e] at he
      simp only [inter, List.cons_append, List.nil_append, List.cons.injEq] at he
      exact absurd he.1.symm hc
  | node d k ts xs hk hl hx ht ih =>
    intro u y a b hu ha hb he
    obtain ⟨c, ps, e, hg, hc⟩ := prt_good hk
    rw [e] at he
    simp only [inter, List.cons_append, List.nil_append] at he
    cases hu with
    | num _ m hm =>
      simp only [List.cons_append, List.cons.injEq] at he
      exact absurd he.1 hc
    | node _ l us ys hk' hl' hx' ht' =>
      obtain ⟨c', qs, e', _, _⟩ := prt_good hk'
      rw [e'] at he
      simp only [inter, List.cons_append, List.nil_append, List.cons.injEq] at he
      obtain ⟨rfl, he⟩ := he
      have hkl := prt_head hk hk' e e'
      subst hkl
      rw [e] at e'
      simp only [List.cons.injEq, true_and] at e'
      subst e'
      rw [e] at hl hl'
      simp only [List.length_cons] at hl hl'
      obtain ⟨e1, e2⟩ := rem_uniq (p := fun t x => ∀ (u : Tm) (y a b : List UInt8), Tc d u y → nd a → nd b → x ++ a = y ++ b → t = u ∧ a = b) (q := Tc d) (fun t x h u y a b hu ha hb he => h u y a b hu ha hb he) ps xs ys ts us a b hg (by omega) (by omega) hx hx' ih ht' ha hb he
      exact ⟨by rw [e1], e2⟩
theorem Tc.inj {d : Nat} {t u : Tm} {x : List UInt8} (h : Tc d t x) (h' : Tc d u x) : t = u := (h.uniq u x [] [] h' trivial trivial rfl).1
theorem Tc.ne {d : Nat} {t : Tm} {x : List UInt8} (h : Tc d t x) : x ≠ [] := by
  cases h with
  | num _ n hn => simp
  | node _ k ts xs hk hl hx ht => obtain ⟨c, ps, e, _, _⟩ := prt_good hk; rw [e]; simp [inter]
theorem arity_prt {k : Nat} (hk : 2 ≤ k ∧ k ≤ 10) : arity k + 1 = ((prt k).length : Int) := by
  rcases kinds hk with rfl | rfl | rfl | rfl | rfl | rfl | rfl | rfl | rfl <;> rfl
theorem rem_len : ∀ (xs ps : List (List UInt8)) (ts : List Tm), (∀ p, p ∈ ps → p.length ≤ 1) → xs.length = ts.length → ps.length = ts.length → (∀ (j : Nat) (t : Tm) (x : List UInt8), ts[j]? = some t → xs[j]? = some x → x.length ≤ 4 * t.size) → (rem xs ps).length ≤ 4 * sizes ts + ts.length
  | [], ps, ts, _, h1, _, _ => by rw [rem_nil]; simp
  | x :: xs, [], ts, _, h1, h2, _ => by simp at h1 h2; omega
  | x :: xs, p :: ps, [], _, h1, _, _ => by simp at h1
  | x :: xs, p :: ps, t :: ts, hp, h1, h2, h => by
    have := rem_len xs ps ts (fun p h => hp p (by simp [h])) (by simpa using h1) (by simpa using h2) (fun j t x h1 h2 => h (j + 1) t x (by simpa using h1) (by simpa using h2))
    have h3 := h 0 t x rfl rfl
    have h4 := hp p (by simp)
    simp only [rem, List.length_append, sizes, List.length_cons]
    omega
/-- a code that is well formed has a text -/
theorem shape_text (d : Nat) : ∀ (t : Tm), shape d t = true → ∃ x, Tc d t x ∧ x.length ≤ 4 * t.size := by
  induction d with
  | zero => intro t h; simp [shape] at h
  | succ d ih =>
    rintro ⟨k, n, ks⟩ h
    obtain ⟨h1, h2, h3, h4⟩ := (shape_split d k n ks).1 h
    by_cases hk1 : k = 1
    · subst hk1
      have : ks = [] := by have h1 : (0 : Int) = (ks.length : Int) := h1; exact List.eq_nil_of_length_eq_zero (by omega)
      subst this
      have h3 : n ≤ 20 := h3
      obtain ⟨m, rfl⟩ : ∃ m : Nat, n = m := ⟨n.toNat, by omega⟩
      refine ⟨_, .num d m (by omega), ?_⟩
      have := digits_le (n := m) (by omega)
      simp only [List.length_cons, Tm.size, sizes]; omega
    · have hn : n = 0 := by rw [mostN, if_neg hk1] at h3; omega
      subst hn
      have hk : ∃ m : Nat, k = m ∧ 2 ≤ m ∧ m ≤ 10 := by
        unfold arity at h1
        repeat' split at h1
        all_goals first | (exfalso; omega) | (subst_vars; exact ⟨_, rfl, by decide, by decide⟩)
      obtain ⟨m, rfl, hm⟩ := hk
      have ha := arity_prt hm
      have hex : ∀ ts : List Tm, (∀ t, t ∈ ts → shape d t = true) → ∃ xs : List (List UInt8), xs.length = ts.length ∧ ∀ (j : Nat) (t : Tm) (x : List UInt8), ts[j]? = some t → xs[j]? = some x → Tc d t x ∧ x.length ≤ 4 * t.size := by
        intro ts
        induction ts with
        | nil => intro _; exact ⟨[], rfl, fun j t x h => by simp at h⟩
        | cons t ts iht =>
          intro hs
          obtain ⟨xs, e1, e2⟩ := iht fun u hu => hs u (by simp [hu])
          obtain ⟨x, e3⟩ := ih t (hs t (by simp))
          refine ⟨x :: xs, by simp [e1], fun j u y hj hy => ?_⟩
          cases j with
          | zero => simp only [List.getElem?_cons_zero, Option.some.injEq] at hj hy; subst hj hy; exact e3
          | succ j => exact e2 j u y (by simpa using hj) (by simpa using hy)
      obtain ⟨xs, hx, hxs⟩ := hex ks h4
      have hl : (prt m).length = ks.length + 1 := by omega
      refine ⟨_, .node d m ks xs hm hl hx fun j t x h1 h2 => (hxs j t x h1 h2).1, ?_⟩
      obtain ⟨c, ps, e, _, _⟩ := prt_good hm
      have hps : ∀ p, p ∈ ps → p.length ≤ 1 := by
        rcases kinds hm with rfl | rfl | rfl | rfl | rfl | rfl | rfl | rfl | rfl <;> simp only [prt, List.cons.injEq] at e <;> obtain ⟨_, rfl⟩ := e <;> decide
      have hl3 : ks.length ≤ 3 := by
        have : (prt m).length ≤ 4 := by rcases kinds hm with rfl | rfl | rfl | rfl | rfl | rfl | rfl | rfl | rfl <;> decide
        omega
      rw [e] at hl ⊢
      simp only [List.length_cons] at hl
      have := rem_len xs ps ks hps hx (by omega) fun j t x h1 h2 => (hxs j t x h1 h2).2
      simp only [inter, List.length_append, List.length_cons, List.length_nil, Tm.size]
      omega
end Go.Proofs.YtjpgdfndlmipcaaDoor.Cd

namespace Go.Proofs.YtjpgdfndlmipcaaDoor
open Go.RowKit
set_option linter.unusedSimpArgs false
set_option linter.unusedVariables false

/-- a term that has been read, and the place behind it -/
def ParsedT (w : World) (k n : Int) (ks : List Tm) (j : Nat) (e : Ending) (w' : World) : Prop :=
  ∃ (m : Nat) (A : Option Addr) (c : Nat), m = j ∧ e = .returned (.tuple #[.agg #[.int .i64 k, .int .i64 n, .slice A ks.length c], .int .i64 m]) ∧ ks.length ≤ 9223372036854775807 ∧ Fresh w.heap.size w' A ks ∧ Below w.heap.size w w'
def ParseOk (k n : Int) (ks : List Tm) (bs : List UInt8) (d : Nat) : Prop :=
  ∀ (s : ByteArray) (i : Nat) (I D : Int) (w : World), s.size ≤ 1000000 → I = i → Has s i bs → Nd s (i + bs.length) → (d : Int) ≤ D → D ≤ 1000 →
    Calls Tryd.prog 48 #[.string s, .int .i64 I, .int .i64 D] w (ParsedT w k n ks (i + bs.length))

theorem Fresh.node {B : Nat} {w : World} {A : Option Addr} {ks : List Tm} (h : Fresh B w A ks) (hl : ks.length ≤ 9223372036854775807) (k n : Int) (c : Nat) :
    ∃ fp, OwX w [.mk k n ks] [.int .i64 k, .int .i64 n, .slice A ks.length c] fp ∧ fp.Nodup ∧ ∀ b, b ∈ fp → B ≤ b := by
  obtain ⟨fp, h1, h2, h3⟩ := h
  exact ⟨fp, OwX.one (OwT.iff.2 ⟨A, c, rfl, hl, h1⟩), h2, h3⟩
theorem Fresh.node2 {B : Nat} {w1 w2 : World} {A1 A2 : Option Addr} {ks1 ks2 : List Tm} (h1 : Fresh B w1 A1 ks1) (hb : Below w1.heap.size w1 w2) (h2 : Fresh w1.heap.size w2 A2 ks2) (hB : B ≤ w1.heap.size)
    (hl1 : ks1.length ≤ 9223372036854775807) (hl2 : ks2.length ≤ 9223372036854775807) (k1 n1 k2 n2 : Int) (c1 c2 : Nat) :
    ∃ fp, OwX w2 [.mk k1 n1 ks1, .mk k2 n2 ks2] [.int .i64 k1, .int .i64 n1, .slice A1 ks1.length c1, .int .i64 k2, .int .i64 n2, .slice A2 ks2.length c2] fp ∧ fp.Nodup ∧ ∀ b, b ∈ fp → B ≤ b := by
  obtain ⟨f1, a1, a2, a3⟩ := h1
  obtain ⟨f2, b1, b2, b3⟩ := h2
  have hlt := a1.lt
  refine ⟨f1 ++ f2, OwX.cons_iff.2 ⟨[.int .i64 k1, .int .i64 n1, .slice A1 ks1.length c1], [.int .i64 k2, .int .i64 n2, .slice A2 ks2.length c2], f1, f2, rfl, rfl, OwT.iff.2 ⟨A1, c1, rfl, hl1, a1.frame fun b hbf => hb.block b (hlt b hbf)⟩, OwX.one (OwT.iff.2 ⟨A2, c2, rfl, hl2, b1⟩)⟩, ?_, ?_⟩
  · refine List.nodup_append.2 ⟨a2, b2, fun x hx y hy e => ?_⟩
    have := hlt x hx; have := b3 y hy; omega
  · intro b hbm
    rcases List.mem_append.1 hbm with h | h
    · exact a3 b h
    · have := b3 b h; omega
theorem OwX.below {w w' : World} {ts : List Tm} {xs : List Value} {fp : List Nat} (h : OwX w ts xs fp) (hb : Below w.heap.size w w') : OwX w' ts xs fp := h.frame fun b hbf => hb.block b (h.lt b hbf)
theorem OwX.alloc {w : World} {ts : List Tm} {xs : List Value} {fp : List Nat} (h : OwX w ts xs fp) (o : Obj) : OwX (w.alloc o) ts xs fp := h.frame fun b hb => Below.heap_alloc w o b (h.lt b hb)
theorem Part.empty {B g : Nat} {w : World} (h : Blk w g #[]) (hg : B ≤ g) (ht : ∀ t, w.heap[g]? = some (.cells #[] t (0, 0)) → t = 48) : Part B w (.slice (some ⟨g, 0, none⟩) 0 0) [] := by
  obtain ⟨t, h⟩ := h
  have := ht t h
  subst this
  exact ⟨[], [], ⟨by simp, .inr ⟨g, 0, #[], rfl, hg, h, Nat.le_refl _, by simp [maxLen], by simp, by simp⟩⟩, OwX.nil, List.nodup_nil, by simp, by simp⟩
theorem Part.empty_ {B g : Nat} {w : World} (hg : g = w.heap.size) (hB : B ≤ g) : Part B (w.alloc (.cells #[] 48)) (.slice (some ⟨g, 0, none⟩) 0 0) [] := by
  subst hg
  exact ⟨[], [], ⟨by simp, .inr ⟨_, 0, #[], rfl, hB, heap_alloc_new w _, Nat.le_refl _, by simp [maxLen], by simp, by simp⟩⟩, OwX.nil, List.nodup_nil, by simp, by simp⟩

set_option maxHeartbeats 2000000 in
set_option maxRecDepth 100000 in
theorem prefix_any {k : Int} {c : UInt8} {k1 n1 : Int} {ks1 : List Tm} {b : List UInt8} {d : Nat} (h : PreK k c) (ih : ParseOk k1 n1 ks1 b d) (s : ByteArray) (i : Nat) (I D : Int) (w : World) (hs : s.size ≤ 1000000) (hI : I = i) (hh : Has s i (c :: b)) (hn : Nd s (i + 1 + b.length)) (hD : (d : Int) + 1 ≤ D) (hD2 : D ≤ 1000) :
    Calls Tryd.prog 61 #[.string s, .int .i64 I, .int .i64 D] w (ParsedT w k 0 [.mk k1 n1 ks1] (i + 1 + b.length)) := by
  subst hI
  obtain ⟨⟨hi, hc⟩, hh2⟩ := hh.cons
  have hpar := hide (fun w => ih s (i + 1) ((i : Int) + 1) (D - 1) w hs (by omega) hh2 hn (by omega) (by omega))
  clear ih hh hh2 hn
  have enter : ∀ x : Nat, (s[i]'hi).toNat = x → (x = c.toNat) → Calls Tryd.prog 61 #[.string s, .int .i64 i, .int .i64 D] w (ParsedT w k 0 [.mk k1 n1 ks1] (i + 1 + b.length)) := by
    intro x he hx
    clear hc
    rcases h with ⟨rfl, rfl⟩ | ⟨rfl, rfl⟩ | ⟨rfl, rfl⟩ | ⟨rfl, rfl⟩
    all_goals
      subst hx
      go_enter Tryd.func61, Tryd.ntmps61
      go_wp2_with (first
        | (go_at_call 44; refine (l1Node_any (B := w.heap.size + 1) (us := [.mk k1 n1 ks1]) _ (by simp; omega) ((hO.alloc _).alloc _) hnd hge (by simp) _ 1 (Blk.new_ _ 48 _ (by simp))).mono ?_; rintro e w2 ⟨A2, c2, rfl, hf2, hb2⟩; replace hZ := ((hZ.alloc _).alloc _).keep hb2; have d0 := hZ.at_ (i := 0) rfl; have d1 := hZ.at_ (i := 1) rfl; have d2 := hZ.at_ (i := 2) rfl; have e0 := hZ.frozen 0; have e1 := hZ.frozen 1; have e2 := hZ.frozen 2; have g2 : Below w.heap.size w w2 := ((g1.alloc (by omega) _).alloc (by simp; omega) _).trans (hb2.mono (by simp; omega)))
        | (go_at_call 48; refine (hpar.out _).mono ?_; rintro e w1 ⟨m, A1, c1, hm, rfl, hl1, hf1, hb1⟩; have hm' := hide hm; clear hm; obtain ⟨fp, hO, hnd, hge⟩ := (hf1.mono (B' := w.heap.size + 1) (by simp)).node hl1 k1 n1 c1; have hZ := (Blk.new_ w 48 #[.int .i64 0, .int .i64 0, .slice none 0 0] rfl).keep hb1; have g1 : Below w.heap.size w w1 := ((Below.refl _ _).alloc (Nat.le_refl _) _).trans (hb1.mono (by simp)); have s1 := g1.size))
      refine bodyPost_ret (v := _) ?_ rfl ⟨m, A2, c2, hm'.out, rfl, by simp, ?_, ((g2.setCell (by simp) _).setCell (by simp) _).setCell (by simp) _⟩
      · simp [results, Tryd.results61, go_sem, d0, d1, d2]
      · exact (((hf2.setCell (by simp) _).setCell (by simp) _).setCell (by simp) _).mono (by omega)
  exact enter _ rfl (by rw [hc])

theorem Has.lt {s : ByteArray} {i : Nat} {c : UInt8} {bs : List UInt8} (h : Has s i (c :: bs)) : i < s.size := h.cons.1.1
set_option maxHeartbeats 4000000 in
set_option maxRecDepth 100000 in
theorem round_any {k : Int} {c : UInt8} {k1 n1 : Int} {ks1 : List Tm} {x : List UInt8} {k2 n2 : Int} {ks2 : List Tm} {y : List UInt8} {d : Nat} (h : RndK k c) (ih1 : ParseOk k1 n1 ks1 x d) (ih2 : ParseOk k2 n2 ks2 y d) (s : ByteArray) (i : Nat) (I D : Int) (w : World) (hs : s.size ≤ 1000000) (hI : I = i) (hh : Has s i (x ++ c :: (y ++ [41]))) (hD : (d : Int) ≤ D) (hD2 : D ≤ 1000) :
    Calls Tryd.prog 62 #[.string s, .int .i64 I, .int .i64 D] w (ParsedT w k 0 [.mk k1 n1 ks1, .mk k2 n2 ks2] (i + x.length + 1 + y.length + 1)) := by
  subst hI
  obtain ⟨hh1, hh2⟩ := hh.app
  obtain ⟨⟨hi, hc⟩, hh3⟩ := hh2.cons
  obtain ⟨hh4, hh5⟩ := hh3.app
  obtain ⟨⟨hi2, hc2⟩, _⟩ := hh5.cons
  have hnd1 : Nd s (i + x.length) := .of hh2 (by rcases h with ⟨_, rfl⟩ | ⟨_, rfl⟩ | ⟨_, rfl⟩ <;> decide)
  have hnd2 : Nd s (i + x.length + 1 + y.length) := .of hh5 (by decide)
  have enter : ∀ (j1 j2 : Nat) (hi : j1 < s.size) (hi2 : j2 < s.size) (z z2 : Nat), (s[j1]'hi).toNat = z → z = c.toNat → (s[j2]'hi2).toNat = z2 → z2 = 41 → (∀ w, Calls Tryd.prog 48 #[.string s, .int .i64 i, .int .i64 D] w (ParsedT w k1 n1 ks1 j1)) →
      (∀ w (I : Int), I = (j1 + 1 : Nat) → Calls Tryd.prog 48 #[.string s, .int .i64 I, .int .i64 D] w (ParsedT w k2 n2 ks2 j2)) → Calls Tryd.prog 62 #[.string s, .int .i64 i, .int .i64 D] w (ParsedT w k 0 [.mk k1 n1 ks1, .mk k2 n2 ks2] (j2 + 1)) := by
    clear hc hc2 hi hi2 hh hh1 hh2 hh3 hh4 hh5 hnd1 hnd2 ih1 ih2
    intro j1 j2 hi hi2 z z2 he hx he2 hx2 hp1 hp2
    have hpar1 := hide hp1
    have hpar2 := hide hp2
    clear hp1 hp2
    subst hx2
    rcases h with ⟨rfl, rfl⟩ | ⟨rfl, rfl⟩ | ⟨rfl, rfl⟩
    all_goals
      subst hx
      go_enter Tryd.func62, Tryd.ntmps62
      go_wp2_with (first
        | (go_at_call 44; (refine (l1Node_any (B := w.heap.size + 1) (us := [.mk k1 n1 ks1, .mk k2 n2 ks2]) _ (by simp; omega) ((hO2.alloc _).alloc _) hnd hge (by simp) _ 2 (Blk.new_ _ 48 _ (by simp))).mono ?_); rintro e w4 ⟨A4, c4, rfl, hf4, hb4⟩; replace hZ := ((hZ.alloc _).alloc _).keep hb4; have d0 := hZ.at_ (i := 0) rfl; have d1 := hZ.at_ (i := 1) rfl; have d2 := hZ.at_ (i := 2) rfl; have e0 := hZ.frozen 0; have e1 := hZ.frozen 1; have e2 := hZ.frozen 2; have g4 : Below w.heap.size w w4 := ((g3.alloc (by omega) _).alloc (by simp; omega) _).trans (hb4.mono (by simp; omega)))
        | (go_at_call 48; have _t := tok; refine (hpar2.out _ _ (by omega)).mono ?_; rintro e w3 ⟨m2, A2, c2, hm2, rfl, hl2, hf2, hb2⟩; subst hm2; clear tok; obtain ⟨fp, hO2, hnd, hge⟩ := (hf1.alloc _).node2 hb2 hf2 (by simp; omega) hl1 hl2 k1 n1 k2 n2 c1 c2; replace hZ := (hZ.alloc _).keep hb2; have hX1 := (Blk.new_ w1 48 #[.int .i64 k1, .int .i64 n1, .slice A1 ks1.length c1] rfl).keep hb2; have x0 := hX1.at_ (i := 0) rfl; have x1 := hX1.at_ (i := 1) rfl; have x2 := hX1.at_ (i := 2) rfl; have lx := hX1.lt; have lz := hZ.lt; have g3 : Below w.heap.size w w3 := (g1.alloc (by omega) _).trans (hb2.mono (by simp; omega)); have s3 := g3.size; have s13 : w1.heap.size + 1 ≤ w3.heap.size := (by have := hb2.size; simpa using this))
        | (go_at_call 48; refine (hpar1.out _).mono ?_; rintro e w1 ⟨m, A1, c1, hm, rfl, hl1, hf1, hb1⟩; subst hm; have tok : True := trivial; replace hf1 := hf1.mono (B' := w.heap.size + 1) (by simp); have hZ := (Blk.new_ w 48 #[.int .i64 0, .int .i64 0, .slice none 0 0] rfl).keep hb1; have g1 : Below w.heap.size w w1 := ((Below.refl _ _).alloc (Nat.le_refl _) _).trans (hb1.mono (by simp)); have s1 := g1.size; have s1' := hZ.lt))
      refine bodyPost_ret (v := _) ?_ rfl ⟨m2 + 1, A4, c4, rfl, rfl, by simp, ?_, ((g4.setCell (by simp) _).setCell (by simp) _).setCell (by simp) _⟩
      · simp [results, Tryd.results62, go_sem, d0, d1, d2]
      · exact (((hf4.setCell (by simp) _).setCell (by simp) _).setCell (by simp) _).mono (by omega)
  exact enter _ _ hi hi2 _ _ rfl (by rw [hc]) rfl (by rw [hc2]; rfl) (fun w => ih1 s i i D w hs rfl hh1 hnd1 hD hD2) (fun w I hI => ih2 s (i + x.length + 1) I D w hs hI hh4 hnd2 hD hD2)
end Go.Proofs.YtjpgdfndlmipcaaDoor
