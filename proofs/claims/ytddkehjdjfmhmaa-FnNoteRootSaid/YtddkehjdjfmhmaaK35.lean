/-
 Contracts of the functions that the law reaches, and plain lemmas. No condition.
-/
import Derived.Test.YtddkehjdjfmhmaaK5
import Derived.Test.YtddkehjdjfmhmaaK7
import Derived.Test.YtddkehjdjfmhmaaK15
import Derived.Test.YtddkehjdjfmhmaaK18
import Derived.Deep.RegionHeld3
import Derived.Deep.DeepCutAuto
namespace Go.Proofs.Ytddkehjdjfmhmaa
set_option linter.unusedSimpArgs false
set_option linter.unusedVariables false
open Go.RowKit
def NB : Nat → Nat | 0 => 10 | d + 1 => 4 * NB d
theorem nb_ge (d : Nat) : 10 ≤ NB d := by
 induction d with
 | zero => simp [NB]
 | succ d ih => rw [NB]; omega
def NatD (B : Nat) (w : World) (r p s : Nat) (nn : Int) (e : Ending) (w' : World) : Prop :=
 ∃ (k n : Int) (ks : List Tm) (A : Option Addr) (c p' : Nat), e = .returned (.agg #[.int .i64 k, .int .i64 n, .slice A ks.length c]) ∧ ks.length ≤ 9223372036854775807 ∧ sizes ks + 1 ≤ s ∧ p' ≤ p + s ∧ RdP (fun b => w.heap.size ≤ b) w' A 0 ks ∧ Rdr B w' r p' ∧ w.grownBy w' (some r) ∧ IsN nn.toNat (.mk k n ks)
def NatO (k : Nat) : Prop := ∀ (B r p : Nat) (n d : Int) (w : World), d ≤ k → -5 ≤ d → 0 ≤ n → n + 2 * k ≤ 20 → p + NB k ≤ 900000000 → B ≤ w.heap.size → Rdr B w r p →
 Calls Try.prog 29 #[.pointer (some ⟨r, 0, none⟩), .int .i64 n, .int .i64 d] w (NatD B w r p (NB k) n)
theorem rdx_cons {p : Nat → Prop} {w : World} {k n : Int} {ks : List Tm} {A : Option Addr} {c : Nat} {ts : List Tm} {ys : List Value} (hl : ks.length ≤ 9223372036854775807) (hr : RdP p w A 0 ks) (hx : RdX p w ts ys) : RdX p w (.mk k n ks :: ts) (.int .i64 k :: .int .i64 n :: .slice A ks.length c :: ys) := ⟨A, c, ys, rfl, hl, hr, hx⟩
theorem rdp_lt2 {p : Nat → Prop} {w : World} : (∀ t b off i, RdPC p w b off i t → RdPC (fun b => p b ∧ b < w.heap.size) w b off i t) ∧ (∀ ks A i, RdP p w A i ks → RdP (fun b => p b ∧ b < w.heap.size) w A i ks) := by
 refine Tm.ind2 (fun k n ks ih b off i hh => ?_) (fun _ _ _ => RdP.nil) (fun t ts h1 h2 A i hh => ?_)
 ·rw [RdPC.iff] at hh ⊢
  obtain ⟨h0, h1, h2, A, c, h3, h4, h5⟩ := hh
  exact ⟨⟨h0, World.block_lt_of_cell? _ _ h1⟩, h1, h2, A, c, h3, h4, ih _ _ h5⟩
 ·rw [RdP.cons_iff] at hh ⊢
  obtain ⟨⟨b, off, hA, hc⟩, hr⟩ := hh
  exact ⟨⟨b, off, hA, h1 _ _ _ hc⟩, h2 _ _ hr⟩
theorem RdX.lt_ {p : Nat → Prop} {w : World} : ∀ {ts : List Tm} {xs : List Value}, RdX p w ts xs → RdX (fun b => p b ∧ b < w.heap.size) w ts xs
 | [], xs, h => h
 | .mk k n ks :: ts, xs, h => by
  obtain ⟨A, c, ys, rfl, hl, hr, hx⟩ := h
  exact ⟨A, c, ys, rfl, hl, rdp_lt2.2 _ _ _ hr, hx.lt_⟩
theorem node_q {L : Nat} {w : World} {us : List Tm} {x1 : List Value} (k : Int) (hL : L < w.heap.size) (ht : RdX (fun b => L < b) w us x1) (hlen : us.length ≤ 1099511627776) (g c : Nat) (hb : Blk w g x1.toArray) :
  Calls Try.prog 46 #[.int .i64 k, .slice (some ⟨g, 0, none⟩) us.length c] w fun e w' => ∃ A c, e = .returned (.agg #[.int .i64 k, .int .i64 0, .slice A us.length c]) ∧ us.length ≤ 9223372036854775807 ∧ RdP (fun b => L < b) w' A 0 us ∧ Below w.heap.size w w' := by
 refine (l1NodeR_any k ht.lt_ (fun b hb => hb.2) hlen g c hb).mono ?_
 rintro e w' ⟨A, c', rfl, h1, h2, h3⟩
 exact ⟨A, c', rfl, h1, h2.mono (fun b hb => hb.elim (fun h => h.1) (fun h => by omega)), h3⟩
structure StN (B r p g8 : Nat) (w0 w : World) : Prop where
 rd : Rdr B w r p
 gr : w0.grownBy w (some r)
 hZ : Blk w w0.heap.size #[.int .i64 0, .int .i64 0, .slice none 0 0]
 h8 : Blk w g8 #[.int .i64 6, .int .i64 0, .slice none 0 0]
 hB : B ≤ w0.heap.size
 hg : w0.heap.size < g8
section
variable {B r p p' g8 : Nat} {w0 w w' : World}
theorem StN.size (h : StN B r p g8 w0 w) : w0.heap.size < w.heap.size ∧ g8 < w.heap.size ∧ B ≤ w.heap.size ∧ r < w0.heap.size := ⟨h.hZ.lt, h.h8.lt, by have := h.hZ.lt; have := h.hB; omega, by have := h.rd.lt; have := h.hB; omega⟩
theorem StN.drew (h : StN B r p g8 w0 w) : StN B r p g8 w0 w.drew := ⟨h.rd.drew, only_drew h.gr, h.hZ.drew, h.h8.drew, h.hB, h.hg⟩
theorem StN.alloc (h : StN B r p g8 w0 w) (o : Obj) : StN B r p g8 w0 (w.alloc o) := ⟨h.rd.alloc h.size.2.2.1 o, only_alloc h.gr o, h.hZ.alloc o, h.h8.alloc o, h.hB, h.hg⟩
theorem StN.below (h : StN B r p g8 w0 w) (hb : Below w.heap.size w w') : StN B r p g8 w0 w' := ⟨h.rd.below hb h.size.2.2.1, only_below h.gr hb, h.hZ.keep hb, h.h8.keep hb, h.hB, h.hg⟩
theorem StN.grown (h : StN B r p g8 w0 w) (hr : Rdr B w' r p') (hg : w.grownBy w' (some r)) : StN B r p' g8 w0 w' :=
 ⟨hr, grown_trans h.gr hg, h.hZ.grown hg (by have := h.size; simp; omega), h.h8.grown hg (by have := h.size; have := h.hg; simp; omega), h.hB, h.hg⟩
theorem StN.set (h : StN B r p g8 w0 w) {g o : Nat} (hg : w0.heap.size < g) (hg8 : g8 ≠ g) (u : Value) : StN B r p g8 w0 (w.setCell ⟨g, o, none⟩ u) :=
 ⟨h.rd.setCell (by have := h.hB; simp; omega) u, only_setCell h.gr (.inr (by simp; omega)) u, h.hZ.far (by simp; omega) u, h.h8.far hg8 u, h.hB, h.hg⟩
theorem StN.done {k n : Int} {ks : List Tm} {A : Option Addr} {s : Nat} (h : StN B r p' g8 w0 w) (hp : p' ≤ p + s) (hs : sizes ks + 1 ≤ s) (hl : ks.length ≤ 9223372036854775807) (hk : RdP (fun b => w0.heap.size < b) w A 0 ks) (x y z : Value) (c : Nat) {nn : Int} (hi : IsN nn.toNat (.mk k n ks)) :
  NatD B w0 r p s nn (.returned (.agg #[.int .i64 k, .int .i64 n, .slice A ks.length c])) (((w.setCell ⟨w0.heap.size, 0, none⟩ x).setCell ⟨w0.heap.size, 1, none⟩ y).setCell ⟨w0.heap.size, 2, none⟩ z) := by
 have hB := h.hB
 refine ⟨k, n, ks, A, c, p', rfl, hl, hs, hp, ?_, ?_, ?_, hi⟩
 ·exact (((hk.setCell (by simp) _).setCell (by simp) _).setCell (by simp) _).mono (fun b hb => by omega)
 ·exact ((h.rd.setCell (by simp; omega) _).setCell (by simp; omega) _).setCell (by simp; omega) _
 ·exact only_setCell (only_setCell (only_setCell h.gr (.inr (by simp)) _) (.inr (by simp)) _) (.inr (by simp)) _
end
theorem RdP.grownL {L r : Nat} {w w' : World} {A : Option Addr} {ks : List Tm} (h : RdP (fun b => L < b) w A 0 ks) (hg : w.grownBy w' (some r)) (hr : r ≤ L) : RdP (fun b => L < b) w' A 0 ks := h.grown hg (fun b hb e => by injection e with e; omega)
theorem name_callsN {P : Program} {f : FuncId} {args : Array Value} {w : World} {Q : Ending → World → Prop} (h : ∀ wx, wx = w → Calls P f args wx Q) : Calls P f args w Q := h w rfl
theorem far3n {w : World} {b o g : Nat} {v x y z : Value} (h : w.cell? ⟨b, o, none⟩ = some v) (hb : b ≠ g) : (((w.setCell ⟨g, 0, none⟩ x).setCell ⟨g, 1, none⟩ y).setCell ⟨g, 2, none⟩ z).cell? ⟨b, o, none⟩ = some v := by
 have e : (((w.setCell ⟨g, 0, none⟩ x).setCell ⟨g, 1, none⟩ y).setCell ⟨g, 2, none⟩ z).heap[b]? = w.heap[b]? :=
  (Below.heap_setCell _ ⟨g, 2, none⟩ _ b hb).trans ((Below.heap_setCell _ ⟨g, 1, none⟩ _ b hb).trans (Below.heap_setCell _ ⟨g, 0, none⟩ _ b hb))
 rw [← h]
 simp only [World.cell?, e]
set_option maxHeartbeats 8000000 in
set_option maxRecDepth 100000 in
theorem nat_step (k : Nat) (hk : k ≤ 3) (ih : NatO k) (B r p : Nat) (n d : Int) (w : World) (hd : 1 ≤ d) (hdk : d ≤ k + 1) (hn : 0 ≤ n) (hnk : n + 2 * k ≤ 18) (hp : p + NB (k + 1) ≤ 900000000) (hB : B ≤ w.heap.size) (hr : Rdr B w r p) :
  Calls Try.prog 29 #[.pointer (some ⟨r, 0, none⟩), .int .i64 n, .int .i64 d] w (NatD B w r p (NB (k + 1)) n) := by
 have ihx : ∀ (B r p : Nat) (n d : Int) (w : World), d ≤ k → -5 ≤ d → 0 ≤ n → n + 2 * k ≤ 20 → p + NB k ≤ 900000000 → B ≤ w.heap.size → Rdr B w r p → Calls Try.prog 29 #[.pointer (some ⟨r, 0, none⟩), .int .i64 n, .int .i64 d] w (NatD B w r p (NB k) n) := ih
 clear ih
 have hrl := hr.lt
 have hnb := nb_ge k
 have hnbe : NB (k + 1) = 4 * NB k := rfl
 have hnb4 := hide hnbe
 rw [hnbe] at hp
 clear hnbe
 have hd1 : ¬ (d < 1) := by omega
 have k1 : IntKind.i64.wrap (d - 1) = d - 1 := IntWalk.i64_in _ (by omega)
 have k2 : IntKind.i64.wrap (d - 2) = d - 2 := IntWalk.i64_in _ (by omega)
 have k3 : wrap64 (d - 1) = d - 1 := IntWalk.wrap64_in _ (by omega)
 have k4 : wrap64 (d - 2) = d - 2 := IntWalk.wrap64_in _ (by omega)
 have k5 : IntKind.i64.wrap (n + 1) = n + 1 := IntWalk.i64_in _ (by omega)
 have k6 : IntKind.i64.wrap (n + 2) = n + 2 := IntWalk.i64_in _ (by omega)
 have k7 : wrap64 (n + 1) = n + 1 := IntWalk.wrap64_in _ (by omega)
 have k8 : wrap64 (n + 2) = n + 2 := IntWalk.wrap64_in _ (by omega)
 go_enter Try.func29, Try.ntmps29
 go_wp2_with (first
  | (go_at_call 28; have _t := tokA; refine (sLeaf_any _ _ _).mono ?_; rintro e w2 ⟨rfl, hb2⟩; have hr2 := (hr1.alloc (by omega) (.cells #[.int .i64 7, .int .i64 0, .slice none 0 0] 25)).below hb2 (by simp; omega); have hZ2 := (hZ1.alloc (.cells #[.int .i64 7, .int .i64 0, .slice none 0 0] 25)).keep hb2; have g2 := only_below (only_alloc g1 (.cells #[.int .i64 7, .int .i64 0, .slice none 0 0] 25)) hb2; have s2 : w1.heap.size + 1 ≤ w2.heap.size := (by have := hb2.size; simpa using this))
  | (go_at_call 28; refine (sLeaf_any _ _ _).mono ?_; rintro e w1 ⟨rfl, hb1⟩; have hr1 := (hr.alloc (by omega) (.cells #[.int .i64 0, .int .i64 0, .slice none 0 0] 25)).below hb1 (by simp; omega); have hZ1 := (Blk.new_ w 25 #[.int .i64 0, .int .i64 0, .slice none 0 0] rfl).keep hb1; have g1 : w.grownBy w1 (some r) := only_below (only_alloc (World.grownBy.refl _ _) _) hb1; have s1 : w.heap.size + 1 ≤ w1.heap.size := (by have := hb1.size; simpa using this); have tokA := trivial))
 refine (pick_any B r p 7 _ (by omega) (by omega) (by simp; omega) (hr2.alloc (by omega) _)).mono ?_
 rintro e w3 ⟨m, rfl, hm, hm0, hr3, hg3⟩
 have hS := (StN.mk (g8 := w2.heap.size) (hr2.alloc (by omega) _) (only_alloc g2 _) (hZ2.alloc _) (Blk.new_ w2 25 #[.int .i64 6, .int .i64 0, .slice none 0 0] rfl) hB (by omega)).grown hr3 hg3
 have hm' : m < 7 := by have := hm (by omega); omega
 obtain ⟨g8, hg8⟩ : ∃ g8, g8 = w2.heap.size := ⟨_, rfl⟩
 rw [← hg8] at hS ⊢
 clear hm hm0 hg3 hr3 hg8 hr2 hZ2 g2 s2 hb2 hb1 hr1 hZ1 g1 s1
 obtain ⟨d0, d1, d2⟩ := hS.hZ.three
 have e0 := hS.hZ.frozen 0
 have e1 := hS.hZ.frozen 1
 have e2 := hS.hZ.frozen 2
 obtain ⟨x0, x1, x2⟩ := hS.h8.three
 by_cases m0 : m = 0
 ·subst m0
  have r0 := hS.h8.ruleG (g := r) (by have := hS.size; have := hS.hg; omega) (i := 0) rfl
  have r1 := hS.h8.ruleG (g := r) (by have := hS.size; have := hS.hg; omega) (i := 1) rfl
  have r2 := hS.h8.ruleG (g := r) (by have := hS.size; have := hS.hg; omega) (i := 2) rfl
  go_wp2_with fail
  refine wp_region_firstY (fun w' => w3.grownBy w' (some r)) [0, 1, 2, 3, 4, 5, 9, 10, 11, 12] [6, 7, 8, 13, 14, 15] [16] [_, _, _, _, _, _, _, _, _, _] [_, _, _, _, _, _] [_] (by kernel_rfl) (by kernel_rfl) rfl rfl rfl (fun _ _ d _ _ h => by cases d <;> exact h) (only_drew (World.grownBy.refl _ _)) ?_
  repeat ((first | ((refine takeY_skip (a' := ?_) ?_ ?_ ?_); (rotate_left); (· (simp [Region.wanted, yielded]; done))) | ((refine takeY_step (v := ?_) (a' := ?_) ?_ ?_ ?_ ?_); (rotate_left 2); (· (simp [Region.wanted, yielded]; done)); (· (intro w' hS'; go_simp; try (with_reducible rfl))))); (· (simp only [List.getElem_toArray, List.getElem_cons_zero, List.getElem_cons_succ, Act.put, List.setIfInBounds_toArray, List.set_cons_zero, List.set_cons_succ]; exact rfl)))
  refine takeY_nil (then_cons ?_)
  go_wp2_with (go_at_call 29; refine (ihx B r (p + 1) (n + 1) (d - 1) _ (by omega) (by omega) (by omega) (by omega) (by omega) hS.drew.size.2.2.1 hS.drew.rd).mono ?_; rintro e w4 ⟨k4', n4', ks4, A4, c4, p4, rfl, hl4, hs4, hp4, hk4, hr4, hg4, hi4⟩; have hS4 := hS.drew.grown hr4 hg4; replace hk4 := hk4.mono (q := fun b => w.heap.size < b) (fun b hb => Nat.lt_of_lt_of_le hS.drew.size.1 hb); clear hr4)
  have G4 : w3.grownBy w4 (some r) := grown_trans (only_drew (World.grownBy.refl _ _)) hg4
  refine mid_intro G4 (then_cons ?_)
  go_wp2_with fail
  refine mid_intro (only_alloc G4 _) (then_cons ?_)
  go_wp2_with (go_at_call 46; refine (node_q (L := w.heap.size) (us := [.mk 6 0 [], .mk k4' n4' ks4]) 4 (hS4.alloc _).size.1 (rdx_cons (by simp) RdP.nil (rdx_cons hl4 (hk4.alloc _) rfl)) (by simp) _ 2 (Blk.new_ _ 25 _ rfl)).mono ?_; rintro e w5 ⟨A5, c5, rfl, hl5, hk5, hb5⟩; have hS5 := (hS4.alloc _).below hb5; have lk5 := hl5)
  have G5 : w3.grownBy w5 (some r) := only_below (only_alloc G4 _) hb5
  refine mid_intro G5 (then_cons ?_)
  go_wp2_with (go_at_call 29; refine (ihx B r p4 n (d - 1) _ (by omega) (by omega) (by omega) (by omega) (by omega) hS5.size.2.2.1 hS5.rd).mono ?_; rintro e w6 ⟨k6', n6', ks6, A6, c6, p6, rfl, hl6, hs6, hp6, hk6, hr6, hg6, hi6⟩; have hS6 := hS5.grown hr6 hg6; replace hk6 := hk6.mono (q := fun b => w.heap.size < b) (fun b hb => Nat.lt_of_lt_of_le hS5.size.1 hb); replace hk5 := hk5.grownL hg6 (Nat.le_of_lt hS5.size.2.2.2); clear hr6)
  have G6 : w3.grownBy w6 (some r) := grown_trans G5 hg6
  refine mid_intro G6 (then_cons ?_)
  go_wp2_with fail
  refine mid_intro (only_alloc G6 _) (then_cons ?_)
  go_wp2_with (go_at_call 46; refine (node_q (L := w.heap.size) (us := [.mk 4 0 [.mk 6 0 [], .mk k4' n4' ks4], .mk k6' n6' ks6]) 5 (hS6.alloc _).size.1 (rdx_cons (by simp) (hk5.alloc _) (rdx_cons hl6 (hk6.alloc _) rfl)) (by simp) _ 2 (Blk.new_ _ 25 _ rfl)).mono ?_; rintro e w7 ⟨A7, c7, rfl, hl7, hk7, hb7⟩; have hS7 := (hS6.alloc _).below hb7; have lk7 := hl7)
  have G7 : w3.grownBy w7 (some r) := only_below (only_alloc G6 _) hb7
  refine mid_intro G7 (then_nil ?_)
  clear d0 d1 d2 e0 e1 e2
  obtain ⟨d0, d1, d2⟩ := hS7.hZ.three
  have e0 := hS7.hZ.frozen 0
  have e1 := hS7.hZ.frozen 1
  have e2 := hS7.hZ.frozen 2
  go_wp2_with fail
  refine bodyPost_ret (v := .agg #[.int .i64 5, .int .i64 0, .slice A7 2 c7]) (by simp [results, Try.results29, go_sem, d0, d1, d2]) rfl (hS7.done (ks := [.mk 4 0 [.mk 6 0 [], .mk k4' n4' ks4], .mk k6' n6' ks6]) (by rw [hnb4.out]; omega) (by rw [hnb4.out]; simp only [sizes, Tm.size]; omega) (by simp) hk7 _ _ _ c7 (isN_app hn hi4 hi6))
 have q0 : ((m : Int) == 0) = false := beq_eq_false_iff_ne.2 (by omega)
 by_cases m1 : m = 1
 ·subst m1
  go_wp2_with fail
  go_cut [9] (fun s9 wx => ∃ (g9 : Nat) (A6 : Option Addr) (c6 p4 : Nat) (tt : Tm), s9 = .pointer (some ⟨g9, 0, none⟩) ∧ Blk wx g9 #[.int .i64 4, .int .i64 0, .slice A6 2 c6] ∧ RdP (fun b => w.heap.size < b) wx A6 0 [.mk 6 0 [], .mk 4 0 [.mk 6 0 [], tt]] ∧ tt.size ≤ NB k ∧ IsN (n + 2).toNat tt ∧ StN B r p4 g8 w wx ∧ p4 ≤ p + 1 + NB k ∧ g9 ≠ r)
  case first =>
   have lS := hS.size
   have lWd : w3.drew.heap.size = w3.heap.size := rfl
   have lS' := hS.hg
   go_region_held3 (fun w' => w'.cell? ⟨g8, 0, none⟩ = some (.int .i64 6) ∧ w'.cell? ⟨g8, 1, none⟩ = some (.int .i64 0) ∧ w'.cell? ⟨g8, 2, none⟩ = some (.slice none 0 0)) (((try dsimp only); (first | with_reducible exact ⟨x0, x1, x2⟩ | with_reducible exact ⟨u0, u1, u2⟩ | with_reducible exact ⟨v0, v1, v2⟩ | with_reducible exact ⟨t0, t1, t2⟩ | ((with_reducible refine ⟨far3n t0 ?_, far3n t1 ?_, far3n t2 ?_⟩) <;> omega) | ((with_reducible refine ⟨far3n (Keeps.alloc _ _ _ _ t0) ?_, far3n (Keeps.alloc _ _ _ _ t1) ?_, far3n (Keeps.alloc _ _ _ _ t2) ?_⟩) <;> omega) | with_reducible exact ⟨Keeps.alloc _ _ _ _ x0, Keeps.alloc _ _ _ _ x1, Keeps.alloc _ _ _ _ x2⟩ | with_reducible exact ⟨Keeps.alloc _ _ _ _ u0, Keeps.alloc _ _ _ _ u1, Keeps.alloc _ _ _ _ u2⟩ | with_reducible exact ⟨Keeps.alloc _ _ _ _ v0, Keeps.alloc _ _ _ _ v1, Keeps.alloc _ _ _ _ v2⟩ | with_reducible exact ⟨Keeps.alloc _ _ _ _ t0, Keeps.alloc _ _ _ _ t1, Keeps.alloc _ _ _ _ t2⟩ | with_reducible exact ⟨Keeps.alloc _ _ _ _ (Keeps.alloc _ _ _ _ x0), Keeps.alloc _ _ _ _ (Keeps.alloc _ _ _ _ x1), Keeps.alloc _ _ _ _ (Keeps.alloc _ _ _ _ x2)⟩ | with_reducible exact ⟨Keeps.alloc _ _ _ _ (Keeps.alloc _ _ _ _ u0), Keeps.alloc _ _ _ _ (Keeps.alloc _ _ _ _ u1), Keeps.alloc _ _ _ _ (Keeps.alloc _ _ _ _ u2)⟩ | with_reducible exact ⟨Keeps.alloc _ _ _ _ (Keeps.alloc _ _ _ _ v0), Keeps.alloc _ _ _ _ (Keeps.alloc _ _ _ _ v1), Keeps.alloc _ _ _ _ (Keeps.alloc _ _ _ _ v2)⟩ | with_reducible exact ⟨Keeps.alloc _ _ _ _ (Keeps.alloc _ _ _ _ t0), Keeps.alloc _ _ _ _ (Keeps.alloc _ _ _ _ t1), Keeps.alloc _ _ _ _ (Keeps.alloc _ _ _ _ t2)⟩ | go_keep))) (first
    | (go_at_call 46; have _t := tk2; refine name_callsN ?_; intro wx6 hwx; have hSx : StN B r p4 g8 w wx6 := (by rw [hwx]; with_reducible (repeat (first | exact hS5 | refine StN.alloc ?_ _ | refine StN.drew ?_))); have hkx : RdP (fun b => ((wx4.heap.size ≤ b ∧ b < w4.heap.size) ∨ wx5.heap.size ≤ b) ∧ b < w5.heap.size) wx6 A5 0 [.mk 6 0 [], .mk k4' n4' ks4] := (by rw [hwx]; with_reducible (repeat (first | exact hk5 | refine RdP.alloc ?_ _ | refine RdP.drew ?_))); have sx6 := congrArg (fun w : World => w.heap.size) hwx; (try simp [lWd] at sx6); (first | (refine (fun (hQx : Blk wx6 (w3.heap.size) #[.int .i64 0, .int .i64 0, .slice none 0 0]) => ?_) ?_; rotate_left; (rw [hwx]; ((repeat (first | with_reducible exact hQ | ((with_reducible refine Blk.new_ _ 25 _ ?_); (first | rfl | (simp [lWd] <;> fail))) | (with_reducible refine Blk.drew ?_) | (with_reducible refine Blk.alloc ?_ _))) <;> fail))) | (refine (fun (hQx : Blk wx6 (w4.heap.size) #[.int .i64 0, .int .i64 0, .slice none 0 0]) => ?_) ?_; rotate_left; (rw [hwx]; ((repeat (first | with_reducible exact hQ | ((with_reducible refine Blk.new_ _ 25 _ ?_); (first | rfl | (simp [lWd] <;> fail))) | (with_reducible refine Blk.drew ?_) | (with_reducible refine Blk.alloc ?_ _))) <;> fail))) | (refine (fun (hQx : Blk wx6 (w4.heap.size + 1) #[.int .i64 0, .int .i64 0, .slice none 0 0]) => ?_) ?_; rotate_left; (rw [hwx]; ((repeat (first | with_reducible exact hQ | ((with_reducible refine Blk.new_ _ 25 _ ?_); (first | rfl | (simp [lWd] <;> fail))) | (with_reducible refine Blk.drew ?_) | (with_reducible refine Blk.alloc ?_ _))) <;> fail))) | (refine (fun (hQx : Blk wx6 (w5.heap.size) #[.int .i64 0, .int .i64 0, .slice none 0 0]) => ?_) ?_; rotate_left; (rw [hwx]; ((repeat (first | with_reducible exact hQ | ((with_reducible refine Blk.new_ _ 25 _ ?_); (first | rfl | (simp [lWd] <;> fail))) | (with_reducible refine Blk.drew ?_) | (with_reducible refine Blk.alloc ?_ _))) <;> fail))) | (refine (fun (hQx : Blk wx6 (w5.heap.size + 1) #[.int .i64 0, .int .i64 0, .slice none 0 0]) => ?_) ?_; rotate_left; (rw [hwx]; ((repeat (first | with_reducible exact hQ | ((with_reducible refine Blk.new_ _ 25 _ ?_); (first | rfl | (simp [lWd] <;> fail))) | (with_reducible refine Blk.drew ?_) | (with_reducible refine Blk.alloc ?_ _))) <;> fail))) | skip); refine (l1NodeR_any (p := (fun b => ((wx4.heap.size ≤ b ∧ b < w4.heap.size) ∨ wx5.heap.size ≤ b) ∧ b < w5.heap.size)) (us := [.mk 6 0 [], .mk 4 0 [.mk 6 0 [], .mk k4' n4' ks4]]) 4 (rdx_cons (by simp) RdP.nil (rdx_cons (by first | exact hl5 | simp) hkx rfl)) (fun b hb => by omega) (by simp) _ 2 (by rw [hwx]; first | exact Blk.new_ _ 25 _ rfl | exact Blk.new_ _ 25 _ (by simp) | exact (Blk.new_ _ 25 _ rfl).alloc _)).mono ?_; clear hwx; rintro e w6 ⟨A6, c6, rfl, hl6, hk6, hb6⟩; replace hk6 : RdP (fun b => ((((wx4.heap.size ≤ b ∧ b < w4.heap.size) ∨ wx5.heap.size ≤ b) ∧ b < w5.heap.size) ∨ wx6.heap.size ≤ b) ∧ b < w6.heap.size) w6 A6 0 [.mk 6 0 [], .mk 4 0 [.mk 6 0 [], .mk k4' n4' ks4]] := rdp_lt2.2 _ _ _ hk6; have hS6 := hSx.below hb6; (try clear hQ); (try (have hQ := hQx.keep hb6)); (try clear hQx); (try (obtain ⟨q0, q1, q2⟩ := hQ.three)); (try (have z0 := hQ.frozen 0)); (try (have z1 := hQ.frozen 1)); (try (have z2 := hQ.frozen 2)); (try (have lq := hQ.lt)); clear hSx hkx; obtain ⟨t0, t1, t2⟩ := hS6.h8.three; have l6 := hS6.size; have y6 := hb6.size; have tk3 := trivial)
    | (go_at_call 46; have _t := tk1; refine name_callsN ?_; intro wx5 hwx; have hSx : StN B r p4 g8 w wx5 := (by rw [hwx]; with_reducible (repeat (first | exact hS4 | refine StN.alloc ?_ _ | refine StN.drew ?_))); have hkx : RdP (fun b => wx4.heap.size ≤ b ∧ b < w4.heap.size) wx5 A4 0 ks4 := (by rw [hwx]; with_reducible (repeat (first | exact hk4 | refine RdP.alloc ?_ _ | refine RdP.drew ?_))); have sx5 := congrArg (fun w : World => w.heap.size) hwx; (try simp [lWd] at sx5); (first | (refine (fun (hQx : Blk wx5 (w3.heap.size) #[.int .i64 0, .int .i64 0, .slice none 0 0]) => ?_) ?_; rotate_left; (rw [hwx]; ((repeat (first | with_reducible exact hQ | ((with_reducible refine Blk.new_ _ 25 _ ?_); (first | rfl | (simp [lWd] <;> fail))) | (with_reducible refine Blk.drew ?_) | (with_reducible refine Blk.alloc ?_ _))) <;> fail))) | (refine (fun (hQx : Blk wx5 (w4.heap.size) #[.int .i64 0, .int .i64 0, .slice none 0 0]) => ?_) ?_; rotate_left; (rw [hwx]; ((repeat (first | with_reducible exact hQ | ((with_reducible refine Blk.new_ _ 25 _ ?_); (first | rfl | (simp [lWd] <;> fail))) | (with_reducible refine Blk.drew ?_) | (with_reducible refine Blk.alloc ?_ _))) <;> fail))) | (refine (fun (hQx : Blk wx5 (w4.heap.size + 1) #[.int .i64 0, .int .i64 0, .slice none 0 0]) => ?_) ?_; rotate_left; (rw [hwx]; ((repeat (first | with_reducible exact hQ | ((with_reducible refine Blk.new_ _ 25 _ ?_); (first | rfl | (simp [lWd] <;> fail))) | (with_reducible refine Blk.drew ?_) | (with_reducible refine Blk.alloc ?_ _))) <;> fail))) | skip); refine (l1NodeR_any (p := (fun b => wx4.heap.size ≤ b ∧ b < w4.heap.size)) (us := [.mk 6 0 [], .mk k4' n4' ks4]) 4 (rdx_cons (by simp) RdP.nil (rdx_cons (by first | exact hl4 | simp) hkx rfl)) (fun b hb => by omega) (by simp) _ 2 (by rw [hwx]; first | exact Blk.new_ _ 25 _ rfl | exact Blk.new_ _ 25 _ (by simp) | exact (Blk.new_ _ 25 _ rfl).alloc _)).mono ?_; clear hwx; rintro e w5 ⟨A5, c5, rfl, hl5, hk5, hb5⟩; replace hk5 : RdP (fun b => ((wx4.heap.size ≤ b ∧ b < w4.heap.size) ∨ wx5.heap.size ≤ b) ∧ b < w5.heap.size) w5 A5 0 [.mk 6 0 [], .mk k4' n4' ks4] := rdp_lt2.2 _ _ _ hk5; have hS5 := hSx.below hb5; (try clear hQ); (try (have hQ := hQx.keep hb5)); (try clear hQx); (try (obtain ⟨q0, q1, q2⟩ := hQ.three)); (try (have z0 := hQ.frozen 0)); (try (have z1 := hQ.frozen 1)); (try (have z2 := hQ.frozen 2)); (try (have lq := hQ.lt)); clear hSx hkx; obtain ⟨v0, v1, v2⟩ := hS5.h8.three; have l5 := hS5.size; have y5 := hb5.size; have tk2 := trivial)
    | (go_at_call 29; refine name_callsN ?_; intro wx4 hwx; have hSx : StN B r (p + 1) g8 w wx4 := (by rw [hwx]; with_reducible (repeat (first | exact hS | refine StN.alloc ?_ _ | refine StN.drew ?_))); have sx4 := congrArg (fun w : World => w.heap.size) hwx; (try simp [lWd] at sx4); (first | (refine (fun (hQx : Blk wx4 (w3.heap.size) #[.int .i64 0, .int .i64 0, .slice none 0 0]) => ?_) ?_; rotate_left; (rw [hwx]; ((repeat (first | ((with_reducible refine Blk.new_ _ 25 _ ?_); (first | rfl | (simp [lWd] <;> fail))) | (with_reducible refine Blk.drew ?_) | (with_reducible refine Blk.alloc ?_ _))) <;> fail))) | skip); refine (ihx B r (p + 1) (n + 2) (d - 2) _ (by omega) (by omega) (by omega) (by omega) (by omega) hSx.size.2.2.1 hSx.rd).mono ?_; clear hwx; rintro e w4 ⟨k4', n4', ks4, A4, c4, p4, rfl, hl4, hs4, hp4, hk4, hr4, hg4, hi4⟩; have hS4 := hSx.grown hr4 hg4; replace hk4 : RdP (fun b => wx4.heap.size ≤ b ∧ b < w4.heap.size) w4 A4 0 ks4 := rdp_lt2.2 _ _ _ hk4; (try (have hQ := hQx.grown hg4 (by simp; omega))); (try clear hQx); (try (obtain ⟨q0, q1, q2⟩ := hQ.three)); (try (have z0 := hQ.frozen 0)); (try (have z1 := hQ.frozen 1)); (try (have z2 := hQ.frozen 2)); (try (have lq := hQ.lt)); clear hr4 hSx; obtain ⟨u0, u1, u2⟩ := hS4.h8.three; have l4 := hS4.size; have y4 := hg4.size; have tk1 := trivial))
   all_goals
    go_wp2_with fail
    go_meet
    exact ⟨_, A6, c6, p4, .mk k4' n4' ks4, rfl, (by first | exact ((hQ.set_ 0 _).set_ 1 _).set_ 2 _ | exact Blk.new_ _ 25 _ rfl), (by first | exact (hk6.alloc _).mono (fun b hb => by omega) | exact (((hk6.setCell (by simp; omega) _).setCell (by simp; omega) _).setCell (by simp; omega) _).mono (fun b hb => by omega)), by simp only [Tm.size]; omega, hi4, (by first | exact hS6.alloc _ | exact ((hS6.set (by omega) (by omega) _).set (by omega) (by omega) _).set (by omega) (by omega) _), by omega, by omega⟩
  case rest =>
   obtain ⟨g9, A6, c6, p4, tt, rfl, hT, hk6, htt, hti, hSc, hp4, hne9⟩ := hcut
   clear x0 x1 x2 d0 d1 d2 e0 e1 e2
   have lS := hSc.size
   have lS' := hSc.hg
   have lg9 : g9 ≠ r := hne9
   have r0 := hSc.h8.ruleG (g := r) (by omega) (i := 0) rfl
   have r1 := hSc.h8.ruleG (g := r) (by omega) (i := 1) rfl
   have r2 := hSc.h8.ruleG (g := r) (by omega) (i := 2) rfl
   have y0 := hT.ruleG (g := r) lg9 (i := 0) rfl
   have y1 := hT.ruleG (g := r) lg9 (i := 1) rfl
   have y2 := hT.ruleG (g := r) lg9 (i := 2) rfl
   go_wp2_with fail
   refine wp_region_firstY (fun w' => wc.grownBy w' (some r)) [0, 1, 4, 5, 6, 7, 9, 10, 11, 12, 13] [2, 3, 8, 14, 15, 16] [17] [_, _, _, _, _, _, _, _, _, _, _] [_, _, _, _, _, _] [_] (by kernel_rfl) (by kernel_rfl) rfl rfl rfl (fun _ _ d _ _ h => by cases d <;> exact h) (only_drew (World.grownBy.refl _ _)) ?_
   repeat ((first | ((refine takeY_skip (a' := ?_) ?_ ?_ ?_); (rotate_left); (· (simp [Region.wanted, yielded]; done))) | ((refine takeY_step (v := ?_) (a' := ?_) ?_ ?_ ?_ ?_); (rotate_left 2); (· (simp [Region.wanted, yielded]; done)); (· (intro w' hS'; go_simp; try (with_reducible rfl))))); (· (simp only [List.getElem_toArray, List.getElem_cons_zero, List.getElem_cons_succ, Act.put, List.setIfInBounds_toArray, List.set_cons_zero, List.set_cons_succ]; exact rfl)))
   refine takeY_nil (then_cons ?_)
   go_wp2_with fail
   refine mid_intro (only_alloc (only_drew (World.grownBy.refl _ _)) _) (then_cons ?_)
   go_wp2_with (go_at_call 46; refine (node_q (L := w.heap.size) (us := [.mk 6 0 [], .mk 6 0 []]) 4 (hSc.drew.alloc _).size.1 (rdx_cons (by simp) RdP.nil (rdx_cons (by simp) RdP.nil rfl)) (by simp) _ 2 (Blk.new_ _ 25 _ rfl)).mono ?_; rintro e w7 ⟨A7, c7, rfl, hl7, hk7, hb7⟩; have hS7 := (hSc.drew.alloc _).below hb7; have lk7 := hl7; replace hk6 := (hk6.drew.alloc _).below hb7)
   have G7 : wc.grownBy w7 (some r) := only_below (only_alloc (only_drew (World.grownBy.refl _ _)) _) hb7
   refine mid_intro G7 (then_cons ?_)
   go_wp2_with (go_at_call 29; refine (ihx B r p4 n (d - 2) _ (by omega) (by omega) (by omega) (by omega) (by omega) hS7.size.2.2.1 hS7.rd).mono ?_; rintro e w8 ⟨k8', n8', ks8, A8, c8, p8, rfl, hl8, hs8, hp8, hk8, hr8, hg8, hi8⟩; have hS8 := hS7.grown hr8 hg8; replace hk8 := hk8.mono (q := fun b => w.heap.size < b) (fun b hb => Nat.lt_of_lt_of_le hS7.size.1 hb); replace hk6 := hk6.grownL hg8 (Nat.le_of_lt hS7.size.2.2.2); replace hk7 := hk7.grownL hg8 (Nat.le_of_lt hS7.size.2.2.2); clear hr8)
   have G8 : wc.grownBy w8 (some r) := grown_trans G7 hg8
   refine mid_intro G8 (then_cons ?_)
   go_wp2_with (go_at_call 29; refine (ihx B r p8 n (d - 1) _ (by omega) (by omega) (by omega) (by omega) (by omega) hS8.size.2.2.1 hS8.rd).mono ?_; rintro e w9 ⟨k9', n9', ks9, A9, c9, p9, rfl, hl9, hs9, hp9, hk9, hr9, hg9, hi9⟩; have hS9 := hS8.grown hr9 hg9; replace hk9 := hk9.mono (q := fun b => w.heap.size < b) (fun b hb => Nat.lt_of_lt_of_le hS8.size.1 hb); replace hk6 := hk6.grownL hg9 (Nat.le_of_lt hS8.size.2.2.2); replace hk7 := hk7.grownL hg9 (Nat.le_of_lt hS8.size.2.2.2); replace hk8 := hk8.grownL hg9 (Nat.le_of_lt hS8.size.2.2.2); clear hr9)
   have G9 : wc.grownBy w9 (some r) := grown_trans G8 hg9
   refine mid_intro G9 (then_cons ?_)
   go_wp2_with fail
   refine mid_intro (only_alloc G9 _) (then_cons ?_)
   go_wp2_with (go_at_call 46; refine (node_q (L := w.heap.size) (us := [.mk 4 0 [.mk 6 0 [], .mk 6 0 []], .mk k8' n8' ks8, .mk 4 0 [.mk 6 0 [], .mk 4 0 [.mk 6 0 [], tt]], .mk k9' n9' ks9]) 9 (hS9.alloc _).size.1 (rdx_cons (by simp) (hk7.alloc _) (rdx_cons hl8 (hk8.alloc _) (rdx_cons (by simp) (hk6.alloc _) (rdx_cons hl9 (hk9.alloc _) rfl)))) (by simp) _ 4 (Blk.new_ _ 25 _ rfl)).mono ?_; rintro e w10 ⟨A10, c10, rfl, hl10, hk10, hb10⟩; have hS10 := (hS9.alloc _).below hb10; have lk10 := hl10)
   have G10 : wc.grownBy w10 (some r) := only_below (only_alloc G9 _) hb10
   refine mid_intro G10 (then_nil ?_)
   obtain ⟨d0, d1, d2⟩ := hS10.hZ.three
   have e0 := hS10.hZ.frozen 0
   have e1 := hS10.hZ.frozen 1
   have e2 := hS10.hZ.frozen 2
   go_wp2_with fail
   refine bodyPost_ret (v := .agg #[.int .i64 9, .int .i64 0, .slice A10 4 c10]) (by simp [results, Try.results29, go_sem, d0, d1, d2]) rfl (hS10.done (ks := [.mk 4 0 [.mk 6 0 [], .mk 6 0 []], .mk k8' n8' ks8, .mk 4 0 [.mk 6 0 [], .mk 4 0 [.mk 6 0 [], tt]], .mk k9' n9' ks9]) (by rw [hnb4.out]; omega) (by rw [hnb4.out]; simp only [sizes, Tm.size]; omega) (by simp) hk10 _ _ _ c10 (isN_elim hn hi8 hti hi9))
 have q1 : ((m : Int) == 1) = false := beq_eq_false_iff_ne.2 (by omega)
 by_cases m2 : m = 2
 ·subst m2
  go_wp2_with (first
   | (go_at_call 46; have _t := tk3; refine (node_q (L := w.heap.size) (us := [.mk 13 0 [.mk 6 0 [], .mk 6 0 []], .mk k5' n5' ks5, .mk k6' n6' ks6]) 14 (hS6.alloc _).size.1 (rdx_cons (by simp) (hk4.alloc _) (rdx_cons hl5 (hk5.alloc _) (rdx_cons hl6 (hk6.alloc _) rfl))) (by simp) _ 3 (Blk.new_ _ 25 _ rfl)).mono ?_; rintro e w7 ⟨A7, c7, rfl, hl7, hk7, hb7⟩; have hS7 := (hS6.alloc _).below hb7; have lk7 := hl7; have tk4 := trivial)
   | (go_at_call 29; have _t := tk2; refine (ihx B r p5 n (d - 2) _ (by omega) (by omega) (by omega) (by omega) (by omega) hS5.size.2.2.1 hS5.rd).mono ?_; rintro e w6 ⟨k6', n6', ks6, A6, c6, p6, rfl, hl6, hs6, hp6, hk6, hr6, hg6, hi6⟩; have hS6 := hS5.grown hr6 hg6; replace hk6 := hk6.mono (q := fun b => w.heap.size < b) (fun b hb => Nat.lt_of_lt_of_le hS5.size.1 hb); replace hk4 := hk4.grownL hg6 (Nat.le_of_lt hS5.size.2.2.2); replace hk5 := hk5.grownL hg6 (Nat.le_of_lt hS5.size.2.2.2); clear hr6; have tk3 := trivial)
   | (go_at_call 29; have _t := tk1; refine (ihx B r (p + 1) n (d - 1) _ (by omega) (by omega) (by omega) (by omega) (by omega) hS4.size.2.2.1 hS4.rd).mono ?_; rintro e w5 ⟨k5', n5', ks5, A5, c5, p5, rfl, hl5, hs5, hp5, hk5, hr5, hg5, hi5⟩; have hS5 := hS4.grown hr5 hg5; replace hk5 := hk5.mono (q := fun b => w.heap.size < b) (fun b hb => Nat.lt_of_lt_of_le hS4.size.1 hb); replace hk4 := hk4.grownL hg5 (Nat.le_of_lt hS4.size.2.2.2); clear hr5; have tk2 := trivial)
   | (go_at_call 46; refine (node_q (L := w.heap.size) (us := [.mk 6 0 [], .mk 6 0 []]) 13 (hS.alloc _).size.1 (rdx_cons (by simp) RdP.nil (rdx_cons (by simp) RdP.nil rfl)) (by simp) _ 2 (Blk.new_ _ 25 _ rfl)).mono ?_; rintro e w4 ⟨A4, c4, rfl, hl4, hk4, hb4⟩; have hS4 := (hS.alloc _).below hb4; have lk4 := hl4; have tk1 := trivial))
  refine name_world ?_
  intro W hW
  have hSW : StN B r p6 g8 w W := by rw [hW]; exact hS7.alloc _
  have hT : Blk W w7.heap.size #[.int .i64 14, .int .i64 0, .slice A7 3 c7] := by rw [hW]; exact Blk.new_ _ 25 _ rfl
  have hkW : RdP (fun b => w.heap.size < b) W A7 0 [.mk 13 0 [.mk 6 0 [], .mk 6 0 []], .mk k5' n5' ks5, .mk k6' n6' ks6] := by rw [hW]; exact hk7.alloc _
  have l7 : w.heap.size < w7.heap.size := hS7.size.1
  have l7r : r < w.heap.size := hS7.size.2.2.2
  have lW := hSW.size
  have lWr : r < W.heap.size := by omega
  have lWd : W.drew.heap.size = W.heap.size := rfl
  clear hW x0 x1 x2 hS7 hS6 hS5 hS4 hS hk7 hk6 hk5 hk4
  obtain ⟨y0, y1, y2⟩ := hT.three
  go_region_held3 (fun w' => w'.cell? ⟨w7.heap.size, 0, none⟩ = some (.int .i64 14) ∧ w'.cell? ⟨w7.heap.size, 1, none⟩ = some (.int .i64 0) ∧ w'.cell? ⟨w7.heap.size, 2, none⟩ = some (.slice A7 3 c7)) (((try dsimp only); (first | with_reducible exact ⟨y0, y1, y2⟩ | with_reducible exact ⟨z0, z1, z2⟩ | with_reducible exact ⟨v0, v1, v2⟩ | ((with_reducible refine ⟨far3n v0 ?_, far3n v1 ?_, far3n v2 ?_⟩) <;> omega) | ((with_reducible refine ⟨far3n (Keeps.alloc _ _ _ _ v0) ?_, far3n (Keeps.alloc _ _ _ _ v1) ?_, far3n (Keeps.alloc _ _ _ _ v2) ?_⟩) <;> omega) | with_reducible exact ⟨Keeps.alloc _ _ _ _ y0, Keeps.alloc _ _ _ _ y1, Keeps.alloc _ _ _ _ y2⟩ | with_reducible exact ⟨Keeps.alloc _ _ _ _ z0, Keeps.alloc _ _ _ _ z1, Keeps.alloc _ _ _ _ z2⟩ | with_reducible exact ⟨Keeps.alloc _ _ _ _ v0, Keeps.alloc _ _ _ _ v1, Keeps.alloc _ _ _ _ v2⟩ | with_reducible exact ⟨Keeps.alloc _ _ _ _ (Keeps.alloc _ _ _ _ y0), Keeps.alloc _ _ _ _ (Keeps.alloc _ _ _ _ y1), Keeps.alloc _ _ _ _ (Keeps.alloc _ _ _ _ y2)⟩ | with_reducible exact ⟨Keeps.alloc _ _ _ _ (Keeps.alloc _ _ _ _ z0), Keeps.alloc _ _ _ _ (Keeps.alloc _ _ _ _ z1), Keeps.alloc _ _ _ _ (Keeps.alloc _ _ _ _ z2)⟩ | with_reducible exact ⟨Keeps.alloc _ _ _ _ (Keeps.alloc _ _ _ _ v0), Keeps.alloc _ _ _ _ (Keeps.alloc _ _ _ _ v1), Keeps.alloc _ _ _ _ (Keeps.alloc _ _ _ _ v2)⟩ | go_keep))) (first
   | (go_at_call 46; have _t := tk8; refine name_callsN ?_; intro wy hwy; have hSy : StN B r (p6 + 1) g8 w wy := (by rw [hwy]; with_reducible (repeat (first | exact hS8 | refine StN.alloc ?_ _ | refine StN.drew ?_))); have hky : RdP (fun b => w.heap.size < b) wy A7 0 [.mk 13 0 [.mk 6 0 [], .mk 6 0 []], .mk k5' n5' ks5, .mk k6' n6' ks6] := (by rw [hwy]; with_reducible (repeat (first | exact hk8 | refine RdP.alloc ?_ _ | refine RdP.drew ?_))); have hTy : Blk wy w7.heap.size #[.int .i64 14, .int .i64 0, .slice A7 3 c7] := (by rw [hwy]; with_reducible (repeat (first | exact hT8 | refine Blk.alloc ?_ _ | refine Blk.drew ?_))); refine (node_q (L := w.heap.size) (us := [.mk 14 0 [.mk 13 0 [.mk 6 0 [], .mk 6 0 []], .mk k5' n5' ks5, .mk k6' n6' ks6]]) x hSy.size.1 (rdx_cons (by simp) hky rfl) (by simp) _ 1 (by rw [hwy]; first | exact hR | exact Blk.new_ _ 25 _ rfl)).mono ?_; clear hwy; rintro e w9 ⟨A9, c9, rfl, hl9, hk9, hb9⟩; have hS9 := hSy.below hb9; have hT9 := hTy.keep hb9; clear d0 d1 d2 e0 e1 e2; obtain ⟨d0, d1, d2⟩ := hS9.hZ.three; have e0 := hS9.hZ.frozen 0; have e1 := hS9.hZ.frozen 1; have e2 := hS9.hZ.frozen 2; obtain ⟨v0, v1, v2⟩ := hT9.three)
   | (go_at_call 27; refine name_callsN ?_; intro wx hwx; have hSx : StN B r p6 g8 w wx := (by rw [hwx]; with_reducible (repeat (first | exact hSW | refine StN.alloc ?_ _ | refine StN.drew ?_))); have hkx : RdP (fun b => w.heap.size < b) wx A7 0 [.mk 13 0 [.mk 6 0 [], .mk 6 0 []], .mk k5' n5' ks5, .mk k6' n6' ks6] := (by rw [hwx]; with_reducible (repeat (first | exact hkW | refine RdP.alloc ?_ _ | refine RdP.drew ?_))); have hTx : Blk wx w7.heap.size #[.int .i64 14, .int .i64 0, .slice A7 3 c7] := (by rw [hwx]; with_reducible (repeat (first | exact hT | refine Blk.alloc ?_ _ | refine Blk.drew ?_))); have lx := hSx.size; (first | (refine (fun (hRx : Blk wx (W.heap.size) #[.int .i64 14, .int .i64 0, .slice A7 3 c7]) => ?_) ?_; rotate_left; (rw [hwx]; ((repeat (first | ((with_reducible refine Blk.new_ _ 25 _ ?_); (first | rfl | (simp [lWd] <;> fail))) | (with_reducible refine Blk.drew ?_) | (with_reducible refine Blk.alloc ?_ _))) <;> fail))) | (refine (fun (hRx : Blk wx (W.heap.size + 1) #[.int .i64 14, .int .i64 0, .slice A7 3 c7]) => ?_) ?_; rotate_left; (rw [hwx]; ((repeat (first | ((with_reducible refine Blk.new_ _ 25 _ ?_); (first | rfl | (simp [lWd] <;> fail))) | (with_reducible refine Blk.drew ?_) | (with_reducible refine Blk.alloc ?_ _))) <;> fail))) | skip); refine (num_any [15, 16] B r p6 _ _ (by decide) (by decide) (by omega) lx.2.2.1 hSx.rd (by rw [hwx]; show Blk _ _ #[.int .i64 15, .int .i64 16]; ((repeat (first | ((with_reducible refine Blk.new_ _ 3 _ ?_); (first | rfl | (simp [lWd] <;> fail))) | (with_reducible refine Blk.drew ?_) | (with_reducible refine Blk.alloc ?_ _))) <;> fail)) (by omega)).mono ?_; clear hwx; rintro e w8 ⟨x, hx, rfl, hr8, hg8⟩; have hS8 := hSx.grown hr8 hg8; have hk8 := hkx.grownL hg8 (by omega); have hT8 := hTx.grown hg8 (by simp; omega); (try (have hR := hRx.grown hg8 (by simp; omega))); clear hr8 hkx hTx hSx; obtain ⟨z0, z1, z2⟩ := hT8.three; have tk8 := trivial))
  all_goals
   go_wp2_with fail
   refine bodyPost_ret (v := .agg #[.int .i64 x, .int .i64 0, .slice A9 1 c9]) (by simp [results, Try.results29, go_sem, d0, d1, d2]) rfl (hS9.done (ks := [.mk 14 0 [.mk 13 0 [.mk 6 0 [], .mk 6 0 []], .mk k5' n5' ks5, .mk k6' n6' ks6]]) (by rw [hnb4.out]; omega) (by rw [hnb4.out]; simp only [sizes, Tm.size]; omega) (by simp) hk9 _ _ _ c9 (isN_part hn hx hi5 hi6))
 have q2 : ((m : Int) == 2) = false := beq_eq_false_iff_ne.2 (by omega)
 by_cases m3 : m = 3
 ·subst m3
  go_wp2_with (first
   | (go_at_call 46; have _t := tk4; refine (node_q (L := w.heap.size) (us := [.mk 4 0 [.mk 6 0 [], .mk 6 0 []], .mk 11 0 [.mk k5' n5' ks5], .mk k7' n7' ks7]) 12 (hS7.alloc _).size.1 (rdx_cons (by simp) (hk4.alloc _) (rdx_cons (by simp) (hk6.alloc _) (rdx_cons hl7 (hk7.alloc _) rfl))) (by simp) _ 3 (Blk.new_ _ 25 _ rfl)).mono ?_; rintro e w8 ⟨A8, c8, rfl, hl8, hk8, hb8⟩; have hS8 := (hS7.alloc _).below hb8; have lk8 := hl8; clear d0 d1 d2 e0 e1 e2; obtain ⟨d0, d1, d2⟩ := hS8.hZ.three; have e0 := hS8.hZ.frozen 0; have e1 := hS8.hZ.frozen 1; have e2 := hS8.hZ.frozen 2)
   | (go_at_call 29; have _t := tk3; refine (ihx B r p5 n (d - 1) _ (by omega) (by omega) (by omega) (by omega) (by omega) hS6.size.2.2.1 hS6.rd).mono ?_; rintro e w7 ⟨k7', n7', ks7, A7, c7, p7, rfl, hl7, hs7, hp7, hk7, hr7, hg7, hi7⟩; have hS7 := hS6.grown hr7 hg7; replace hk7 := hk7.mono (q := fun b => w.heap.size < b) (fun b hb => Nat.lt_of_lt_of_le hS6.size.1 hb); replace hk4 := hk4.grownL hg7 (Nat.le_of_lt hS6.size.2.2.2); replace hk6 := hk6.grownL hg7 (Nat.le_of_lt hS6.size.2.2.2); clear hr7; have tk4 := trivial)
   | (go_at_call 46; have _t := tk2; refine (node_q (L := w.heap.size) (us := [.mk k5' n5' ks5]) 11 (hS5.alloc _).size.1 (rdx_cons hl5 (hk5.alloc _) rfl) (by simp) _ 1 (Blk.new_ _ 25 _ rfl)).mono ?_; rintro e w6 ⟨A6, c6, rfl, hl6, hk6, hb6⟩; have hS6 := (hS5.alloc _).below hb6; replace hk4 := (hk4.alloc _).below hb6; have lk6 := hl6; have tk3 := trivial)
   | (go_at_call 29; have _t := tk1; refine (ihx B r (p + 1) n (d - 2) _ (by omega) (by omega) (by omega) (by omega) (by omega) hS4.size.2.2.1 hS4.rd).mono ?_; rintro e w5 ⟨k5', n5', ks5, A5, c5, p5, rfl, hl5, hs5, hp5, hk5, hr5, hg5, hi5⟩; have hS5 := hS4.grown hr5 hg5; replace hk5 := hk5.mono (q := fun b => w.heap.size < b) (fun b hb => Nat.lt_of_lt_of_le hS4.size.1 hb); replace hk4 := hk4.grownL hg5 (Nat.le_of_lt hS4.size.2.2.2); clear hr5; have tk2 := trivial)
   | (go_at_call 46; refine (node_q (L := w.heap.size) (us := [.mk 6 0 [], .mk 6 0 []]) 4 (hS.alloc _).size.1 (rdx_cons (by simp) RdP.nil (rdx_cons (by simp) RdP.nil rfl)) (by simp) _ 2 (Blk.new_ _ 25 _ rfl)).mono ?_; rintro e w4 ⟨A4, c4, rfl, hl4, hk4, hb4⟩; have hS4 := (hS.alloc _).below hb4; have lk4 := hl4; have tk1 := trivial))
  refine bodyPost_ret (v := .agg #[.int .i64 12, .int .i64 0, .slice A8 3 c8]) (by simp [results, Try.results29, go_sem, d0, d1, d2]) rfl (hS8.done (ks := [.mk 4 0 [.mk 6 0 [], .mk 6 0 []], .mk 11 0 [.mk k5' n5' ks5], .mk k7' n7' ks7]) (by rw [hnb4.out]; omega) (by rw [hnb4.out]; simp only [sizes, Tm.size]; omega) (by simp) hk8 _ _ _ c8 (isN_mov hn hi5 hi7))
 have q3 : ((m : Int) == 3) = false := beq_eq_false_iff_ne.2 (by omega)
 by_cases m4 : m = 4
 ·subst m4
  go_wp2_with (first
   | (go_at_call 29; refine (ihx B r (p + 1) n 0 _ (by omega) (by omega) (by omega) (by omega) (by omega) hS.size.2.2.1 hS.rd).mono ?_; rintro e w4 ⟨k4', n4', ks4, A4, c4, p4, rfl, hl4, hs4, hp4, hk4, hr4, hg4, hi4⟩; have hS4 := hS.grown hr4 hg4; replace hk4 := hk4.mono (q := fun b => w.heap.size < b) (fun b hb => Nat.lt_of_lt_of_le hS.size.1 hb); clear hr4; clear d0 d1 d2 e0 e1 e2; obtain ⟨d0, d1, d2⟩ := hS4.hZ.three; have e0 := hS4.hZ.frozen 0; have e1 := hS4.hZ.frozen 1; have e2 := hS4.hZ.frozen 2))
  refine bodyPost_ret (v := .agg #[.int .i64 k4', .int .i64 n4', .slice A4 ks4.length c4]) (by simp [results, Try.results29, go_sem, d0, d1, d2]) rfl (hS4.done (by rw [hnb4.out]; omega) (by rw [hnb4.out]; omega) hl4 hk4 _ _ _ c4 hi4)
 have q4 : ((m : Int) == 4) = false := beq_eq_false_iff_ne.2 (by omega)
 go_wp2_with (first
  | (go_at_call 46; have _t := tk1; refine (node_q (L := w.heap.size) (us := [.mk k4' n4' ks4]) 8 (hS4.alloc _).size.1 (rdx_cons hl4 (hk4.alloc _) rfl) (by simp) _ 1 (Blk.new_ _ 25 _ rfl)).mono ?_; rintro e w5 ⟨A5, c5, rfl, hl5, hk5, hb5⟩; have hS5 := (hS4.alloc _).below hb5; have lk5 := hl5; clear d0 d1 d2 e0 e1 e2; obtain ⟨d0, d1, d2⟩ := hS5.hZ.three; have e0 := hS5.hZ.frozen 0; have e1 := hS5.hZ.frozen 1; have e2 := hS5.hZ.frozen 2)
  | (go_at_call 29; refine (ihx B r (p + 1) n (d - 1) _ (by omega) (by omega) (by omega) (by omega) (by omega) hS.size.2.2.1 hS.rd).mono ?_; rintro e w4 ⟨k4', n4', ks4, A4, c4, p4, rfl, hl4, hs4, hp4, hk4, hr4, hg4, hi4⟩; have hS4 := hS.grown hr4 hg4; replace hk4 := hk4.mono (q := fun b => w.heap.size < b) (fun b hb => Nat.lt_of_lt_of_le hS.size.1 hb); clear hr4; have tk1 := trivial))
 refine bodyPost_ret (v := .agg #[.int .i64 8, .int .i64 0, .slice A5 1 c5]) (by simp [results, Try.results29, go_sem, d0, d1, d2]) rfl (hS5.done (ks := [.mk k4' n4' ks4]) (by rw [hnb4.out]; omega) (by rw [hnb4.out]; simp only [sizes, Tm.size]; omega) (by simp) hk5 _ _ _ c5 (isN_suc hn hi4))
set_option maxHeartbeats 4000000 in
set_option maxRecDepth 100000 in
theorem nat_leaf (B r p : Nat) (n d : Int) (w : World) (hd : d < 1) (hn : 0 ≤ n) (hnk : n ≤ 20) (hp : p ≤ 900000000) (hB : B ≤ w.heap.size) (hr : Rdr B w r p) :
  Calls Try.prog 29 #[.pointer (some ⟨r, 0, none⟩), .int .i64 n, .int .i64 d] w (NatD B w r p 10 n) := by
 have hrl := hr.lt
 by_cases h0 : 0 < n
 ·go_enter Try.func29, Try.ntmps29
  go_wp2_with (first
   | (go_at_call 28; have _t := tokA; refine (sLeaf_any _ _ _).mono ?_; rintro e w2 ⟨rfl, hb2⟩; have hr2 := (hr1.alloc (by omega) (.cells #[.int .i64 7, .int .i64 0, .slice none 0 0] 25)).below hb2 (by simp; omega); have hZ2 := (hZ1.alloc (.cells #[.int .i64 7, .int .i64 0, .slice none 0 0] 25)).keep hb2; have g2 := only_below (only_alloc g1 (.cells #[.int .i64 7, .int .i64 0, .slice none 0 0] 25)) hb2; have s2 : w1.heap.size + 1 ≤ w2.heap.size := (by have := hb2.size; simpa using this))
   | (go_at_call 28; refine (sLeaf_any _ _ _).mono ?_; rintro e w1 ⟨rfl, hb1⟩; have hr1 := (hr.alloc (by omega) (.cells #[.int .i64 0, .int .i64 0, .slice none 0 0] 25)).below hb1 (by simp; omega); have hZ1 := (Blk.new_ w 25 #[.int .i64 0, .int .i64 0, .slice none 0 0] rfl).keep hb1; have g1 : w.grownBy w1 (some r) := only_below (only_alloc (World.grownBy.refl _ _) _) hb1; have s1 : w.heap.size + 1 ≤ w1.heap.size := (by have := hb1.size; simpa using this); have tokA := trivial))
  refine (pick_any B r p 2 _ (by omega) (by omega) (by simp; omega) (hr2.alloc (by omega) _)).mono ?_
  rintro e w3 ⟨m, rfl, hm, hm0, hr3, hg3⟩
  have hS := (StN.mk (g8 := w2.heap.size) (hr2.alloc (by omega) _) (only_alloc g2 _) (hZ2.alloc _) (Blk.new_ w2 25 #[.int .i64 6, .int .i64 0, .slice none 0 0] rfl) hB (by omega)).grown hr3 hg3
  have hN3 : Blk w3 w1.heap.size #[.int .i64 7, .int .i64 0, .slice none 0 0] := (((Blk.new_ w1 25 #[.int .i64 7, .int .i64 0, .slice none 0 0] rfl).keep hb2).alloc _).grown hg3 (by simp; omega)
  obtain ⟨g8, hg8⟩ : ∃ g8, g8 = w2.heap.size := ⟨_, rfl⟩
  rw [← hg8] at hS ⊢
  clear hm hm0 hg3 hr3 hg8 hr2 hZ2 g2 s2 hb2 hb1 hr1 hZ1 g1 s1
  obtain ⟨d0, d1, d2⟩ := hS.hZ.three
  have e0 := hS.hZ.frozen 0
  have e1 := hS.hZ.frozen 1
  have e2 := hS.hZ.frozen 2
  obtain ⟨x0, x1, x2⟩ := hN3.three
  by_cases m0 : m = 0
  ·subst m0
   go_wp2_with (first
    | (go_at_call 28; have _t := tk1; refine (sLeaf_any _ _ _).mono ?_; rintro e w5 ⟨rfl, hb5⟩; have hS5 := hS4.below hb5; clear d0 d1 d2 e0 e1 e2; obtain ⟨d0, d1, d2⟩ := hS5.hZ.three; have e0 := hS5.hZ.frozen 0; have e1 := hS5.hZ.frozen 1; have e2 := hS5.hZ.frozen 2)
    | (go_at_call 12; refine (pick_any B r (p + 1) n _ (by omega) (by omega) hS.size.2.2.1 hS.rd).mono ?_; rintro e w4 ⟨m4, rfl, hm4, hm40, hr4, hg4⟩; clear hm40; have hS4 := hS.grown hr4 hg4; clear hr4; have tk1 := trivial))
   refine bodyPost_ret (v := .agg #[.int .i64 1, .int .i64 m4, .slice none 0 0]) (by simp [results, Try.results29, go_sem, d0, d1, d2]) rfl (hS5.done (ks := []) (by omega) (by simp [sizes]) (by simp) RdP.nil _ _ _ 0 (isN_var hn (by have := hm4 (by omega); omega)))
  ·have q0 : ((m : Int) == 0) = false := beq_eq_false_iff_ne.2 (by omega)
   go_wp2_with fail
   refine bodyPost_ret (v := .agg #[.int .i64 7, .int .i64 0, .slice none 0 0]) ?_ rfl ?_
   ·simp [results, Try.results29, go_sem, d0, d1, d2]
   ·exact (hS.done (p := p) (s := 10) (ks := []) (by omega) (by simp [sizes]) (by simp) RdP.nil _ _ _ 0 (isN_zero _))
 ·go_enter Try.func29, Try.ntmps29
  go_wp2_with (first
   | (go_at_call 28; have _t := tokA; refine (sLeaf_any _ _ _).mono ?_; rintro e w2 ⟨rfl, hb2⟩; have hr2 := (hr1.alloc (by omega) (.cells #[.int .i64 7, .int .i64 0, .slice none 0 0] 25)).below hb2 (by simp; omega); have hZ2 := (hZ1.alloc (.cells #[.int .i64 7, .int .i64 0, .slice none 0 0] 25)).keep hb2; have hN2 := (Blk.new_ w1 25 #[.int .i64 7, .int .i64 0, .slice none 0 0] rfl).keep hb2; have g2 := only_below (only_alloc g1 (.cells #[.int .i64 7, .int .i64 0, .slice none 0 0] 25)) hb2; have s2 : w1.heap.size + 1 ≤ w2.heap.size := (by have := hb2.size; simpa using this); have hS := (StN.mk (g8 := w2.heap.size) (hr2.alloc (by omega) (.cells #[.int .i64 6, .int .i64 0, .slice none 0 0] 25)) (only_alloc g2 _) (hZ2.alloc _) (Blk.new_ w2 25 #[.int .i64 6, .int .i64 0, .slice none 0 0] rfl) hB (by omega)); have lz2 := hZ2.lt; have ln2 := hN2.lt; obtain ⟨d0, d1, d2⟩ := hZ2.three; have e0 := hZ2.frozen 0; have e1 := hZ2.frozen 1; have e2 := hZ2.frozen 2; obtain ⟨x0, x1, x2⟩ := hN2.three)
   | (go_at_call 28; refine (sLeaf_any _ _ _).mono ?_; rintro e w1 ⟨rfl, hb1⟩; have hr1 := (hr.alloc (by omega) (.cells #[.int .i64 0, .int .i64 0, .slice none 0 0] 25)).below hb1 (by simp; omega); have hZ1 := (Blk.new_ w 25 #[.int .i64 0, .int .i64 0, .slice none 0 0] rfl).keep hb1; have g1 : w.grownBy w1 (some r) := only_below (only_alloc (World.grownBy.refl _ _) _) hb1; have s1 : w.heap.size + 1 ≤ w1.heap.size := (by have := hb1.size; simpa using this); have tokA := trivial))
  refine bodyPost_ret (v := .agg #[.int .i64 7, .int .i64 0, .slice none 0 0]) ?_ rfl ?_
  ·simp [results, Try.results29, go_sem, d0, d1, d2, lz2]
  ·refine ⟨7, 0, [], none, 0, p, rfl, by simp, by simp [sizes], by omega, RdP.nil, ?_, ?_, isN_zero _⟩
   ·exact (((hr2.setCell (by simp; omega) _).setCell (by simp; omega) _).setCell (by simp; omega) _).alloc (by simp; omega) _
   ·exact only_alloc (only_setCell (only_setCell (only_setCell g2 (.inr (by simp)) _) (.inr (by simp)) _) (.inr (by simp)) _) _
theorem nat_any (k : Nat) (hk : k ≤ 4) : NatO k := by
 induction k with
 | zero =>
  intro B r p n d w hd hd5 hn hnk hp hB hr
  exact nat_leaf B r p n d w (by omega) hn (by omega) (by simp [NB] at hp; omega) hB hr
 | succ k ih =>
  intro B r p n d w hd hd5 hn hnk hp hB hr
  by_cases h1 : 1 ≤ d
  ·exact nat_step k (by omega) (ih (by omega)) B r p n d w h1 (by omega) hn (by omega) hp hB hr
  ·refine (nat_leaf B r p n d w (by omega) hn (by omega) (by omega) hB hr).mono ?_
   rintro e w' ⟨k', n', ks, A, c, p', he, hl, hs, hp', h⟩
   have := nb_ge (k + 1)
   exact ⟨k', n', ks, A, c, p', he, hl, by omega, by omega, h⟩
end Go.Proofs.Ytddkehjdjfmhmaa
