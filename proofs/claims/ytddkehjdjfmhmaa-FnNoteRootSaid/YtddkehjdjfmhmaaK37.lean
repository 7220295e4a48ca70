/-
 Contracts of the functions that the law reaches, and plain lemmas. No condition.
-/
import Derived.Test.YtddkehjdjfmhmaaK7
import Derived.Test.YtddkehjdjfmhmaaK15
import Derived.Test.YtddkehjdjfmhmaaK34
import Derived.Test.YtddkehjdjfmhmaaK36
import Derived.Lib.SliceRun
namespace Go.Proofs.Ytddkehjdjfmhmaa
set_option linter.unusedSimpArgs false
set_option linter.unusedVariables false
open Go.RowKit
def DrawnNote (w : World) (e : Ending) (w' : World) : Prop :=
 ∃ (k n : Int) (ks : List Tm) (A : Option Addr) (c : Nat) (ns : List Tm) (D : Option Addr) (dc : Nat) (xs : List Int) (P : Option Addr) (cp : Nat), e = .returned (.tuple #[.agg #[.int .i64 k, .int .i64 n, .slice A ks.length c], .slice D ns.length dc, .slice P xs.length cp]) ∧
  validT (.mk k n ks) = true ∧ Hid (∀ u, u ∈ ns → validT u = true) ∧ ns.length ≤ 401 ∧ xs.length ≤ 401 ∧ RdI w' P xs ∧ Rd w' A 0 ks ∧ Rd w' D 0 ns ∧ Below w.heap.size w w'
theorem an_notes {N : Nat} {ctx : List Tm} {t : Tm} {R : Int × List Tm} (h : anR N ctx t = some R) (hv : validT t = true) : (∀ u, u ∈ R.2 → validT u = true) ∧ R.2.length ≤ 401 := by
 unfold anR at h
 have hz := validT_size hv
 have nil : ∀ c : Int, (∀ u, u ∈ (Prod.mk c ([] : List Tm)).2 → validT u = true) ∧ (Prod.mk c ([] : List Tm)).2.length ≤ 401 := fun c => And.intro (fun u (hu : u ∈ []) => absurd hu (List.not_mem_nil)) (Nat.zero_le _)
 split at h
 ·cases h
 ·injection h with h; subst h; exact nil _
 ·split at h
  ·cases h
  ·injection h with h; subst h; exact nil _
  ·rename_i ns hn
   injection h with h; subst h
   have := (note_valid N).1 _ _ _ hn
   exact ⟨this.2, by have := this.1; simp only; omega⟩
theorem drawn_ctx {cx : List Tm} {t : Tm} (h : IsDrawn cx t) : sizes cx ≤ 1000 := by
 rcases h with ⟨m, hm, rfl, -⟩ | ⟨us, h, -⟩
 ·rcases m with _ | _ | _ | m
  ·decide
  ·decide
  ·decide
  ·omega
 ·rcases h with ⟨rfl, -⟩ | ⟨rfl, -⟩ | ⟨rfl, -⟩ | ⟨rfl, -⟩ <;> decide
theorem below_grownD {w w1 w2 : World} {r : Nat} (h : Below w.heap.size w w1) (g : w1.grownBy w2 (some r)) (hr : w.heap.size ≤ r) : Below w.heap.size w w2 :=
 ⟨g.os.trans h.os, g.tape.trans h.tape, g.output.trans h.output, Nat.le_trans h.size g.size, fun i hi => (g.block i (Nat.lt_of_lt_of_le hi h.size) (fun e => by injection e; omega)).trans (h.block i hi)⟩
theorem RdI.set3 {w : World} {A : Option Addr} {xs : List Int} (h : RdI w A xs) {g : Nat} (hn : ∀ a, A = some a → a.block ≠ g) (o : Nat) (u : Value) : RdI (w.setCell ⟨g, o, none⟩ u) A xs := fun j hj => by
 obtain ⟨b, off, hA, hc⟩ := h j hj
 exact ⟨b, off, hA, (World.cell?_of_block (w := w) (a := ⟨b, off + j, none⟩) (Below.heap_setCell w ⟨g, o, none⟩ u b (hn _ hA))).trans hc⟩
def K2 (W : World) (y z : Nat) (w' : World) : Prop := W.heap.size ≤ w'.heap.size ∧ ∀ b, b < W.heap.size → b ≠ y → b ≠ z → w'.heap[b]? = W.heap[b]?
theorem K2.of {W w' : World} {y z : Nat} (h : W.grownBy w' (some y)) : K2 W y z w' := ⟨h.size, fun b hb hy _ => h.block b hb (fun e => hy (by injection e))⟩
theorem K2.set {W w' : World} {y z : Nat} (h : K2 W y z w') (o : Nat) (v : Value) : K2 W y z (w'.setCell ⟨z, o, none⟩ v) := ⟨by simp; exact h.1, fun b hb hy hz => (Below.heap_setCell _ ⟨z, o, none⟩ _ b hz).trans (h.2 b hb hy hz)⟩
theorem K2.cell {W w' : World} {y z b o : Nat} {v : Value} (h : K2 W y z w') (hc : W.cell? ⟨b, o, none⟩ = some v) (hy : b ≠ y) (hz : b ≠ z) : w'.cell? ⟨b, o, none⟩ = some v := by
 have hb := World.block_lt_of_cell? _ _ hc
 rw [← hc]
 simp only [World.cell?, h.2 b hb hy hz]
theorem rdp_shift {p : Nat → Prop} {w : World} {b off : Nat} : (∀ t i, RdPC p w b off (i + 1) t → RdPC p w b (off + 3) i t) ∧ (∀ ts i, RdP p w (some ⟨b, off, none⟩) (i + 1) ts → RdP p w (some ⟨b, off + 3, none⟩) i ts) := by
 have h1 : ∀ t i, RdPC p w b off (i + 1) t → RdPC p w b (off + 3) i t := fun t i h => by
  obtain ⟨k, n, ks⟩ := t
  rw [RdPC.iff] at h ⊢
  rw [show off + 3 + i * 3 = off + (i + 1) * 3 from by omega]
  exact h
 refine ⟨h1, fun ts => ?_⟩
 induction ts with
 | nil => intro i h; exact RdP.nil
 | cons t ts ih =>
  intro i h
  rw [RdP.cons_iff] at h ⊢
  obtain ⟨⟨b1, o1, hA, hc⟩, h2⟩ := h
  injection hA with hA
  injection hA with e1 e2
  subst e1 e2
  exact ⟨⟨b, off + 3, rfl, h1 _ _ hc⟩, ih _ h2⟩
theorem RdP.tail3 {p : Nat → Prop} {w : World} {A : Option Addr} {t : Tm} {ts : List Tm} (h : RdP p w A 0 (t :: ts)) : ∃ b off, A = some ⟨b, off, none⟩ ∧ RdP p w (some ⟨b, off + 3, none⟩) 0 ts := by
 obtain ⟨⟨b, off, hA, hc⟩, h2⟩ := RdP.cons_iff.1 h
 subst hA
 exact ⟨b, off, rfl, rdp_shift.2 _ _ h2⟩
theorem PartR.capR {lo : Nat → Prop} {B : Nat} {w : World} {A : Option Addr} {n c : Nat} {ts : List Tm} (h : PartR lo B w (.slice A n c) ts) : ts.length ≤ c := by
 obtain ⟨xs, h1, _⟩ := h
 rcases h1.2 with ⟨e, h0⟩ | ⟨g, cap, cur, e, hb, hg, hn, _⟩
 ·omega
 ·injection e with e1 e2 e3; omega
set_option maxHeartbeats 16000000 in
set_option maxRecDepth 100000 in
theorem drawNote_any (bs : List Int) (A : Option Addr) (c : Nat) (w : World) (hl : bs.length ≤ 9223372036854775807) (hc : bs.length ≤ c) (hr : RdY w A bs) : Calls Try.prog 4 #[.slice A bs.length c] w (DrawnNote w) := by
 have tok1 := trivial
 go_enter Try.func4, Try.ntmps4
 go_wp2_with (first
  | (go_at_call 11; have _t := tok3; obtain ⟨N, ⟨code, ns⟩, hAn⟩ := drawn_an hD2; have hnv := an_notes hAn hv2; simp only at hnv; have hcs := drawn_ctx hD2; refine (sAnnotate_any N cx D dc k n ks A2 c2 (code, ns) _ hAn hdc (by omega) (by have := validT_size' hv2; omega) (rc2.alloc _).rd (ra2.alloc _).rd).mono ?_; rintro e w3 ⟨A3, c3, rfl, hP3, hb3⟩; simp only at hP3; have hX3 := (Blk.new_ w2 25 #[.int .i64 k, .int .i64 n, .slice A2 ks.length c2] rfl).keep hb3; have hZ3 := (hZ2.alloc (.cells #[.int .i64 k, .int .i64 n, .slice A2 ks.length c2] 25)).keep hb3; have hcap := hP3.capR; obtain ⟨A3', c3', e3, rn3⟩ := hP3.rd; injection e3 with e3a e3b e3c; subst e3a; clear e3b e3c; replace rn3 : RdP (fun b => w2.heap.size ≤ b) w3 A3 0 ns := rn3.mono (fun b hb => by rcases hb with hb | hb; exact hb.elim; simp at hb; omega); have b3 : Below w2.heap.size w2 w3 := (by_alloc (by_refl _) _).trans (hb3.mono (by simp)); have ra3 := ra2.below b3; have hR3 := hR2.below b3 s12; have g3 := only_below g2 b3; have s3 := b3.size; have lX3 := hX3.lt; have hnv1 := hide hnv.1; have hnl := hnv.2; have hv2' := hide hv2; clear hnv hAn hv2 hD2 tok3 _t)
  | (go_at_call 10; have _t := tok2; refine (l5draw_any natOk w1.heap.size r 0 _ (by omega) (Nat.le_refl _) hr1).mono ?_; rintro e w2 ⟨cx, D, dc, k, n, ks, A2, c2, p2, rfl, hdc, rc2, hD2, hl2, hv2, hp2, ra2, hR2, g2⟩; have s12 := g2.size; have hZ2 := hZ1.grown g2 (by simp; omega); clear tok2 _t; have tok3 := trivial)
  | (go_at_call 9; have _t := tok1; refine (open_any bs A c _ hl hc (hr.keeps (.alloc _ _))).mono ?_; rintro e w1 ⟨r, rfl, hr0, hrlt, hr1, hb1⟩; have hZ1 : Blk w1 w.heap.size #[.int .i64 0, .int .i64 0, .slice none 0 0] := (Blk.new_ w 25 _ rfl).keep hb1; have g1 : Below w.heap.size w w1 := (by_alloc (by_refl _) _).trans (hb1.mono (by simp)); have s1 := g1.size; have lz := hZ1.lt; have hrw : w.heap.size < r := (by simp at hr0; omega); clear tok1 _t; have tok2 := trivial))
 refine (pick_any w1.heap.size r p2 12 _ (by omega) (by omega) (by omega) hR3).mono ?_
 rintro e w4 ⟨m, rfl, hm, -, hR4, hg4⟩
 clear hm
 have g4 := grown_trans g3 hg4
 have hX4 := hX3.grown hg4 (by intro e; injection e; omega)
 have hZ4 := hZ3.grown hg4 (by intro e; injection e; omega)
 have ra4 : RdP (fun b => w1.heap.size ≤ b) w4 A2 0 ks := ra3.grown hg4 (fun b hb e => by injection e; omega)
 have rn4 := rn3.grown hg4 (fun b hb e => by injection e; omega)
 have s4 := hg4.size
 by_cases hq : m = 0 ∧ ns ≠ []
 ·obtain ⟨rfl, hne⟩ := hq
  obtain ⟨n0, ns', rfl⟩ : ∃ n0 ns', ns = n0 :: ns' := by
   rcases ns with _ | ⟨a, b⟩
   ·exact absurd rfl hne
   ·exact ⟨a, b, rfl⟩
  clear hne
  obtain ⟨gb, go, rfl, rt4⟩ := rn4.tail3
  have hnv2 := hide (fun u (hu : u ∈ ns') => hnv1.out u (List.mem_cons_of_mem _ hu))
  rw [List.length_cons] at hcap hnl
  have hq1 : (0 : Int) < ((ns'.length + 1 : Nat) : Int) := by omega
  rw [List.length_cons]
  go_wp2_with fail
  ·have hn0 : ns' = [] := List.eq_nil_of_length_eq_zero (by omega)
   subst hn0
   have rt5 : RdP (fun b => w2.heap.size ≤ b) w4 (some ⟨gb, go, none⟩) 0 [] := RdP.nil
   have za : w2.heap.size ≠ r := by omega
   have zb : w2.heap.size ≠ w.heap.size := by omega
   have zz : w.heap.size ≠ r := by omega
   have t0 : ∀ w', K2 w4 r w.heap.size w' → w'.cell? ⟨w2.heap.size, 0, none⟩ = some (.int .i64 k) := fun w' h => h.cell hX4.three.1 za zb
   have t1 : ∀ w', K2 w4 r w.heap.size w' → w'.cell? ⟨w2.heap.size, 1, none⟩ = some (.int .i64 n) := fun w' h => h.cell hX4.three.2.1 za zb
   have t2 : ∀ w', K2 w4 r w.heap.size w' → w'.cell? ⟨w2.heap.size, 2, none⟩ = some (.slice A2 ks.length c2) := fun w' h => h.cell hX4.three.2.2 za zb
   obtain ⟨q0, hq0⟩ : ∃ q0, q0 = w4.drew := ⟨_, rfl⟩
   have bq0 : w4.grownBy q0 (some r) := by rw [hq0]; exact only_drew (World.grownBy.refl _ _)
   have hRq0 : Rdr w1.heap.size q0 r (p2 + 1) := by rw [hq0]; exact hR4.drew
   refine gC_start (K2 w4 r w.heap.size) [7] 8 (by kernel_rfl) rfl ?_
   refine gC_take [0, 1, 2, 3] (f := 4) (l' := #[true, true, true, true, false, false, false, false]) (lT := [_, _, _, _]) (by rw [← hq0]; exact K2.of bq0) rfl (by kernel_rfl) (by kernel_rfl) (by kernel_rfl) rfl (fun _ _ d _ _ h => by cases d <;> exact h) ?_
   repeat ((first | ((refine takeY_skip (a' := ?_) ?_ ?_ ?_); (rotate_left); (· (simp [Region.wanted, yielded]; done))) | ((refine takeY_step (v := ?_) (a' := ?_) ?_ ?_ ?_ ?_); (rotate_left 2); (· (simp [Region.wanted, yielded]; done)); (· (intro w' hS'; go_simp; try (with_reducible rfl))))); (· (simp only [List.getElem_toArray, List.getElem_cons_zero, List.getElem_cons_succ, Act.put, List.setIfInBounds_toArray, List.set_cons_zero, List.set_cons_succ]; exact rfl)))
   refine takeY_nil ?_
   rw [← hq0]
   clear hq0 t0 t1 t2
   have s4q := bq0.size
   have raq : RdP (fun b => w1.heap.size ≤ b) q0 A2 0 ks := ra4.grown bq0 (fun b hb e => by injection e; omega)
   refine gC_one (i := 4) (by kernel_rfl) rfl ?_
   go_wp2_with (go_at_call 13; refine (path_any w1.heap.size r (p2 + 1) k n ks A2 c2 _ (by omega) (by omega) hRq0 hv2'.out raq.rd).mono ?_; rintro e q1 ⟨P, xs, cp, p5, rfl, hcp, hxl, hpi, hpw0, hp5, hR5, hg5⟩)
   have bq1 := grown_trans bq0 hg5
   refine mid_intro (K2.of bq1) ?_
   have hZ5 := hZ4.grown bq1 (by intro e; injection e; omega)
   have g5 := grown_trans g4 bq1
   have hpb : ∀ a, P = some a → a.block ≠ w.heap.size := fun a ha => by have := hpw0 a ha; omega
   have rdq := rt5.grown bq1 (fun b hb e => by injection e; omega)
   have raq5 := ra4.grown bq1 (fun b hb e => by injection e; omega)
   have s5 := bq1.size
   refine gC_one (i := 5) (by kernel_rfl) rfl ?_
   obtain ⟨d0, d1, d2⟩ := hZ5.three
   have e0 := hZ5.frozen 0
   have e1 := hZ5.frozen 1
   have e2 := hZ5.frozen 2
   go_wp2_with fail
   refine name_midw ?_
   intro q2 hn
   have hZ6 : Blk q2 w.heap.size #[.int .i64 k, .int .i64 n, .slice A2 ks.length c2] := by rw [hn]; exact ((hZ5.set_ 0 _).set_ 1 _).set_ 2 _
   have k6 : K2 w4 r w.heap.size q2 := by rw [hn]; exact (((K2.of bq1).set _ _).set _ _).set _ _
   have i6 : RdI q2 P xs := by rw [hn]; exact ((hpi.set3 hpb _ _).set3 hpb _ _).set3 hpb _ _
   have ra6 : Rd q2 A2 0 ks := by rw [hn]; exact (((raq5.setCell (by simp; omega) _).setCell (by simp; omega) _).setCell (by simp; omega) _).rd
   have rn6 : Rd q2 (some ⟨gb, go, none⟩) 0 ([] : List Tm) := by rw [hn]; exact (((rdq.setCell (by simp; omega) _).setCell (by simp; omega) _).setCell (by simp; omega) _).rd
   have b6 : Below w.heap.size w q2 := by rw [hn]; exact (((below_grownD g1 g5 (Nat.le_of_lt hrw)).setCell (by simp) _).setCell (by simp) _).setCell (by simp) _
   clear hn d0 d1 d2 e0 e1 e2
   refine mid_intro k6 ?_
   refine gC_one (i := 6) (by kernel_rfl) rfl ?_
   go_wp2_with fail
   refine mid_intro k6 ?_
   refine gC_end [7] (lB := [_]) (by simp) (by kernel_rfl) (by kernel_rfl) rfl ?_
   obtain ⟨d0, d1, d2⟩ := hZ6.three
   go_wp2_with fail
   refine bodyPost_ret (v := .tuple #[.agg #[.int .i64 k, .int .i64 n, .slice A2 ks.length c2], .slice (some ⟨gb, go, none⟩) (([] : List Tm)).length 0, .slice P xs.length cp]) (by simp [results, Try.results4, go_sem, d0, d1, d2]) rfl ?_
   exact ⟨k, n, ks, A2, c2, ([] : List Tm), (some ⟨gb, go, none⟩), 0, xs, P, cp, rfl, hv2'.out, hnv2, (by omega), hxl, i6, ra6, rn6, b6⟩
  ·have za : w2.heap.size ≠ r := by omega
   have zb : w2.heap.size ≠ w.heap.size := by omega
   have zz : w.heap.size ≠ r := by omega
   have t0 : ∀ w', K2 w4 r w.heap.size w' → w'.cell? ⟨w2.heap.size, 0, none⟩ = some (.int .i64 k) := fun w' h => h.cell hX4.three.1 za zb
   have t1 : ∀ w', K2 w4 r w.heap.size w' → w'.cell? ⟨w2.heap.size, 1, none⟩ = some (.int .i64 n) := fun w' h => h.cell hX4.three.2.1 za zb
   have t2 : ∀ w', K2 w4 r w.heap.size w' → w'.cell? ⟨w2.heap.size, 2, none⟩ = some (.slice A2 ks.length c2) := fun w' h => h.cell hX4.three.2.2 za zb
   obtain ⟨q0, hq0⟩ : ∃ q0, q0 = w4.drew := ⟨_, rfl⟩
   have bq0 : w4.grownBy q0 (some r) := by rw [hq0]; exact only_drew (World.grownBy.refl _ _)
   have hRq0 : Rdr w1.heap.size q0 r (p2 + 1) := by rw [hq0]; exact hR4.drew
   refine gC_start (K2 w4 r w.heap.size) [7] 8 (by kernel_rfl) rfl ?_
   refine gC_take [0, 1, 2, 3] (f := 4) (l' := #[true, true, true, true, false, false, false, false]) (lT := [_, _, _, _]) (by rw [← hq0]; exact K2.of bq0) rfl (by kernel_rfl) (by kernel_rfl) (by kernel_rfl) rfl (fun _ _ d _ _ h => by cases d <;> exact h) ?_
   repeat ((first | ((refine takeY_skip (a' := ?_) ?_ ?_ ?_); (rotate_left); (· (simp [Region.wanted, yielded]; done))) | ((refine takeY_step (v := ?_) (a' := ?_) ?_ ?_ ?_ ?_); (rotate_left 2); (· (simp [Region.wanted, yielded]; done)); (· (intro w' hS'; go_simp; try (with_reducible rfl))))); (· (simp only [List.getElem_toArray, List.getElem_cons_zero, List.getElem_cons_succ, Act.put, List.setIfInBounds_toArray, List.set_cons_zero, List.set_cons_succ]; exact rfl)))
   refine takeY_nil ?_
   rw [← hq0]
   clear hq0 t0 t1 t2
   have s4q := bq0.size
   have raq : RdP (fun b => w1.heap.size ≤ b) q0 A2 0 ks := ra4.grown bq0 (fun b hb e => by injection e; omega)
   refine gC_one (i := 4) (by kernel_rfl) rfl ?_
   go_wp2_with (go_at_call 13; refine (path_any w1.heap.size r (p2 + 1) k n ks A2 c2 _ (by omega) (by omega) hRq0 hv2'.out raq.rd).mono ?_; rintro e q1 ⟨P, xs, cp, p5, rfl, hcp, hxl, hpi, hpw0, hp5, hR5, hg5⟩)
   have bq1 := grown_trans bq0 hg5
   refine mid_intro (K2.of bq1) ?_
   have hZ5 := hZ4.grown bq1 (by intro e; injection e; omega)
   have g5 := grown_trans g4 bq1
   have hpb : ∀ a, P = some a → a.block ≠ w.heap.size := fun a ha => by have := hpw0 a ha; omega
   have rdq := rt4.grown bq1 (fun b hb e => by injection e; omega)
   have raq5 := ra4.grown bq1 (fun b hb e => by injection e; omega)
   have s5 := bq1.size
   refine gC_one (i := 5) (by kernel_rfl) rfl ?_
   obtain ⟨d0, d1, d2⟩ := hZ5.three
   have e0 := hZ5.frozen 0
   have e1 := hZ5.frozen 1
   have e2 := hZ5.frozen 2
   go_wp2_with fail
   refine name_midw ?_
   intro q2 hn
   have hZ6 : Blk q2 w.heap.size #[.int .i64 k, .int .i64 n, .slice A2 ks.length c2] := by rw [hn]; exact ((hZ5.set_ 0 _).set_ 1 _).set_ 2 _
   have k6 : K2 w4 r w.heap.size q2 := by rw [hn]; exact (((K2.of bq1).set _ _).set _ _).set _ _
   have i6 : RdI q2 P xs := by rw [hn]; exact ((hpi.set3 hpb _ _).set3 hpb _ _).set3 hpb _ _
   have ra6 : Rd q2 A2 0 ks := by rw [hn]; exact (((raq5.setCell (by simp; omega) _).setCell (by simp; omega) _).setCell (by simp; omega) _).rd
   have rn6 : Rd q2 (some ⟨gb, go + 3, none⟩) 0 ns' := by rw [hn]; exact (((rdq.setCell (by simp; omega) _).setCell (by simp; omega) _).setCell (by simp; omega) _).rd
   have b6 : Below w.heap.size w q2 := by rw [hn]; exact (((below_grownD g1 g5 (Nat.le_of_lt hrw)).setCell (by simp) _).setCell (by simp) _).setCell (by simp) _
   clear hn d0 d1 d2 e0 e1 e2
   refine mid_intro k6 ?_
   refine gC_one (i := 6) (by kernel_rfl) rfl ?_
   go_wp2_with fail
   refine mid_intro k6 ?_
   refine gC_end [7] (lB := [_]) (by simp) (by kernel_rfl) (by kernel_rfl) rfl ?_
   obtain ⟨d0, d1, d2⟩ := hZ6.three
   go_wp2_with fail
   refine bodyPost_ret (v := .tuple #[.agg #[.int .i64 k, .int .i64 n, .slice A2 ks.length c2], .slice (some ⟨gb, go + 3, none⟩) (ns').length (c3 - 1), .slice P xs.length cp]) (by simp [results, Try.results4, go_sem, d0, d1, d2]) rfl ?_
   exact ⟨k, n, ks, A2, c2, ns', (some ⟨gb, go + 3, none⟩), (c3 - 1), xs, P, cp, rfl, hv2'.out, hnv2, (by omega), hxl, i6, ra6, rn6, b6⟩
 ·have hq1 : ((m : Int) == 0 && decide ((0 : Int) < (ns.length : Int))) = false := by
   rcases Nat.eq_zero_or_pos m with h | h
   ·rcases ns with _ | ⟨a, b⟩
    ·simp
    ·exact absurd ⟨h, by simp⟩ hq
   ·simp; omega
  by_cases hm0 : m = 0
  ·subst hm0
   have hn0 : ns = [] := Classical.byContradiction fun h => hq ⟨rfl, h⟩
   subst hn0
   clear hq hq1
   go_wp2_with fail
   have za : w2.heap.size ≠ r := by omega
   have zb : w2.heap.size ≠ w.heap.size := by omega
   have zz : w.heap.size ≠ r := by omega
   have t0 : ∀ w', K2 w4 r w.heap.size w' → w'.cell? ⟨w2.heap.size, 0, none⟩ = some (.int .i64 k) := fun w' h => h.cell hX4.three.1 za zb
   have t1 : ∀ w', K2 w4 r w.heap.size w' → w'.cell? ⟨w2.heap.size, 1, none⟩ = some (.int .i64 n) := fun w' h => h.cell hX4.three.2.1 za zb
   have t2 : ∀ w', K2 w4 r w.heap.size w' → w'.cell? ⟨w2.heap.size, 2, none⟩ = some (.slice A2 ks.length c2) := fun w' h => h.cell hX4.three.2.2 za zb
   obtain ⟨q0, hq0⟩ : ∃ q0, q0 = w4.drew := ⟨_, rfl⟩
   have bq0 : w4.grownBy q0 (some r) := by rw [hq0]; exact only_drew (World.grownBy.refl _ _)
   have hRq0 : Rdr w1.heap.size q0 r (p2 + 1) := by rw [hq0]; exact hR4.drew
   refine gC_start (K2 w4 r w.heap.size) [7] 8 (by kernel_rfl) rfl ?_
   refine gC_take [0, 1, 2, 3] (f := 4) (l' := #[true, true, true, true, false, false, false, false]) (lT := [_, _, _, _]) (by rw [← hq0]; exact K2.of bq0) rfl (by kernel_rfl) (by kernel_rfl) (by kernel_rfl) rfl (fun _ _ d _ _ h => by cases d <;> exact h) ?_
   repeat ((first | ((refine takeY_skip (a' := ?_) ?_ ?_ ?_); (rotate_left); (· (simp [Region.wanted, yielded]; done))) | ((refine takeY_step (v := ?_) (a' := ?_) ?_ ?_ ?_ ?_); (rotate_left 2); (· (simp [Region.wanted, yielded]; done)); (· (intro w' hS'; go_simp; try (with_reducible rfl))))); (· (simp only [List.getElem_toArray, List.getElem_cons_zero, List.getElem_cons_succ, Act.put, List.setIfInBounds_toArray, List.set_cons_zero, List.set_cons_succ]; exact rfl)))
   refine takeY_nil ?_
   rw [← hq0]
   clear hq0 t0 t1 t2
   have s4q := bq0.size
   have raq : RdP (fun b => w1.heap.size ≤ b) q0 A2 0 ks := ra4.grown bq0 (fun b hb e => by injection e; omega)
   refine gC_one (i := 4) (by kernel_rfl) rfl ?_
   go_wp2_with (go_at_call 13; refine (path_any w1.heap.size r (p2 + 1) k n ks A2 c2 _ (by omega) (by omega) hRq0 hv2'.out raq.rd).mono ?_; rintro e q1 ⟨P, xs, cp, p5, rfl, hcp, hxl, hpi, hpw0, hp5, hR5, hg5⟩)
   have bq1 := grown_trans bq0 hg5
   refine mid_intro (K2.of bq1) ?_
   have hZ5 := hZ4.grown bq1 (by intro e; injection e; omega)
   have g5 := grown_trans g4 bq1
   have hpb : ∀ a, P = some a → a.block ≠ w.heap.size := fun a ha => by have := hpw0 a ha; omega
   have rdq := rn4.grown bq1 (fun b hb e => by injection e; omega)
   have raq5 := ra4.grown bq1 (fun b hb e => by injection e; omega)
   have s5 := bq1.size
   refine gC_one (i := 5) (by kernel_rfl) rfl ?_
   obtain ⟨d0, d1, d2⟩ := hZ5.three
   have e0 := hZ5.frozen 0
   have e1 := hZ5.frozen 1
   have e2 := hZ5.frozen 2
   go_wp2_with fail
   refine name_midw ?_
   intro q2 hn
   have hZ6 : Blk q2 w.heap.size #[.int .i64 k, .int .i64 n, .slice A2 ks.length c2] := by rw [hn]; exact ((hZ5.set_ 0 _).set_ 1 _).set_ 2 _
   have k6 : K2 w4 r w.heap.size q2 := by rw [hn]; exact (((K2.of bq1).set _ _).set _ _).set _ _
   have i6 : RdI q2 P xs := by rw [hn]; exact ((hpi.set3 hpb _ _).set3 hpb _ _).set3 hpb _ _
   have ra6 : Rd q2 A2 0 ks := by rw [hn]; exact (((raq5.setCell (by simp; omega) _).setCell (by simp; omega) _).setCell (by simp; omega) _).rd
   have rn6 : Rd q2 A3 0 ([] : List Tm) := by rw [hn]; exact (((rdq.setCell (by simp; omega) _).setCell (by simp; omega) _).setCell (by simp; omega) _).rd
   have b6 : Below w.heap.size w q2 := by rw [hn]; exact (((below_grownD g1 g5 (Nat.le_of_lt hrw)).setCell (by simp) _).setCell (by simp) _).setCell (by simp) _
   clear hn d0 d1 d2 e0 e1 e2
   refine mid_intro k6 ?_
   refine gC_one (i := 6) (by kernel_rfl) rfl ?_
   go_wp2_with fail
   refine mid_intro k6 ?_
   refine gC_end [7] (lB := [_]) (by simp) (by kernel_rfl) (by kernel_rfl) rfl ?_
   obtain ⟨d0, d1, d2⟩ := hZ6.three
   go_wp2_with fail
   refine bodyPost_ret (v := .tuple #[.agg #[.int .i64 k, .int .i64 n, .slice A2 ks.length c2], .slice A3 (([] : List Tm)).length c3, .slice P xs.length cp]) (by simp [results, Try.results4, go_sem, d0, d1, d2]) rfl ?_
   exact ⟨k, n, ks, A2, c2, ([] : List Tm), A3, c3, xs, P, cp, rfl, hv2'.out, hnv1, (by simp), hxl, i6, ra6, rn6, b6⟩
  ·have hm1 : ((m : Int) == 0) = false := by simpa using hm0
   clear hq hq1
   go_wp2_with fail
   have za : w2.heap.size ≠ r := by omega
   have zb : w2.heap.size ≠ w.heap.size := by omega
   have zz : w.heap.size ≠ r := by omega
   have t0 : ∀ w', K2 w4 r w.heap.size w' → w'.cell? ⟨w2.heap.size, 0, none⟩ = some (.int .i64 k) := fun w' h => h.cell hX4.three.1 za zb
   have t1 : ∀ w', K2 w4 r w.heap.size w' → w'.cell? ⟨w2.heap.size, 1, none⟩ = some (.int .i64 n) := fun w' h => h.cell hX4.three.2.1 za zb
   have t2 : ∀ w', K2 w4 r w.heap.size w' → w'.cell? ⟨w2.heap.size, 2, none⟩ = some (.slice A2 ks.length c2) := fun w' h => h.cell hX4.three.2.2 za zb
   obtain ⟨q0, hq0⟩ : ∃ q0, q0 = w4.drew := ⟨_, rfl⟩
   have bq0 : w4.grownBy q0 (some r) := by rw [hq0]; exact only_drew (World.grownBy.refl _ _)
   have hRq0 : Rdr w1.heap.size q0 r (p2 + 1) := by rw [hq0]; exact hR4.drew
   refine gC_start (K2 w4 r w.heap.size) [7] 8 (by kernel_rfl) rfl ?_
   refine gC_take [0, 1, 2, 3] (f := 4) (l' := #[true, true, true, true, false, false, false, false]) (lT := [_, _, _, _]) (by rw [← hq0]; exact K2.of bq0) rfl (by kernel_rfl) (by kernel_rfl) (by kernel_rfl) rfl (fun _ _ d _ _ h => by cases d <;> exact h) ?_
   repeat ((first | ((refine takeY_skip (a' := ?_) ?_ ?_ ?_); (rotate_left); (· (simp [Region.wanted, yielded]; done))) | ((refine takeY_step (v := ?_) (a' := ?_) ?_ ?_ ?_ ?_); (rotate_left 2); (· (simp [Region.wanted, yielded]; done)); (· (intro w' hS'; go_simp; try (with_reducible rfl))))); (· (simp only [List.getElem_toArray, List.getElem_cons_zero, List.getElem_cons_succ, Act.put, List.setIfInBounds_toArray, List.set_cons_zero, List.set_cons_succ]; exact rfl)))
   refine takeY_nil ?_
   rw [← hq0]
   clear hq0 t0 t1 t2
   have s4q := bq0.size
   have raq : RdP (fun b => w1.heap.size ≤ b) q0 A2 0 ks := ra4.grown bq0 (fun b hb e => by injection e; omega)
   refine gC_one (i := 4) (by kernel_rfl) rfl ?_
   go_wp2_with (go_at_call 13; refine (path_any w1.heap.size r (p2 + 1) k n ks A2 c2 _ (by omega) (by omega) hRq0 hv2'.out raq.rd).mono ?_; rintro e q1 ⟨P, xs, cp, p5, rfl, hcp, hxl, hpi, hpw0, hp5, hR5, hg5⟩)
   have bq1 := grown_trans bq0 hg5
   refine mid_intro (K2.of bq1) ?_
   have hZ5 := hZ4.grown bq1 (by intro e; injection e; omega)
   have g5 := grown_trans g4 bq1
   have hpb : ∀ a, P = some a → a.block ≠ w.heap.size := fun a ha => by have := hpw0 a ha; omega
   have rdq := rn4.grown bq1 (fun b hb e => by injection e; omega)
   have raq5 := ra4.grown bq1 (fun b hb e => by injection e; omega)
   have s5 := bq1.size
   refine gC_one (i := 5) (by kernel_rfl) rfl ?_
   obtain ⟨d0, d1, d2⟩ := hZ5.three
   have e0 := hZ5.frozen 0
   have e1 := hZ5.frozen 1
   have e2 := hZ5.frozen 2
   go_wp2_with fail
   refine name_midw ?_
   intro q2 hn
   have hZ6 : Blk q2 w.heap.size #[.int .i64 k, .int .i64 n, .slice A2 ks.length c2] := by rw [hn]; exact ((hZ5.set_ 0 _).set_ 1 _).set_ 2 _
   have k6 : K2 w4 r w.heap.size q2 := by rw [hn]; exact (((K2.of bq1).set _ _).set _ _).set _ _
   have i6 : RdI q2 P xs := by rw [hn]; exact ((hpi.set3 hpb _ _).set3 hpb _ _).set3 hpb _ _
   have ra6 : Rd q2 A2 0 ks := by rw [hn]; exact (((raq5.setCell (by simp; omega) _).setCell (by simp; omega) _).setCell (by simp; omega) _).rd
   have rn6 : Rd q2 A3 0 ns := by rw [hn]; exact (((rdq.setCell (by simp; omega) _).setCell (by simp; omega) _).setCell (by simp; omega) _).rd
   have b6 : Below w.heap.size w q2 := by rw [hn]; exact (((below_grownD g1 g5 (Nat.le_of_lt hrw)).setCell (by simp) _).setCell (by simp) _).setCell (by simp) _
   clear hn d0 d1 d2 e0 e1 e2
   refine mid_intro k6 ?_
   refine gC_one (i := 6) (by kernel_rfl) rfl ?_
   go_wp2_with fail
   refine mid_intro k6 ?_
   refine gC_end [7] (lB := [_]) (by simp) (by kernel_rfl) (by kernel_rfl) rfl ?_
   obtain ⟨d0, d1, d2⟩ := hZ6.three
   go_wp2_with fail
   refine bodyPost_ret (v := .tuple #[.agg #[.int .i64 k, .int .i64 n, .slice A2 ks.length c2], .slice A3 (ns).length c3, .slice P xs.length cp]) (by simp [results, Try.results4, go_sem, d0, d1, d2]) rfl ?_
   exact ⟨k, n, ks, A2, c2, ns, A3, c3, xs, P, cp, rfl, hv2'.out, hnv1, (by omega), hxl, i6, ra6, rn6, b6⟩
open Go.RowKit
def GotIK (w : World) (xs : List Int) (e : Ending) (w' : World) : Prop := ∃ v, e = .returned v ∧ RowI w.heap.size w' v xs ∧ Below w.heap.size w w'
theorem RowI.empty_ {w : World} : RowI w.heap.size (w.alloc (.cells #[] 3)) (.slice (some ⟨w.heap.size, 0, none⟩) 0 0) [] :=
 ⟨by simp, .inr ⟨_, 0, #[], rfl, Nat.le_refl _, heap_alloc_new w _, Nat.le_refl _, by simp [maxLen], by simp, by simp⟩⟩
set_option maxHeartbeats 1000000 in
set_option maxRecDepth 100000 in
theorem iCloneI_any (xs : List Int) (A : Option Addr) (c : Nat) (w : World) (hl : xs.length ≤ 1000000000) (hi : RdI w A xs) :
  Calls Try.prog 57 #[.slice A xs.length c] w (GotIK w xs) := by
 cases A with
 | none =>
  have hk : xs = [] := by
   cases xs with
   | nil => rfl
   | cons t ts => obtain ⟨b, off, h, _⟩ := hi 0 (by simp); cases h
  subst hk
  have hq : ∀ w', (binOp .eql 26 (.slice none 0 c) (.slice none 0 0)).run Try.prog w' = .ok (.bool true) w' := fun w' => by rw [Go.Lib.run_eql_slice_nil (t := 26) (h := Try.underlying26)]; rfl
  go_enter Try.func57, Try.ntmps57
  go_wp2_with fail
  go_ret
  exact ⟨_, rfl, World.ownsRow_nil _ _ _ _, Below.refl _ _⟩
 | some a =>
  have hq : ∀ w', (binOp .eql 26 (.slice (some a) xs.length c) (.slice none 0 0)).run Try.prog w' = .ok (.bool false) w' := fun w' => by rw [Go.Lib.run_eql_slice_nil (t := 26) (h := Try.underlying26)]; rfl
  have hc : ∀ j (hj : j < xs.length), (w.alloc (.cells #[] 3)).cell? (a.add j) = some (.int .i64 xs[j]) := fun j hj => by
   obtain ⟨b, off, hA, h⟩ := hi.alloc (.cells #[] 3) j hj
   injection hA with hA
   subst hA
   rw [show Addr.add ⟨b, off, none⟩ j = ⟨b, off + j, none⟩ from by simp only [Addr.add]; split <;> simp_all]
   exact h
  go_enter Try.func57, Try.ntmps57
  go_wp2_with (at_builtin; refine wpList_append_ints (B := w.heap.size) (xs := []) (ys := xs) (ad := a) (c := c) RowI.empty_ (by simp) (by simp; omega) hc rfl _ _ rfl rfl rfl ?_; intro v2 w2 hp2 hb2 hg2)
  go_ret
  exact ⟨_, rfl, by simpa using hp2, ((Below.refl _ _).alloc (Nat.le_refl _) _).trans hb2⟩
end Go.Proofs.Ytddkehjdjfmhmaa
