/-
  Texts that are common to the laws: DCmp. No condition.
-/
import Derived.Test.YtodkenpmhhbppaaK13
import Derived.Test.YtodkenpmhhbppaaK19
import Derived.Test.YtodkenpmhhbppaaK33
import Derived.Test.YtodkenpmhhbppaaK34

namespace Go.Proofs.Ytodkenpmhhbppaa
open Go.RowKit
set_option linter.unusedSimpArgs false
set_option linter.unusedVariables false

/-- two terms -/
def DrawnPair (w : World) (e : Ending) (w' : World) : Prop :=
  ∃ (k n : Int) (ks : List Tm) (A : Option Addr) (c : Nat) (ku nu : Int) (us : List Tm) (U : Option Addr) (cu : Nat), e = .returned (.tuple #[.agg #[.int .i64 k, .int .i64 n, .slice A ks.length c], .agg #[.int .i64 ku, .int .i64 nu, .slice U us.length cu]]) ∧
    ks.length ≤ 9223372036854775807 ∧ us.length ≤ 9223372036854775807 ∧ sizes ks ≤ 5000 ∧ sizes us ≤ 5000 ∧ Rd w' A 0 ks ∧ Rd w' U 0 us ∧ Below w.heap.size w w'
theorem grown_cell {r b o : Nat} {w w' : World} {x : Value} (hx : w.cell? ⟨b, o, none⟩ = some x) (hb : b ≠ r) (h : w.grownBy w' (some r)) : w'.cell? ⟨b, o, none⟩ = some x :=
  (World.cell?_of_block (w := w) (a := ⟨b, o, none⟩) (h.block b (World.block_lt_of_cell? w _ hx) (fun e => hb (by injection e)))).trans hx
set_option maxHeartbeats 16000000 in
set_option maxRecDepth 100000 in
theorem drawCmp_any (bs : List Int) (A : Option Addr) (c : Nat) (w : World) (hl : bs.length ≤ 9223372036854775807) (hc : bs.length ≤ c) (hr : RdY w A bs) : Calls Try.prog 39 #[.slice A bs.length c] w (DrawnPair w) := by
  go_enter Try.func39, Try.ntmps39
  go_upto_if 18 with (first
    | (go_at_call 52; have _t := tok3; refine (pick_any w1.heap.size r p3 2 _ (by omega) (by omega) (by simp; omega) (hr3.alloc (by omega) _)).mono ?_; rintro e w4 ⟨m, rfl, hm, hm0, hr4, hg4⟩; have hXa := (hXa3.alloc (.cells #[.int .i64 kb, .int .i64 nb, .slice A3 kbs.length c3] 25)).grown hg4 (by simp; omega); have hXb := (Blk.new_ w3 25 #[.int .i64 kb, .int .i64 nb, .slice A3 kbs.length c3] rfl).grown hg4 (by simp; omega); have g4 := grown_trans (only_alloc g3 (.cells #[.int .i64 kb, .int .i64 nb, .slice A3 kbs.length c3] 25)) hg4; have ra4 := (ra3.alloc (.cells #[.int .i64 kb, .int .i64 nb, .slice A3 kbs.length c3] 25)).grown hg4 (fun b hb e => by injection e; omega); have rb4 := ((Fresh.rdp hf3).alloc (.cells #[.int .i64 kb, .int .i64 nb, .slice A3 kbs.length c3] 25)).grown hg4 (fun b hb e => by have := hb.1; injection e with e; simp at this; omega); have s4 := hg4.size; have s4' : w3.heap.size + 1 ≤ w4.heap.size := (by simpa using s4))
    | (go_at_call 78; have _t := tok2; refine (l3drawV_any w1.heap.size r p2 _ (by omega) (by simp; omega) (hr2.alloc (by omega) _)).mono ?_; rintro e w3 ⟨kb, nb, kbs, A3, c3, p3, rfl, hl3, hv3, hp3, hf3, hr3, hg3⟩; have hXa3 := (Blk.new_ w2 25 #[.int .i64 k, .int .i64 n, .slice A2 ks.length c2] rfl).grown hg3 (by simp; omega); have ra3 := ((Fresh.rdp hf2).alloc (.cells #[.int .i64 k, .int .i64 n, .slice A2 ks.length c2] 25)).grown hg3 (fun b hb e => by have := hb.1; injection e with e; omega); have g3 := grown_trans (only_alloc hg2 (.cells #[.int .i64 k, .int .i64 n, .slice A2 ks.length c2] 25)) hg3; have s3 := hg3.size; have s3' : w2.heap.size + 1 ≤ w3.heap.size := (by simpa using s3); have hv3' := hide hv3; clear hv3; have tok3 := trivial)
    | (go_at_call 78; have _t := tok1; refine (l3drawV_any w1.heap.size r 0 _ (by omega) (Nat.le_refl _) hr1).mono ?_; rintro e w2 ⟨k, n, ks, A2, c2, p2, rfl, hl2, hv2, hp2, hf2, hr2, hg2⟩; have s2 := hg2.size; have hv2' := hide hv2; clear hv2; have tok2 := trivial)
    | (go_at_call 50; refine (open_any bs A c _ hl hc ((hr.keeps (.alloc _ _)).keeps (.alloc _ _))).mono ?_; rintro e w1 ⟨r, rfl, hr0, hrlt, hr1, hb1⟩; have hZ1 := ((Blk.new_ w 25 #[.int .i64 0, .int .i64 0, .slice none 0 0] rfl).alloc (.cells #[.int .i64 0, .int .i64 0, .slice none 0 0] 25)).keep hb1; have hY1 : Blk w1 (w.heap.size + 1) #[.int .i64 0, .int .i64 0, .slice none 0 0] := (Blk.new_ (w.alloc (.cells #[.int .i64 0, .int .i64 0, .slice none 0 0] 25)) 25 #[.int .i64 0, .int .i64 0, .slice none 0 0] (by simp)).keep hb1; have hrw : w.heap.size + 2 ≤ r := (by simpa using hr0); have b1 : Below w.heap.size w w1 := (by_alloc (by_alloc (by_refl _) _) _).trans (hb1.mono (by simp; omega)); have tok1 := trivial))
  have hza := validT_size' hv2'.out
  have hzb := validT_size' hv3'.out
  go_cut [] (fun wx => w1.grownBy wx (some r) ∧ Blk wx w2.heap.size #[.int .i64 k, .int .i64 n, .slice A2 ks.length c2] ∧ RdP (fun b => w1.heap.size ≤ b ∧ b < w2.heap.size) wx A2 0 ks ∧ ∃ (kx nx : Int) (xs : List Tm) (Ax : Option Addr) (cx p5 : Nat), Blk wx w3.heap.size #[.int .i64 kx, .int .i64 nx, .slice Ax xs.length cx] ∧ xs.length ≤ 9223372036854775807 ∧ sizes xs ≤ 2000 ∧ RdP (fun b => w2.heap.size + 1 ≤ b ∧ b ≠ w3.heap.size) wx Ax 0 xs ∧ p5 ≤ 4000 ∧ Rdr w1.heap.size wx r p5)
  case first =>
    by_cases hm0' : m = 0
    · subst hm0'
      have q0 := trivial
      obtain ⟨x0, x1, x2⟩ := hXa.three
      go_upto_region 6 with (go_at_call 79; refine (placesOf_any k n ks A2 c2 _ hv2'.out ra4.rd).mono ?_; rintro e w5 ⟨g, c5, rfl, hgB, hgl, hb5, hrow⟩)
      obtain ⟨ps, hps⟩ : ∃ ps, plT allT [] (.mk k n ks) = ps := ⟨_, rfl⟩
      have hpl : ps.length = sizes ks + 1 := by rw [← hps, pl_length, Tm.size]
      have hpat : ∀ j (hj : j < ps.length), ∃ u0, atT (.mk k n ks) ps[j] = some u0 := fun j hj => by
        obtain ⟨q, u0, e, h⟩ := plT_at (u := fun _ => True) (.mk k n ks) [] ps[j] (by rw [hps]; exact List.getElem_mem hj)
        rw [List.nil_append] at e
        exact ⟨u0, e ▸ h⟩
      have hpln : ∀ j (hj : j < ps.length), ps[j].length ≤ 401 := fun j hj => by
        have := plT_len (.mk k n ks) [] ps[j] (by rw [hps]; exact List.getElem_mem hj)
        rw [Tm.size] at this
        simp at this
        omega
      rw [hps] at hrow
      rw [hps]
      have hpat' := hide hpat
      have hpln' := hide hpln
      have hrow' := hide hrow
      have hXa5 := hXa.keep hb5
      have hXb5 := hXb.keep hb5
      have ra5 := ra4.below hb5
      have rb5 := rb4.below hb5
      have hr5 := hr4.below hb5 (by omega)
      have s5 := hb5.size
      have g5 := only_below g4 hb5
      have hpl2 : ps.length ≤ 401 := by omega
      have hpl1 : 1 ≤ ps.length := by omega
      clear hps hpat hpln hrow hpl x0 x1 x2 q0
      have za : w2.heap.size ≠ r := by omega
      have t0 : ∀ w', w5.grownBy w' (some r) → w'.cell? ⟨w2.heap.size, 0, none⟩ = some (.int .i64 k) := fun w' h => grown_cell hXa5.three.1 za h
      have t1 : ∀ w', w5.grownBy w' (some r) → w'.cell? ⟨w2.heap.size, 1, none⟩ = some (.int .i64 n) := fun w' h => grown_cell hXa5.three.2.1 za h
      have t2 : ∀ w', w5.grownBy w' (some r) → w'.cell? ⟨w2.heap.size, 2, none⟩ = some (.slice A2 ks.length c2) := fun w' h => grown_cell hXa5.three.2.2 za h
      obtain ⟨q0, hq0⟩ : ∃ q0, q0 = w5.drew := ⟨_, rfl⟩
      have bq0 : w5.grownBy q0 (some r) := by rw [hq0]; exact only_drew (World.grownBy.refl _ _)
      have hrq0 : Rdr w1.heap.size q0 r (p3 + 1) := by rw [hq0]; exact hr5.drew
      refine gC_start (fun w' => w5.grownBy w' (some r)) [11, 12, 13, 15, 16] 17 (by kernel_rfl) rfl ?_
      refine gC_take [0, 1, 2, 3, 4, 8] (f := 11) (l' := #[true, true, true, true, true, false, false, false, true, false, false, false, false, false, false, false, false]) (lT := [_, _, _, _, _, _]) (by rw [← hq0]; exact bq0) rfl (by kernel_rfl) (by kernel_rfl) (by kernel_rfl) rfl (fun _ _ d _ _ h => by cases d <;> exact h) ?_
      repeat (first | ((refine takeY_skip (a' := ?_) ?_ ?_ ?_); (rotate_left); (· (simp [Region.wanted, yielded]; done)); (· (simp only [List.getElem_toArray, List.getElem_cons_zero, List.getElem_cons_succ, Act.put, List.setIfInBounds_toArray, List.set_cons_zero, List.set_cons_succ]; exact rfl))) | ((refine takeY_step (v := ?_) (a' := ?_) ?_ ?_ ?_ ?_); (rotate_left 2); (· (simp [Region.wanted, yielded]; done)); (· (intro w' hS'; go_simp; try (with_reducible rfl))); (· (simp only [List.getElem_toArray, List.getElem_cons_zero, List.getElem_cons_succ, Act.put, List.setIfInBounds_toArray, List.set_cons_zero, List.set_cons_succ]; exact rfl))))
      refine takeY_nil ?_
      rw [← hq0]
      clear hq0 t0 t1 t2
      refine gC_two (i := 5) (j := 14) (by kernel_rfl) rfl rfl ?_ ?_
      · have sq0w := bq0.size
        go_wp2_with (go_at_call 52; refine (pick_any w1.heap.size r (p3 + 1) (ps.length : Int) _ (by omega) (by omega) (by omega) hrq0).mono ?_; rintro e q1 ⟨m5, rfl, hm5, -, hrq1, hgq1⟩)
        have bq1 := grown_trans bq0 hgq1
        have gsq1 := hgq1.size
        have hm5' : m5 < ps.length := by have := hm5 (by omega); omega
        clear hm5
        obtain ⟨P, cp, hcell, hpi, hpc, hpB⟩ := hrow'.out m5 hm5'
        have vq1 : ∀ w', w5.grownBy w' (some r) → w'.cell? ⟨g, m5, none⟩ = some (.slice P ps[m5].length cp) := fun w' h => grown_cell hcell (by omega) h
        have hlm : (m5 : Int) < (ps.length : Int) := by omega
        refine mid_intro bq1 ?_
        refine gC_take [6, 7] (f := 8) (l' := #[true, true, true, true, true, true, true, true, true, false, false, false, false, false, false, false, false]) (lT := [_, _]) bq1 rfl (by kernel_rfl) (by kernel_rfl) (by kernel_rfl) rfl (fun _ _ d _ _ h => by cases d <;> exact h) ?_
        repeat (first | ((refine takeY_skip (a' := ?_) ?_ ?_ ?_); (rotate_left); (· (simp [Region.wanted, yielded]; done)); (· (simp only [List.getElem_toArray, List.getElem_cons_zero, List.getElem_cons_succ, Act.put, List.setIfInBounds_toArray, List.set_cons_zero, List.set_cons_succ]; exact rfl))) | ((refine takeY_step (v := ?_) (a' := ?_) ?_ ?_ ?_ ?_); (rotate_left 2); (· (simp [Region.wanted, yielded]; done)); (· (intro w' hS'; go_simp; try (with_reducible rfl))); (· (simp only [List.getElem_toArray, List.getElem_cons_zero, List.getElem_cons_succ, Act.put, List.setIfInBounds_toArray, List.set_cons_zero, List.set_cons_succ]; exact rfl))))
        refine takeY_nil ?_
        refine gC_two (i := 9) (j := 14) (by kernel_rfl) rfl rfl ?_ ?_
        · have sq1w := bq1.size
          go_wp2_with (go_at_call 75; refine (draw_any 1 w1.heap.size r (p3 + 1 + 1) _ (by have := (kd4 (d := 1) (by omega)).1; omega) (by omega) hrq1).mono ?_; rintro e q2 ⟨kd, nd, kds, Ad, cd, pd, rfl, hld, hsd, hpd, hfd, hrq2, hgq2⟩)
          have bq2 := grown_trans bq1 hgq2
          have gsq2 := hgq2.size
          have rdq2 := Fresh.rdp hfd
          have hsd1 := (kd4 (d := 1) (by omega)).2
          have hpd1 := (kd4 (d := 1) (by omega)).1
          refine mid_intro bq2 ?_
          refine gC_two (i := 10) (j := 14) (by kernel_rfl) rfl rfl ?_ ?_
          · obtain ⟨u0, hu0⟩ := hpat'.out m5 hm5'
            have hlen5 := hpln'.out m5 hm5'
            have sq2w := bq2.size
            go_wp2_with (go_at_call 80; refine (putAt_any (fun b => q1.heap.size ≤ b ∧ b < q2.heap.size) k n ks A2 c2 ps[m5] P cp kd nd kds Ad cd q2 u0 hv2'.out hu0 (by omega) hpc (by omega) ((ra5.grown bq2 (fun b hb e => by have := hb.1; injection e; omega)).rd) (hpi.grown bq2 (fun a ha e => by have := hpB a ha; injection e; omega)) rdq2 (fun b hb => by have := hb.2; omega)).mono ?_; rintro e q3 ⟨kx, nx, xs, Ax, cx, bb, rfl, hlx, hsx, hrxq3, hbq3⟩)
            have bq3 := only_below bq2 hbq3
            have hrq3 := hrq2.below hbq3 (by omega)
            have lq3 := hbq3.size
            have rxq3 : RdP (fun b => (w2.heap.size + 1 ≤ b ∧ b ≠ w3.heap.size) ∧ b < q3.heap.size) q3 Ax 0 xs := (rdp_ltC.2 _ _ _ hrxq3).mono (fun b h => by rcases h with ⟨h | h, h2⟩ <;> (refine ⟨⟨by omega, by omega⟩, by omega⟩))
            refine mid_intro bq3 ?_
            refine gC_takeT [11, 12, 13] (f := 3) (l' := #[true, true, true, true, true, true, true, true, true, true, true, true, true, true, false, false, false]) (lT := [_, _, _]) rfl (by kernel_rfl) (by kernel_rfl) (by kernel_rfl) rfl (fun _ _ d _ _ h => by cases d <;> exact h) ?_
            repeat (first | ((refine takeY_skip (a' := ?_) ?_ ?_ ?_); (rotate_left); (· (simp [Region.wanted, yielded]; done)); (· (simp only [List.getElem_toArray, List.getElem_cons_zero, List.getElem_cons_succ, Act.put, List.setIfInBounds_toArray, List.set_cons_zero, List.set_cons_succ]; exact rfl))) | ((refine takeY_step (v := ?_) (a' := ?_) ?_ ?_ ?_ ?_); (rotate_left 2); (· (simp [Region.wanted, yielded]; done)); (· (intro w' hS'; go_simp; try (with_reducible rfl))); (· (simp only [List.getElem_toArray, List.getElem_cons_zero, List.getElem_cons_succ, Act.put, List.setIfInBounds_toArray, List.set_cons_zero, List.set_cons_succ]; exact rfl))))
            refine takeY_nil ?_
            refine gC_one (i := 14) (by kernel_rfl) rfl ?_
            · go_wp2_with fail
              refine name_midw ?_
              intro q4 hn
              have bq4 : w5.grownBy q4 (some r) := by rw [hn]; exact only_alloc bq3 _
              have zq4 : Blk q4 q3.heap.size #[.int .i64 0, .int .i64 0, .slice none 0 0] := by rw [hn]; exact Blk.new_ _ 25 _ rfl
              have hrq4 := hrq3.alloc (by have := bq3.size; omega) (.cells #[.int .i64 0, .int .i64 0, .slice none 0 0] 25)
              rw [← hn] at hrq4
              have szq4 := bq3.size
              have szlq4 := zq4.lt
              have rxq4 := rxq3.alloc (.cells #[.int .i64 0, .int .i64 0, .slice none 0 0] 25)
              rw [← hn] at rxq4
              clear hn
              refine mid_intro bq4 ?_
              refine gC_end [15, 16] (lB := [_, _]) (by simp) (by kernel_rfl) (by kernel_rfl) rfl ?_
              obtain ⟨d0, d1, d2⟩ := zq4.three
              have e0 := zq4.frozen 0
              have e1 := zq4.frozen 1
              have e2 := zq4.frozen 2
              have lz := zq4.lt
              have zb : w3.heap.size ≠ r := by omega
              have hXa6 := hXa5.grown bq4 (by simp; omega)
              have hXb6 := hXb5.grown bq4 (by simp; omega)
              have ra6 := ra5.grown bq4 (fun b hb e => by have := hb.1; injection e; omega)
              have rb6 := rb5.grown bq4 (fun b hb e => by have := hb.1; injection e with e; simp at this; omega)
              have g6 := grown_trans g5 bq4
              have hnz : w3.heap.size ≠ q3.heap.size := by omega
              have hnz2 : w2.heap.size ≠ q3.heap.size := by omega
              have hab : w2.heap.size ≠ w3.heap.size := by omega
              obtain ⟨x0, x1, x2⟩ := hXb6.three
              have i0 := hXb6.frozen 0
              have i1 := hXb6.frozen 1
              have i2 := hXb6.frozen 2
              have sw := bq4.size
              have hpdz : pd ≤ 4000 := by omega
              cases bb with
              | false =>
                go_wp2_with fail
                go_meet
                refine ⟨only_setCell (only_setCell (only_setCell g6 (.inr (by show w1.heap.size ≤ q3.heap.size; omega)) _) (.inr (by show w1.heap.size ≤ q3.heap.size; omega)) _) (.inr (by show w1.heap.size ≤ q3.heap.size; omega)) _, ((hXa6.far hnz2 _).far hnz2 _).far hnz2 _, (ra6.set3 (fun h => by have := h.2; omega) _ _ _), kb, nb, kbs, A3, c3, pd, ((hXb6.far hnz _).far hnz _).far hnz _, hl3, by omega, (rb6.set3 (fun h => by have := h.2; omega) _ _ _).mono (fun b hb => ⟨by have := hb.1; simp at this; omega, by have := hb.2; omega⟩), by omega, ?_⟩
                exact ((hrq4.setCell (by show w1.heap.size ≤ q3.heap.size; omega) _).setCell (by show w1.heap.size ≤ q3.heap.size; omega) _).setCell (by show w1.heap.size ≤ q3.heap.size; omega) _
              | true =>
                go_wp2_with fail
                go_meet
                have rx6 := rxq4.set3 (g := q3.heap.size) (fun h => by omega) (.int .i64 kx) (.int .i64 nx) (.slice Ax xs.length cx)
                refine ⟨only_setCell (only_setCell (only_setCell (only_setCell (only_setCell (only_setCell g6 (.inr (by show w1.heap.size ≤ q3.heap.size; omega)) _) (.inr (by show w1.heap.size ≤ q3.heap.size; omega)) _) (.inr (by show w1.heap.size ≤ q3.heap.size; omega)) _) (.inr (by show w1.heap.size ≤ w3.heap.size; omega)) _) (.inr (by show w1.heap.size ≤ w3.heap.size; omega)) _) (.inr (by show w1.heap.size ≤ w3.heap.size; omega)) _, (((((hXa6.far hnz2 _).far hnz2 _).far hnz2 _).far hab _).far hab _).far hab _, ((ra6.set3 (g := q3.heap.size) (fun h => by have := h.2; omega) _ _ _).set3 (g := w3.heap.size) (fun h => by have := h.2; omega) _ _ _), kx, nx, xs, Ax, cx, pd, ?_, hlx, by omega, (rx6.set3 (g := w3.heap.size) (fun h => by omega) _ _ _).mono (fun b hb => ⟨by omega, by omega⟩), by omega, ?_⟩
                · exact (((((hXb6.far hnz _).far hnz _).far hnz _).set_ 0 _).set_ 1 _).set_ 2 _
                · exact (((((hrq4.setCell (by show w1.heap.size ≤ q3.heap.size; omega) _).setCell (by show w1.heap.size ≤ q3.heap.size; omega) _).setCell (by show w1.heap.size ≤ q3.heap.size; omega) _).setCell (by show w1.heap.size ≤ w3.heap.size; omega) _).setCell (by show w1.heap.size ≤ w3.heap.size; omega) _).setCell (by show w1.heap.size ≤ w3.heap.size; omega) _
          · go_wp2_with fail
            refine name_midw ?_
            intro q5 hn
            have bq5 : w5.grownBy q5 (some r) := by rw [hn]; exact only_alloc bq2 _
            have zq5 : Blk q5 q2.heap.size #[.int .i64 0, .int .i64 0, .slice none 0 0] := by rw [hn]; exact Blk.new_ _ 25 _ rfl
            have hrq5 := hrq2.alloc (by have := bq2.size; omega) (.cells #[.int .i64 0, .int .i64 0, .slice none 0 0] 25)
            rw [← hn] at hrq5
            have szq5 := bq2.size
            have szlq5 := zq5.lt
            have rdq5 := rdq2.alloc (.cells #[.int .i64 0, .int .i64 0, .slice none 0 0] 25)
            rw [← hn] at rdq5
            clear hn
            refine mid_intro bq5 ?_
            refine gC_one (i := 10) (by kernel_rfl) rfl ?_
            · obtain ⟨u0, hu0⟩ := hpat'.out m5 hm5'
              have hlen5 := hpln'.out m5 hm5'
              have sq5w := bq5.size
              go_wp2_with (go_at_call 80; refine (putAt_any (fun b => q1.heap.size ≤ b ∧ b < q2.heap.size) k n ks A2 c2 ps[m5] P cp kd nd kds Ad cd q5 u0 hv2'.out hu0 (by omega) hpc (by omega) ((ra5.grown bq5 (fun b hb e => by have := hb.1; injection e; omega)).rd) (hpi.grown bq5 (fun a ha e => by have := hpB a ha; injection e; omega)) rdq5 (fun b hb => by have := hb.2; omega)).mono ?_; rintro e q6 ⟨kx, nx, xs, Ax, cx, bb, rfl, hlx, hsx, hrxq6, hbq6⟩)
              have bq6 := only_below bq5 hbq6
              have hrq6 := hrq5.below hbq6 (by omega)
              have zq6 := zq5.keep hbq6
              have lq6 := hbq6.size
              have rxq6 : RdP (fun b => (w2.heap.size + 1 ≤ b ∧ b ≠ w3.heap.size) ∧ b < q6.heap.size ∧ b ≠ q2.heap.size) q6 Ax 0 xs := (rdp_ltC.2 _ _ _ hrxq6).mono (fun b h => by rcases h with ⟨h | h, h2⟩ <;> (refine ⟨⟨by omega, by omega⟩, by omega, by omega⟩))
              refine mid_intro bq6 ?_
              refine gC_takeT [11, 12, 13] (f := 2) (l' := #[true, true, true, true, true, true, true, true, true, true, true, true, true, true, true, false, false]) (lT := [_, _, _]) rfl (by kernel_rfl) (by kernel_rfl) (by kernel_rfl) rfl (fun _ _ d _ _ h => by cases d <;> exact h) ?_
              repeat (first | ((refine takeY_skip (a' := ?_) ?_ ?_ ?_); (rotate_left); (· (simp [Region.wanted, yielded]; done)); (· (simp only [List.getElem_toArray, List.getElem_cons_zero, List.getElem_cons_succ, Act.put, List.setIfInBounds_toArray, List.set_cons_zero, List.set_cons_succ]; exact rfl))) | ((refine takeY_step (v := ?_) (a' := ?_) ?_ ?_ ?_ ?_); (rotate_left 2); (· (simp [Region.wanted, yielded]; done)); (· (intro w' hS'; go_simp; try (with_reducible rfl))); (· (simp only [List.getElem_toArray, List.getElem_cons_zero, List.getElem_cons_succ, Act.put, List.setIfInBounds_toArray, List.set_cons_zero, List.set_cons_succ]; exact rfl))))
              refine takeY_nil ?_
              refine gC_end [15, 16] (lB := [_, _]) (by simp) (by kernel_rfl) (by kernel_rfl) rfl ?_
              obtain ⟨d0, d1, d2⟩ := zq6.three
              have e0 := zq6.frozen 0
              have e1 := zq6.frozen 1
              have e2 := zq6.frozen 2
              have lz := zq6.lt
              have zb : w3.heap.size ≠ r := by omega
              have hXa6 := hXa5.grown bq6 (by simp; omega)
              have hXb6 := hXb5.grown bq6 (by simp; omega)
              have ra6 := ra5.grown bq6 (fun b hb e => by have := hb.1; injection e; omega)
              have rb6 := rb5.grown bq6 (fun b hb e => by have := hb.1; injection e with e; simp at this; omega)
              have g6 := grown_trans g5 bq6
              have hnz : w3.heap.size ≠ q2.heap.size := by omega
              have hnz2 : w2.heap.size ≠ q2.heap.size := by omega
              have hab : w2.heap.size ≠ w3.heap.size := by omega
              obtain ⟨x0, x1, x2⟩ := hXb6.three
              have i0 := hXb6.frozen 0
              have i1 := hXb6.frozen 1
              have i2 := hXb6.frozen 2
              have sw := bq6.size
              have hpdz : pd ≤ 4000 := by omega
              cases bb with
              | false =>
                go_wp2_with fail
                go_meet
                refine ⟨only_setCell (only_setCell (only_setCell g6 (.inr (by show w1.heap.size ≤ q2.heap.size; omega)) _) (.inr (by show w1.heap.size ≤ q2.heap.size; omega)) _) (.inr (by show w1.heap.size ≤ q2.heap.size; omega)) _, ((hXa6.far hnz2 _).far hnz2 _).far hnz2 _, (ra6.set3 (fun h => by have := h.2; omega) _ _ _), kb, nb, kbs, A3, c3, pd, ((hXb6.far hnz _).far hnz _).far hnz _, hl3, by omega, (rb6.set3 (fun h => by have := h.2; omega) _ _ _).mono (fun b hb => ⟨by have := hb.1; simp at this; omega, by have := hb.2; omega⟩), by omega, ?_⟩
                exact ((hrq6.setCell (by show w1.heap.size ≤ q2.heap.size; omega) _).setCell (by show w1.heap.size ≤ q2.heap.size; omega) _).setCell (by show w1.heap.size ≤ q2.heap.size; omega) _
              | true =>
                go_wp2_with fail
                go_meet
                have rx6 := rxq6.set3 (g := q2.heap.size) (fun h => by omega) (.int .i64 kx) (.int .i64 nx) (.slice Ax xs.length cx)
                refine ⟨only_setCell (only_setCell (only_setCell (only_setCell (only_setCell (only_setCell g6 (.inr (by show w1.heap.size ≤ q2.heap.size; omega)) _) (.inr (by show w1.heap.size ≤ q2.heap.size; omega)) _) (.inr (by show w1.heap.size ≤ q2.heap.size; omega)) _) (.inr (by show w1.heap.size ≤ w3.heap.size; omega)) _) (.inr (by show w1.heap.size ≤ w3.heap.size; omega)) _) (.inr (by show w1.heap.size ≤ w3.heap.size; omega)) _, (((((hXa6.far hnz2 _).far hnz2 _).far hnz2 _).far hab _).far hab _).far hab _, ((ra6.set3 (g := q2.heap.size) (fun h => by have := h.2; omega) _ _ _).set3 (g := w3.heap.size) (fun h => by have := h.2; omega) _ _ _), kx, nx, xs, Ax, cx, pd, ?_, hlx, by omega, (rx6.set3 (g := w3.heap.size) (fun h => by omega) _ _ _).mono (fun b hb => ⟨by omega, by omega⟩), by omega, ?_⟩
                · exact (((((hXb6.far hnz _).far hnz _).far hnz _).set_ 0 _).set_ 1 _).set_ 2 _
                · exact (((((hrq6.setCell (by show w1.heap.size ≤ q2.heap.size; omega) _).setCell (by show w1.heap.size ≤ q2.heap.size; omega) _).setCell (by show w1.heap.size ≤ q2.heap.size; omega) _).setCell (by show w1.heap.size ≤ w3.heap.size; omega) _).setCell (by show w1.heap.size ≤ w3.heap.size; omega) _).setCell (by show w1.heap.size ≤ w3.heap.size; omega) _
        · go_wp2_with fail
          refine name_midw ?_
          intro q7 hn
          have bq7 : w5.grownBy q7 (some r) := by rw [hn]; exact only_alloc bq1 _
          have zq7 : Blk q7 q1.heap.size #[.int .i64 0, .int .i64 0, .slice none 0 0] := by rw [hn]; exact Blk.new_ _ 25 _ rfl
          have hrq7 := hrq1.alloc (by have := bq1.size; omega) (.cells #[.int .i64 0, .int .i64 0, .slice none 0 0] 25)
          rw [← hn] at hrq7
          have szq7 := bq1.size
          have szlq7 := zq7.lt
          clear hn
          refine mid_intro bq7 ?_
          refine gC_one (i := 9) (by kernel_rfl) rfl ?_
          · have sq7w := bq7.size
            go_wp2_with (go_at_call 75; refine (draw_any 1 w1.heap.size r (p3 + 1 + 1) _ (by have := (kd4 (d := 1) (by omega)).1; omega) (by omega) hrq7).mono ?_; rintro e q8 ⟨kd, nd, kds, Ad, cd, pd, rfl, hld, hsd, hpd, hfd, hrq8, hgq8⟩)
            have bq8 := grown_trans bq7 hgq8
            have gsq8 := hgq8.size
            have rdq8 := Fresh.rdp hfd
            have hsd1 := (kd4 (d := 1) (by omega)).2
            have hpd1 := (kd4 (d := 1) (by omega)).1
            have zq8 := zq7.grown hgq8 (by simp; omega)
            refine mid_intro bq8 ?_
            refine gC_one (i := 10) (by kernel_rfl) rfl ?_
            · obtain ⟨u0, hu0⟩ := hpat'.out m5 hm5'
              have hlen5 := hpln'.out m5 hm5'
              have sq8w := bq8.size
              go_wp2_with (go_at_call 80; refine (putAt_any (fun b => q7.heap.size ≤ b ∧ b < q8.heap.size) k n ks A2 c2 ps[m5] P cp kd nd kds Ad cd q8 u0 hv2'.out hu0 (by omega) hpc (by omega) ((ra5.grown bq8 (fun b hb e => by have := hb.1; injection e; omega)).rd) (hpi.grown bq8 (fun a ha e => by have := hpB a ha; injection e; omega)) rdq8 (fun b hb => by have := hb.2; omega)).mono ?_; rintro e q9 ⟨kx, nx, xs, Ax, cx, bb, rfl, hlx, hsx, hrxq9, hbq9⟩)
              have bq9 := only_below bq8 hbq9
              have hrq9 := hrq8.below hbq9 (by omega)
              have zq9 := zq8.keep hbq9
              have lq9 := hbq9.size
              have rxq9 : RdP (fun b => (w2.heap.size + 1 ≤ b ∧ b ≠ w3.heap.size) ∧ b < q9.heap.size ∧ b ≠ q1.heap.size) q9 Ax 0 xs := (rdp_ltC.2 _ _ _ hrxq9).mono (fun b h => by rcases h with ⟨h | h, h2⟩ <;> (refine ⟨⟨by omega, by omega⟩, by omega, by omega⟩))
              refine mid_intro bq9 ?_
              refine gC_takeT [11, 12, 13] (f := 2) (l' := #[true, true, true, true, true, true, true, true, true, true, true, true, true, true, true, false, false]) (lT := [_, _, _]) rfl (by kernel_rfl) (by kernel_rfl) (by kernel_rfl) rfl (fun _ _ d _ _ h => by cases d <;> exact h) ?_
              repeat (first | ((refine takeY_skip (a' := ?_) ?_ ?_ ?_); (rotate_left); (· (simp [Region.wanted, yielded]; done)); (· (simp only [List.getElem_toArray, List.getElem_cons_zero, List.getElem_cons_succ, Act.put, List.setIfInBounds_toArray, List.set_cons_zero, List.set_cons_succ]; exact rfl))) | ((refine takeY_step (v := ?_) (a' := ?_) ?_ ?_ ?_ ?_); (rotate_left 2); (· (simp [Region.wanted, yielded]; done)); (· (intro w' hS'; go_simp; try (with_reducible rfl))); (· (simp only [List.getElem_toArray, List.getElem_cons_zero, List.getElem_cons_succ, Act.put, List.setIfInBounds_toArray, List.set_cons_zero, List.set_cons_succ]; exact rfl))))
              refine takeY_nil ?_
              refine gC_end [15, 16] (lB := [_, _]) (by simp) (by kernel_rfl) (by kernel_rfl) rfl ?_
              obtain ⟨d0, d1, d2⟩ := zq9.three
              have e0 := zq9.frozen 0
              have e1 := zq9.frozen 1
              have e2 := zq9.frozen 2
              have lz := zq9.lt
              have zb : w3.heap.size ≠ r := by omega
              have hXa6 := hXa5.grown bq9 (by simp; omega)
              have hXb6 := hXb5.grown bq9 (by simp; omega)
              have ra6 := ra5.grown bq9 (fun b hb e => by have := hb.1; injection e; omega)
              have rb6 := rb5.grown bq9 (fun b hb e => by have := hb.1; injection e with e; simp at this; omega)
              have g6 := grown_trans g5 bq9
              have hnz : w3.heap.size ≠ q1.heap.size := by omega
              have hnz2 : w2.heap.size ≠ q1.heap.size := by omega
              have hab : w2.heap.size ≠ w3.heap.size := by omega
              obtain ⟨x0, x1, x2⟩ := hXb6.three
              have i0 := hXb6.frozen 0
              have i1 := hXb6.frozen 1
              have i2 := hXb6.frozen 2
              have sw := bq9.size
              have hpdz : pd ≤ 4000 := by omega
              cases bb with
              | false =>
                go_wp2_with fail
                go_meet
                refine ⟨only_setCell (only_setCell (only_setCell g6 (.inr (by show w1.heap.size ≤ q1.heap.size; omega)) _) (.inr (by show w1.heap.size ≤ q1.heap.size; omega)) _) (.inr (by show w1.heap.size ≤ q1.heap.size; omega)) _, ((hXa6.far hnz2 _).far hnz2 _).far hnz2 _, (ra6.set3 (fun h => by have := h.2; omega) _ _ _), kb, nb, kbs, A3, c3, pd, ((hXb6.far hnz _).far hnz _).far hnz _, hl3, by omega, (rb6.set3 (fun h => by have := h.2; omega) _ _ _).mono (fun b hb => ⟨by have := hb.1; simp at this; omega, by have := hb.2; omega⟩), by omega, ?_⟩
                exact ((hrq9.setCell (by show w1.heap.size ≤ q1.heap.size; omega) _).setCell (by show w1.heap.size ≤ q1.heap.size; omega) _).setCell (by show w1.heap.size ≤ q1.heap.size; omega) _
              | true =>
                go_wp2_with fail
                go_meet
                have rx6 := rxq9.set3 (g := q1.heap.size) (fun h => by omega) (.int .i64 kx) (.int .i64 nx) (.slice Ax xs.length cx)
                refine ⟨only_setCell (only_setCell (only_setCell (only_setCell (only_setCell (only_setCell g6 (.inr (by show w1.heap.size ≤ q1.heap.size; omega)) _) (.inr (by show w1.heap.size ≤ q1.heap.size; omega)) _) (.inr (by show w1.heap.size ≤ q1.heap.size; omega)) _) (.inr (by show w1.heap.size ≤ w3.heap.size; omega)) _) (.inr (by show w1.heap.size ≤ w3.heap.size; omega)) _) (.inr (by show w1.heap.size ≤ w3.heap.size; omega)) _, (((((hXa6.far hnz2 _).far hnz2 _).far hnz2 _).far hab _).far hab _).far hab _, ((ra6.set3 (g := q1.heap.size) (fun h => by have := h.2; omega) _ _ _).set3 (g := w3.heap.size) (fun h => by have := h.2; omega) _ _ _), kx, nx, xs, Ax, cx, pd, ?_, hlx, by omega, (rx6.set3 (g := w3.heap.size) (fun h => by omega) _ _ _).mono (fun b hb => ⟨by omega, by omega⟩), by omega, ?_⟩
                · exact (((((hXb6.far hnz _).far hnz _).far hnz _).set_ 0 _).set_ 1 _).set_ 2 _
                · exact (((((hrq9.setCell (by show w1.heap.size ≤ q1.heap.size; omega) _).setCell (by show w1.heap.size ≤ q1.heap.size; omega) _).setCell (by show w1.heap.size ≤ q1.heap.size; omega) _).setCell (by show w1.heap.size ≤ w3.heap.size; omega) _).setCell (by show w1.heap.size ≤ w3.heap.size; omega) _).setCell (by show w1.heap.size ≤ w3.heap.size; omega) _
      · go_wp2_with fail
        refine name_midw ?_
        intro q10 hn
        have bq10 : w5.grownBy q10 (some r) := by rw [hn]; exact only_alloc bq0 _
        have zq10 : Blk q10 q0.heap.size #[.int .i64 0, .int .i64 0, .slice none 0 0] := by rw [hn]; exact Blk.new_ _ 25 _ rfl
        have hrq10 := hrq0.alloc (by have := bq0.size; omega) (.cells #[.int .i64 0, .int .i64 0, .slice none 0 0] 25)
        rw [← hn] at hrq10
        have szq10 := bq0.size
        have szlq10 := zq10.lt
        clear hn
        refine mid_intro bq10 ?_
        refine gC_one (i := 5) (by kernel_rfl) rfl ?_
        · have sq10w := bq10.size
          go_wp2_with (go_at_call 52; refine (pick_any w1.heap.size r (p3 + 1) (ps.length : Int) _ (by omega) (by omega) (by omega) hrq10).mono ?_; rintro e q11 ⟨m5, rfl, hm5, -, hrq11, hgq11⟩)
          have bq11 := grown_trans bq10 hgq11
          have gsq11 := hgq11.size
          have hm5' : m5 < ps.length := by have := hm5 (by omega); omega
          clear hm5
          obtain ⟨P, cp, hcell, hpi, hpc, hpB⟩ := hrow'.out m5 hm5'
          have vq11 : ∀ w', w5.grownBy w' (some r) → w'.cell? ⟨g, m5, none⟩ = some (.slice P ps[m5].length cp) := fun w' h => grown_cell hcell (by omega) h
          have hlm : (m5 : Int) < (ps.length : Int) := by omega
          have zq11 := zq10.grown hgq11 (by simp; omega)
          refine mid_intro bq11 ?_
          refine gC_take [6, 7] (f := 7) (l' := #[true, true, true, true, true, true, true, true, true, false, false, false, false, false, true, false, false]) (lT := [_, _]) bq11 rfl (by kernel_rfl) (by kernel_rfl) (by kernel_rfl) rfl (fun _ _ d _ _ h => by cases d <;> exact h) ?_
          repeat (first | ((refine takeY_skip (a' := ?_) ?_ ?_ ?_); (rotate_left); (· (simp [Region.wanted, yielded]; done)); (· (simp only [List.getElem_toArray, List.getElem_cons_zero, List.getElem_cons_succ, Act.put, List.setIfInBounds_toArray, List.set_cons_zero, List.set_cons_succ]; exact rfl))) | ((refine takeY_step (v := ?_) (a' := ?_) ?_ ?_ ?_ ?_); (rotate_left 2); (· (simp [Region.wanted, yielded]; done)); (· (intro w' hS'; go_simp; try (with_reducible rfl))); (· (simp only [List.getElem_toArray, List.getElem_cons_zero, List.getElem_cons_succ, Act.put, List.setIfInBounds_toArray, List.set_cons_zero, List.set_cons_succ]; exact rfl))))
          refine takeY_nil ?_
          refine gC_one (i := 9) (by kernel_rfl) rfl ?_
          · have sq11w := bq11.size
            go_wp2_with (go_at_call 75; refine (draw_any 1 w1.heap.size r (p3 + 1 + 1) _ (by have := (kd4 (d := 1) (by omega)).1; omega) (by omega) hrq11).mono ?_; rintro e q12 ⟨kd, nd, kds, Ad, cd, pd, rfl, hld, hsd, hpd, hfd, hrq12, hgq12⟩)
            have bq12 := grown_trans bq11 hgq12
            have gsq12 := hgq12.size
            have rdq12 := Fresh.rdp hfd
            have hsd1 := (kd4 (d := 1) (by omega)).2
            have hpd1 := (kd4 (d := 1) (by omega)).1
            have zq12 := zq11.grown hgq12 (by simp; omega)
            refine mid_intro bq12 ?_
            refine gC_one (i := 10) (by kernel_rfl) rfl ?_
            · obtain ⟨u0, hu0⟩ := hpat'.out m5 hm5'
              have hlen5 := hpln'.out m5 hm5'
              have sq12w := bq12.size
              go_wp2_with (go_at_call 80; refine (putAt_any (fun b => q11.heap.size ≤ b ∧ b < q12.heap.size) k n ks A2 c2 ps[m5] P cp kd nd kds Ad cd q12 u0 hv2'.out hu0 (by omega) hpc (by omega) ((ra5.grown bq12 (fun b hb e => by have := hb.1; injection e; omega)).rd) (hpi.grown bq12 (fun a ha e => by have := hpB a ha; injection e; omega)) rdq12 (fun b hb => by have := hb.2; omega)).mono ?_; rintro e q13 ⟨kx, nx, xs, Ax, cx, bb, rfl, hlx, hsx, hrxq13, hbq13⟩)
              have bq13 := only_below bq12 hbq13
              have hrq13 := hrq12.below hbq13 (by omega)
              have zq13 := zq12.keep hbq13
              have lq13 := hbq13.size
              have rxq13 : RdP (fun b => (w2.heap.size + 1 ≤ b ∧ b ≠ w3.heap.size) ∧ b < q13.heap.size ∧ b ≠ q0.heap.size) q13 Ax 0 xs := (rdp_ltC.2 _ _ _ hrxq13).mono (fun b h => by rcases h with ⟨h | h, h2⟩ <;> (refine ⟨⟨by omega, by omega⟩, by omega, by omega⟩))
              refine mid_intro bq13 ?_
              refine gC_takeT [11, 12, 13] (f := 2) (l' := #[true, true, true, true, true, true, true, true, true, true, true, true, true, true, true, false, false]) (lT := [_, _, _]) rfl (by kernel_rfl) (by kernel_rfl) (by kernel_rfl) rfl (fun _ _ d _ _ h => by cases d <;> exact h) ?_
              repeat (first | ((refine takeY_skip (a' := ?_) ?_ ?_ ?_); (rotate_left); (· (simp [Region.wanted, yielded]; done)); (· (simp only [List.getElem_toArray, List.getElem_cons_zero, List.getElem_cons_succ, Act.put, List.setIfInBounds_toArray, List.set_cons_zero, List.set_cons_succ]; exact rfl))) | ((refine takeY_step (v := ?_) (a' := ?_) ?_ ?_ ?_ ?_); (rotate_left 2); (· (simp [Region.wanted, yielded]; done)); (· (intro w' hS'; go_simp; try (with_reducible rfl))); (· (simp only [List.getElem_toArray, List.getElem_cons_zero, List.getElem_cons_succ, Act.put, List.setIfInBounds_toArray, List.set_cons_zero, List.set_cons_succ]; exact rfl))))
              refine takeY_nil ?_
              refine gC_end [15, 16] (lB := [_, _]) (by simp) (by kernel_rfl) (by kernel_rfl) rfl ?_
              obtain ⟨d0, d1, d2⟩ := zq13.three
              have e0 := zq13.frozen 0
              have e1 := zq13.frozen 1
              have e2 := zq13.frozen 2
              have lz := zq13.lt
              have zb : w3.heap.size ≠ r := by omega
              have hXa6 := hXa5.grown bq13 (by simp; omega)
              have hXb6 := hXb5.grown bq13 (by simp; omega)
              have ra6 := ra5.grown bq13 (fun b hb e => by have := hb.1; injection e; omega)
              have rb6 := rb5.grown bq13 (fun b hb e => by have := hb.1; injection e with e; simp at this; omega)
              have g6 := grown_trans g5 bq13
              have hnz : w3.heap.size ≠ q0.heap.size := by omega
              have hnz2 : w2.heap.size ≠ q0.heap.size := by omega
              have hab : w2.heap.size ≠ w3.heap.size := by omega
              obtain ⟨x0, x1, x2⟩ := hXb6.three
              have i0 := hXb6.frozen 0
              have i1 := hXb6.frozen 1
              have i2 := hXb6.frozen 2
              have sw := bq13.size
              have hpdz : pd ≤ 4000 := by omega
              cases bb with
              | false =>
                go_wp2_with fail
                go_meet
                refine ⟨only_setCell (only_setCell (only_setCell g6 (.inr (by show w1.heap.size ≤ q0.heap.size; omega)) _) (.inr (by show w1.heap.size ≤ q0.heap.size; omega)) _) (.inr (by show w1.heap.size ≤ q0.heap.size; omega)) _, ((hXa6.far hnz2 _).far hnz2 _).far hnz2 _, (ra6.set3 (fun h => by have := h.2; omega) _ _ _), kb, nb, kbs, A3, c3, pd, ((hXb6.far hnz _).far hnz _).far hnz _, hl3, by omega, (rb6.set3 (fun h => by have := h.2; omega) _ _ _).mono (fun b hb => ⟨by have := hb.1; simp at this; omega, by have := hb.2; omega⟩), by omega, ?_⟩
                exact ((hrq13.setCell (by show w1.heap.size ≤ q0.heap.size; omega) _).setCell (by show w1.heap.size ≤ q0.heap.size; omega) _).setCell (by show w1.heap.size ≤ q0.heap.size; omega) _
              | true =>
                go_wp2_with fail
                go_meet
                have rx6 := rxq13.set3 (g := q0.heap.size) (fun h => by omega) (.int .i64 kx) (.int .i64 nx) (.slice Ax xs.length cx)
                refine ⟨only_setCell (only_setCell (only_setCell (only_setCell (only_setCell (only_setCell g6 (.inr (by show w1.heap.size ≤ q0.heap.size; omega)) _) (.inr (by show w1.heap.size ≤ q0.heap.size; omega)) _) (.inr (by show w1.heap.size ≤ q0.heap.size; omega)) _) (.inr (by show w1.heap.size ≤ w3.heap.size; omega)) _) (.inr (by show w1.heap.size ≤ w3.heap.size; omega)) _) (.inr (by show w1.heap.size ≤ w3.heap.size; omega)) _, (((((hXa6.far hnz2 _).far hnz2 _).far hnz2 _).far hab _).far hab _).far hab _, ((ra6.set3 (g := q0.heap.size) (fun h => by have := h.2; omega) _ _ _).set3 (g := w3.heap.size) (fun h => by have := h.2; omega) _ _ _), kx, nx, xs, Ax, cx, pd, ?_, hlx, by omega, (rx6.set3 (g := w3.heap.size) (fun h => by omega) _ _ _).mono (fun b hb => ⟨by omega, by omega⟩), by omega, ?_⟩
                · exact (((((hXb6.far hnz _).far hnz _).far hnz _).set_ 0 _).set_ 1 _).set_ 2 _
                · exact (((((hrq13.setCell (by show w1.heap.size ≤ q0.heap.size; omega) _).setCell (by show w1.heap.size ≤ q0.heap.size; omega) _).setCell (by show w1.heap.size ≤ q0.heap.size; omega) _).setCell (by show w1.heap.size ≤ w3.heap.size; omega) _).setCell (by show w1.heap.size ≤ w3.heap.size; omega) _).setCell (by show w1.heap.size ≤ w3.heap.size; omega) _
    · have q0 : ((m : Int) == 0) = false := by simpa using hm0'
      have q1 : decide (m = 0) = false := by simpa using hm0'
      clear hm0'
      go_wp2_with fail
      go_meet
      exact ⟨g4, hXa, ra4, kb, nb, kbs, A3, c3, _, hXb, hl3, by omega, rb4.mono (fun b hb => ⟨by have := hb.1; simp at this; omega, by have := hb.2; omega⟩), (by omega : p3 + 1 ≤ 4000), hr4⟩
  case rest =>
    obtain ⟨gx, hXa, rax, kx, nx, xs, Ax, cx, p5, hXb, hlx, hsx, rbx, hp5, hrx⟩ := hcut
    go_upto_region 9 with fail
    refine name_world ?_
    intro wz hwz
    subst hwz
    have sz := gx.size
    have za : w2.heap.size ≠ r := by omega
    have zb : w3.heap.size ≠ r := by omega
    have t0 : ∀ w', wz.grownBy w' (some r) → w'.cell? ⟨w2.heap.size, 0, none⟩ = some (.int .i64 k) := fun w' h => grown_cell hXa.three.1 za h
    have t1 : ∀ w', wz.grownBy w' (some r) → w'.cell? ⟨w2.heap.size, 1, none⟩ = some (.int .i64 n) := fun w' h => grown_cell hXa.three.2.1 za h
    have t2 : ∀ w', wz.grownBy w' (some r) → w'.cell? ⟨w2.heap.size, 2, none⟩ = some (.slice A2 ks.length c2) := fun w' h => grown_cell hXa.three.2.2 za h
    have v0 : ∀ w', wz.grownBy w' (some r) → w'.cell? ⟨w3.heap.size, 0, none⟩ = some (.int .i64 kx) := fun w' h => grown_cell hXb.three.1 zb h
    have v1 : ∀ w', wz.grownBy w' (some r) → w'.cell? ⟨w3.heap.size, 1, none⟩ = some (.int .i64 nx) := fun w' h => grown_cell hXb.three.2.1 zb h
    have v2 : ∀ w', wz.grownBy w' (some r) → w'.cell? ⟨w3.heap.size, 2, none⟩ = some (.slice Ax xs.length cx) := fun w' h => grown_cell hXb.three.2.2 zb h
    refine wp_region_firstY (fun w' => wz.grownBy w' (some r)) [0, 1, 3, 4] [2, 5] [6, 7] [_, _, _, _] [_, _] [_, _] (by kernel_rfl) (by kernel_rfl) rfl rfl rfl (fun _ _ d _ _ h => by cases d <;> exact h) (only_drew (World.grownBy.refl _ _)) ?_
    repeat (first | ((refine takeY_skip (a' := ?_) ?_ ?_ ?_); (rotate_left); (· (simp [Region.wanted, yielded]; done)); (· (simp only [List.getElem_toArray, List.getElem_cons_zero, List.getElem_cons_succ, Act.put, List.setIfInBounds_toArray, List.set_cons_zero, List.set_cons_succ]; exact rfl))) | ((refine takeY_step (v := ?_) (a' := ?_) ?_ ?_ ?_ ?_); (rotate_left 2); (· (simp [Region.wanted, yielded]; done)); (· (intro w' hS'; go_simp; try (with_reducible rfl))); (· (simp only [List.getElem_toArray, List.getElem_cons_zero, List.getElem_cons_succ, Act.put, List.setIfInBounds_toArray, List.set_cons_zero, List.set_cons_succ]; exact rfl))))
    refine takeY_nil (then_cons ?_)
    clear t0 t1 t2 v0 v1 v2
    go_wp2_with (go_at_call 54; refine (mutate_any w1.heap.size r p5 k n ks A2 c2 wz.drew (by omega) (by show w1.heap.size ≤ wz.heap.size; omega) hrx.drew (by omega) rax.drew.rd).mono ?_; rintro e wm ⟨km, nm, kms, Am, cm, pm, rfl, hlm, hsm, hpm, hfm, hrm, hgm⟩; have gm : wz.grownBy wm (some r) := grown_trans (only_drew (World.grownBy.refl _ _)) hgm)
    refine mid_intro gm ?_
    refine then_cons ?_
    have sm := gm.size
    go_wp2_with (go_at_call 54; refine (mutate_any w1.heap.size r pm kx nx xs Ax cx wm (by omega) (by omega) hrm (by omega) (rbx.grown gm (fun b hb e => by have := hb.1; injection e; omega)).rd).mono ?_; rintro e wn ⟨kn, nn, kns, An, cn, pn, rfl, hln, hsn, hpn, hfn, hrn, hgn⟩; have gn := grown_trans gm hgn)
    refine mid_intro gn ?_
    refine then_nil ?_
    have gw := grown_trans gx gn
    have sn := gn.size
    have hZ := hZ1.grown gw (by simp; omega)
    have hY := hY1.grown gw (by simp; omega)
    obtain ⟨d0, d1, d2⟩ := hZ.three
    have e0 := hZ.frozen 0
    have e1 := hZ.frozen 1
    have e2 := hZ.frozen 2
    obtain ⟨f0, f1, f2⟩ := hY.three
    have i0 := hY.frozen 0
    have i1 := hY.frozen 1
    have i2 := hY.frozen 2
    have hfm' := hfm.grown hgn (fun b hb e => by have := hb.1; injection e with e; have h : wz.heap.size ≤ b := this; omega)
    go_wp2_with fail
    refine bodyPost_ret (v := .tuple #[.agg #[.int .i64 km, .int .i64 nm, .slice Am kms.length cm], .agg #[.int .i64 kn, .int .i64 nn, .slice An kns.length cn]]) ?_ rfl ?_
    · simp [results, Try.results39, go_sem, d0, d1, d2, f0, f1, f2]
    · have b3 : Below w.heap.size w wn := b1.grown gw (by have := b1.size; omega) (fun k e => by injection e; omega)
      refine ⟨km, nm, kms, Am, cm, kn, nn, kns, An, cn, rfl, hlm, hln, by omega, by omega, ?_, ?_, by_set3 (by_set3 b3 (g := w.heap.size) (Nat.le_refl _) _ _ _) (g := w.heap.size + 1) (by omega) _ _ _⟩
      · exact ((hfm'.set3 (fun h => by have h : wz.heap.size ≤ w.heap.size := h.1; omega) _ _ _).set3 (fun h => by have h : wz.heap.size ≤ w.heap.size + 1 := h.1; omega) _ _ _).rd
      · exact ((hfn.set3 (fun h => by have h : wm.heap.size ≤ w.heap.size := h.1; omega) _ _ _).set3 (fun h => by have h : wm.heap.size ≤ w.heap.size + 1 := h.1; omega) _ _ _).rd
end Go.Proofs.Ytodkenpmhhbppaa
