/-
  Texts that are common to the laws: DBlk, DForm, NatC. No condition.
-/
import Derived.Test.YtodkenpmhhbppaaK6
import Derived.Test.YtodkenpmhhbppaaK11
import Derived.Test.YtodkenpmhhbppaaK13
import Derived.Test.YtodkenpmhhbppaaK15
import Derived.Test.YtodkenpmhhbppaaK20
import Derived.Test.YtodkenpmhhbppaaK22

namespace Go.Proofs.Ytodkenpmhhbppaa
open Go.RowKit
set_option linter.unusedSimpArgs false
set_option linter.unusedVariables false

theorem blks_small {k n : Int} {ks : List Tm} (h : Tm.mk k n ks ∈ blks) : sizes ks ≤ 20 := by
  have h1 : (blks.all fun t => decide (t.size ≤ 21)) = true := by decide
  have := of_decide_eq_true (List.all_eq_true.1 h1 _ h)
  rw [Tm.size] at this
  omega
/-- a term, drawn -/
def DrawnT1 (w : World) (e : Ending) (w' : World) : Prop :=
  ∃ (k n : Int) (ks : List Tm) (A : Option Addr) (c : Nat), e = .returned (.agg #[.int .i64 k, .int .i64 n, .slice A ks.length c]) ∧ ks.length ≤ 9223372036854775807 ∧ sizes ks ≤ 1000 ∧ Rd w' A 0 ks ∧ Below w.heap.size w w'
set_option maxHeartbeats 8000000 in
set_option maxRecDepth 100000 in
theorem drawBlk_any (bs : List Int) (A : Option Addr) (c : Nat) (w : World) (hl : bs.length ≤ 9223372036854775807) (hc : bs.length ≤ c) (hr : RdY w A bs) : Calls Try.prog 21 #[.slice A bs.length c] w (DrawnT1 w) := by
  have hpl : blks.length = 7 := rfl
  go_enter Try.func21, Try.ntmps21
  go_wp2_with (first
    | (go_at_call 65; refine (read_any blks blksX rfl (by decide) blks_good.at_ w1.heap.size _ (Blk.new_ _ 9 (strs blksX) (by simp))).mono ?_; rintro e w2 ⟨A2, c2, rfl, hf2, hb2⟩; replace hZ := (hZ.alloc (.cells (strs blksX) 9)).keep hb2; have g2 : w1.grownBy w2 (some r) := only_below (only_alloc (World.grownBy.refl _ _) _) hb2; have s2 : w1.heap.size + 1 ≤ w2.heap.size := (by have := hb2.size; simpa using this); have hr2 : Rdr w1.heap.size w2 r 0 := (hr1.alloc (Nat.le_refl _) _).below hb2 (by simp); have hf := hf2.rdp)
    | (go_at_call 50; refine (open_any bs A c _ hl hc (hr.keeps (.alloc _ _))).mono ?_; rintro e w1 ⟨r, rfl, hr0, hrlt, hr1, hb1⟩; have hZ := (Blk.new_ w 25 #[.int .i64 0, .int .i64 0, .slice none 0 0] rfl).keep hb1; have g1 : Below w.heap.size w w1 := ((Below.refl _ _).alloc (Nat.le_refl _) _).trans (hb1.mono (by simp)); have s1 : w.heap.size + 1 ≤ w1.heap.size := (by have := hb1.size; simpa using this); have hr0' : w.heap.size + 1 ≤ r := (by simpa using hr0)))
  refine (pick_any w1.heap.size r 0 7 _ (by omega) (by omega) (by omega) hr2).mono ?_
  rintro e w3 ⟨m, rfl, hm, hm0, hr3, hg3⟩
  have hm := hm (by omega)
  clear hm0
  have hm' : m < blks.length := by omega
  have g3 := grown_trans g2 hg3
  have s3 := hg3.size
  replace hZ := hZ.grown hg3 (by simp; omega)
  obtain ⟨b, off, k, n, ks, A', c', rfl, hk, y0, y1, y2, hlk, hrk⟩ := (hf.grown hg3 (fun b hb => by have := hb.1; simp at this; simp; omega)).at_ hm'
  have hsm := blks_small (k := k) (n := n) (ks := ks) (hk ▸ List.getElem_mem hm')
  clear hk
  have bl : b < w3.heap.size := World.block_lt_of_cell? _ _ y0
  have lz := hZ.lt
  go_wp2_with (go_at_call 54; refine (mutate_any w1.heap.size r (0 + 1) k n ks A' c' _ (by omega) (by omega) hr3 (by omega) hrk.rd).mono ?_; rintro e w4 ⟨k4, n4, ks4, A4, c4, p4, rfl, hl4, hs4, hp4, hk4, hr4, hg4⟩; have g4 := grown_trans g3 hg4; have s4 := hg4.size; replace hZ := hZ.grown hg4 (by simp; omega); have d0 := hZ.at_ (i := 0) rfl; have d1 := hZ.at_ (i := 1) rfl; have d2 := hZ.at_ (i := 2) rfl; have e0 := hZ.frozen 0; have e1 := hZ.frozen 1; have e2 := hZ.frozen 2)
  refine bodyPost_ret (v := .agg #[.int .i64 k4, .int .i64 n4, .slice A4 ks4.length c4]) (by simp [results, Try.results21, go_sem, d0, d1, d2]) rfl ⟨k4, n4, ks4, A4, c4, rfl, hl4, by omega, ?_, ?_⟩
  · exact (((hk4.setCell (by simp; omega) _).setCell (by simp; omega) _).setCell (by simp; omega) _).rd
  · exact (((g1.trans (grown_below g4 (by omega) (by omega))).setCell (by simp) _).setCell (by simp) _).setCell (by simp) _
end Go.Proofs.Ytodkenpmhhbppaa

namespace Go.Proofs.Ytodkenpmhhbppaa
open Go.RowKit
set_option linter.unusedSimpArgs false
set_option linter.unusedVariables false

/-- a term, drawn, in new blocks -/
def DrawnTP (w : World) (e : Ending) (w' : World) : Prop :=
  ∃ (k n : Int) (ks : List Tm) (A : Option Addr) (c : Nat), e = .returned (.agg #[.int .i64 k, .int .i64 n, .slice A ks.length c]) ∧ ks.length ≤ 9223372036854775807 ∧ sizes ks ≤ 1000 ∧ RdP (fun b => w.heap.size ≤ b) w' A 0 ks ∧ Below w.heap.size w w'
set_option maxHeartbeats 8000000 in
set_option maxRecDepth 100000 in
theorem drawForm_any (hN : NatOk) (hC : Contract3) (bs : List Int) (A : Option Addr) (c : Nat) (w : World) (hl : bs.length ≤ 9223372036854775807) (hc : bs.length ≤ c) (hr : RdY w A bs) : Calls Try.prog 44 #[.slice A bs.length c] w (DrawnTP w) := by
  go_enter Try.func44, Try.ntmps44
  go_wp2_with (first
    | (go_at_call 87; have _t := tok; refine (l5draw_any hN w1.heap.size r 0 _ (by omega) (Nat.le_refl _) hr1).mono ?_; rintro e w2 ⟨v, k, n, ks, A2, c2, p2, rfl, hl2, hv2, hp2, hk2, hr2, hg2⟩; have s2 := hg2.size; replace hZ := (hZ.grown hg2 (by simp; omega)).alloc (.cells #[.int .i64 k, .int .i64 n, .slice A2 ks.length c2] 25); have g2 := only_alloc hg2 (.cells #[.int .i64 k, .int .i64 n, .slice A2 ks.length c2] 25))
    | (go_at_call 50; refine (open_any bs A c _ hl hc (hr.keeps (.alloc _ _))).mono ?_; rintro e w1 ⟨r, rfl, hr0, hrlt, hr1, hb1⟩; have hZ := (Blk.new_ w 25 #[.int .i64 0, .int .i64 0, .slice none 0 0] rfl).keep hb1; have g1 : Below w.heap.size w w1 := ((Below.refl _ _).alloc (Nat.le_refl _) _).trans (hb1.mono (by simp)); have s1 : w.heap.size + 1 ≤ w1.heap.size := (by have := hb1.size; simpa using this); have hr0' : w.heap.size + 1 ≤ r := (by simpa using hr0); have tok := trivial))
  refine (pick_any w1.heap.size r p2 3 _ (by omega) (by omega) (by simp; omega) (hr2.alloc (by omega) _)).mono ?_
  rintro e w3 ⟨m3, rfl, hm3, hm30, hr3, hg3⟩
  clear hm3 hm30
  have s3 : w2.heap.size + 1 ≤ w3.heap.size := by have := hg3.size; simpa using this
  have hX := (Blk.new_ w2 25 #[.int .i64 k, .int .i64 n, .slice A2 ks.length c2] rfl).grown hg3 (by simp; omega)
  replace hZ := hZ.grown hg3 (by simp; omega)
  have g3 := grown_trans g2 hg3
  by_cases h3 : m3 = 0
  · subst h3
    go_wp2_with (go_at_call 78; refine (l3drawV_any w1.heap.size r (p2 + 1) _ (by omega) (by omega) hr3).mono ?_; rintro e w4 ⟨kz, nz, ksz, Az, cz, pz, rfl, hlz, hvz, hpz, hf4, hr4, hg4⟩; have s4 := hg4.size; have hX4 := hX.grown hg4 (by simp; omega); have z0 := hX4.frozen 0; have z1 := hX4.frozen 1; have z2 := hX4.frozen 2; obtain ⟨x0, x1, x2⟩ := hX4.three; have hZ4 := hZ.grown hg4 (by simp; omega); have g4 := grown_trans g3 hg4)
    refine name_calls ?_
    intro wz hwz
    have hXz : Blk wz w2.heap.size #[.int .i64 kz, .int .i64 nz, .slice Az ksz.length cz] := by rw [hwz]; exact ((hX4.set_ 0 _).set_ 1 _).set_ 2 _
    have hZz : Blk wz w.heap.size #[.int .i64 0, .int .i64 0, .slice none 0 0] := by rw [hwz]; exact ((hZ4.far (by simp; omega) _).far (by simp; omega) _).far (by simp; omega) _
    have hrz : Rdr w1.heap.size wz r pz := by rw [hwz]; exact ((hr4.setCell (by simp; omega) _).setCell (by simp; omega) _).setCell (by simp; omega) _
    have gz : w1.grownBy wz (some r) := by rw [hwz]; exact only_setCell (only_setCell (only_setCell g4 (.inr (by simp; omega)) _) (.inr (by simp; omega)) _) (.inr (by simp; omega)) _
    have hkz : RdP (fun b => w1.heap.size ≤ b) wz Az 0 ksz := by rw [hwz]; exact (Fresh.rdp (((hf4.setCell (by simp; omega) _).setCell (by simp; omega) _).setCell (by simp; omega) _)).mono (fun b hb => by have := hb.1; omega)
    have sz : w4.heap.size ≤ wz.heap.size := by rw [hwz]; simp
    clear hwz x0 x1 x2 z0 z1 z2
    refine (sNorm_any hC kz nz ksz Az cz 60 (by omega) _ hvz hlz hkz.rd).mono ?_
    rintro e w5 ⟨k5, n5, ks5, A5, c5, code, rfl, hcd, hl5, hs5, hv5, hk5, hb5⟩
    have hsz := validT_size' hvz
    have s5 := hb5.size
    have hX5 := (hXz.keep hb5).alloc (.cells #[.int .i64 k5, .int .i64 n5, .slice A5 ks5.length c5] 25)
    have hZ5 := (hZz.keep hb5).alloc (.cells #[.int .i64 k5, .int .i64 n5, .slice A5 ks5.length c5] 25)
    have hK5 := Blk.new_ w5 25 #[.int .i64 k5, .int .i64 n5, .slice A5 ks5.length c5] rfl
    have hr5 := (hrz.below hb5 (by omega)).alloc (by omega) (.cells #[.int .i64 k5, .int .i64 n5, .slice A5 ks5.length c5] 25)
    have g5 := only_alloc (only_below gz hb5) (.cells #[.int .i64 k5, .int .i64 n5, .slice A5 ks5.length c5] 25)
    have hkz5 := (hkz.below hb5).alloc (.cells #[.int .i64 k5, .int .i64 n5, .slice A5 ks5.length c5] 25)
    have hk55 := hk5.alloc (.cells #[.int .i64 k5, .int .i64 n5, .slice A5 ks5.length c5] 25)
    by_cases hc0 : code = 0
    · subst hc0
      obtain ⟨x0, x1, x2⟩ := hX5.three
      obtain ⟨y0, y1, y2⟩ := hK5.three
      go_wp2_with fail
      refine (pick_any w1.heap.size r pz 4 _ (by omega) (by omega) (by simp; omega) hr5).mono ?_
      rintro e w6 ⟨m6, rfl, hm6, hm60, hr6, hg6⟩
      clear hm6 hm60 x0 x1 x2 y0 y1 y2
      have s6 : w5.heap.size + 1 ≤ w6.heap.size := by have := hg6.size; simpa using this
      have hX6 := hX5.grown hg6 (by simp; omega)
      have hZm0 := hZ5.grown hg6 (by simp; omega)
      have hK6 := hK5.grown hg6 (by simp; omega)
      have g6 := grown_trans g5 hg6
      have hkz6 := hkz5.grown hg6 (fun b hb => by simp; omega)
      have hk66 := hk55.grown hg6 (fun b hb => by simp; omega)
      obtain ⟨x0, x1, x2⟩ := hX6.three
      obtain ⟨y0, y1, y2⟩ := hK6.three
      have z0 := hX6.frozen 0
      have z1 := hX6.frozen 1
      have z2 := hX6.frozen 2
      by_cases h6 : m6 = 0
      · have q6 : ¬ 0 < m6 := by omega
        clear h6
        have hZm := hZm0
        have hrm := hr6
        have gm := g6
        go_wp2_with fail
        refine (mutate_any w1.heap.size r (pz + 1) kz nz ksz Az cz _ (by omega) (by first | omega | (simp; omega)) hrm (by omega) (hkz6.rd)).mono ?_
        rintro e w8 ⟨k8, n8, ks8, A8, c8, p8, rfl, hl8, hs8, hp8, hk8, hr8, hg8⟩
        have g8 := grown_trans gm hg8
        have s8 := hg8.size
        have hZ8 := hZm.grown hg8 (by simp; omega)
        obtain ⟨d0, d1, d2⟩ := hZ8.three
        have e0 := hZ8.frozen 0
        have e1 := hZ8.frozen 1
        have e2 := hZ8.frozen 2
        go_wp2_with fail
        refine bodyPost_ret (v := .agg #[.int .i64 k8, .int .i64 n8, .slice A8 ks8.length c8]) (by simp [results, Try.results44, go_sem, d0, d1, d2]) rfl ⟨k8, n8, ks8, A8, c8, rfl, hl8, by omega, ?_, ?_⟩
        · exact (((hk8.setCell (by simp; omega) _).setCell (by simp; omega) _).setCell (by simp; omega) _).mono (fun b hb => by have h1 := hb.1; (try simp at h1); omega)
        · exact (((g1.trans (grown_below g8 (by omega) (by omega))).setCell (by simp) _).setCell (by simp) _).setCell (by simp) _
      · have q6 : 0 < m6 := by omega
        clear h6
        go_wp2_with fail
        refine name_calls ?_
        intro wm hwm
        have hZm : Blk wm w.heap.size #[.int .i64 0, .int .i64 0, .slice none 0 0] := by rw [hwm]; exact ((hZm0.far (by simp; omega) _).far (by simp; omega) _).far (by simp; omega) _
        have hrm : Rdr w1.heap.size wm r (pz + 1) := by rw [hwm]; exact ((hr6.setCell (by simp; omega) _).setCell (by simp; omega) _).setCell (by simp; omega) _
        have gm : w1.grownBy wm (some r) := by rw [hwm]; exact only_setCell (only_setCell (only_setCell g6 (.inr (by simp; omega)) _) (.inr (by simp; omega)) _) (.inr (by simp; omega)) _
        have hkm : RdP (fun b => wz.heap.size ≤ b) wm A5 0 ks5 := by rw [hwm]; exact ((hk66.setCell (by simp; omega) _).setCell (by simp; omega) _).setCell (by simp; omega) _
        have sm : w6.heap.size ≤ wm.heap.size := by rw [hwm]; simp
        clear hwm
        refine (mutate_any w1.heap.size r (pz + 1) k5 n5 ks5 A5 c5 _ (by omega) (by first | omega | (simp; omega)) hrm (by omega) (hkm.rd)).mono ?_
        rintro e w8 ⟨k8, n8, ks8, A8, c8, p8, rfl, hl8, hs8, hp8, hk8, hr8, hg8⟩
        have g8 := grown_trans gm hg8
        have s8 := hg8.size
        have hZ8 := hZm.grown hg8 (by simp; omega)
        obtain ⟨d0, d1, d2⟩ := hZ8.three
        have e0 := hZ8.frozen 0
        have e1 := hZ8.frozen 1
        have e2 := hZ8.frozen 2
        go_wp2_with fail
        refine bodyPost_ret (v := .agg #[.int .i64 k8, .int .i64 n8, .slice A8 ks8.length c8]) (by simp [results, Try.results44, go_sem, d0, d1, d2]) rfl ⟨k8, n8, ks8, A8, c8, rfl, hl8, by omega, ?_, ?_⟩
        · exact (((hk8.setCell (by simp; omega) _).setCell (by simp; omega) _).setCell (by simp; omega) _).mono (fun b hb => by have h1 := hb.1; (try simp at h1); omega)
        · exact (((g1.trans (grown_below g8 (by omega) (by omega))).setCell (by simp) _).setCell (by simp) _).setCell (by simp) _
    · have q0 : ((code : Int) == 0) = false := beq_eq_false_iff_ne.2 (by omega)
      obtain ⟨x0, x1, x2⟩ := hX5.three
      have hZm := hZ5
      have hrm := hr5
      have gm := g5
      go_wp2_with fail
      refine (mutate_any w1.heap.size r (pz) kz nz ksz Az cz _ (by omega) (by first | omega | (simp; omega)) hrm (by omega) (hkz5.rd)).mono ?_
      rintro e w8 ⟨k8, n8, ks8, A8, c8, p8, rfl, hl8, hs8, hp8, hk8, hr8, hg8⟩
      have g8 := grown_trans gm hg8
      have s8 := hg8.size
      have hZ8 := hZm.grown hg8 (by simp; omega)
      obtain ⟨d0, d1, d2⟩ := hZ8.three
      have e0 := hZ8.frozen 0
      have e1 := hZ8.frozen 1
      have e2 := hZ8.frozen 2
      go_wp2_with fail
      refine bodyPost_ret (v := .agg #[.int .i64 k8, .int .i64 n8, .slice A8 ks8.length c8]) (by simp [results, Try.results44, go_sem, d0, d1, d2]) rfl ⟨k8, n8, ks8, A8, c8, rfl, hl8, by omega, ?_, ?_⟩
      · exact (((hk8.setCell (by simp; omega) _).setCell (by simp; omega) _).setCell (by simp; omega) _).mono (fun b hb => by have h1 := hb.1; (try simp at h1); omega)
      · exact (((g1.trans (grown_below g8 (by omega) (by omega))).setCell (by simp) _).setCell (by simp) _).setCell (by simp) _
  · have q3 : ((m3 : Int) == 0) = false := beq_eq_false_iff_ne.2 (by omega)
    obtain ⟨x0, x1, x2⟩ := hX.three
    go_wp2_with fail
    refine name_calls ?_
    intro wz hwz
    obtain ⟨kz, nz, ksz, Az, cz, pz, hkk⟩ : ∃ kz nz ksz Az cz pz, kz = k ∧ nz = n ∧ ksz = ks ∧ Az = A2 ∧ cz = c2 ∧ pz = p2 + 1 := ⟨_, _, _, _, _, _, rfl, rfl, rfl, rfl, rfl, rfl⟩
    obtain ⟨rfl, rfl, rfl, rfl, rfl, hpz⟩ := hkk
    have hvz := hv2
    have hlz := hl2
    have hXz : Blk wz w2.heap.size #[.int .i64 kz, .int .i64 nz, .slice Az ksz.length cz] := by rw [hwz]; exact hX
    have hZz : Blk wz w.heap.size #[.int .i64 0, .int .i64 0, .slice none 0 0] := by rw [hwz]; exact hZ
    have hrz : Rdr w1.heap.size wz r pz := by rw [hwz, hpz]; exact hr3
    have gz : w1.grownBy wz (some r) := by rw [hwz]; exact g3
    have hkz : RdP (fun b => w1.heap.size ≤ b) wz Az 0 ksz := by rw [hwz]; exact (hk2.alloc _).grown hg3 (fun b hb => by simp; omega)
    have sz : w3.heap.size ≤ wz.heap.size := by rw [hwz]; exact Nat.le_refl _
    clear hwz x0 x1 x2
    refine (sNorm_any hC kz nz ksz Az cz 60 (by omega) _ hvz hlz hkz.rd).mono ?_
    rintro e w5 ⟨k5, n5, ks5, A5, c5, code, rfl, hcd, hl5, hs5, hv5, hk5, hb5⟩
    have hsz := validT_size' hvz
    have s5 := hb5.size
    have hX5 := (hXz.keep hb5).alloc (.cells #[.int .i64 k5, .int .i64 n5, .slice A5 ks5.length c5] 25)
    have hZ5 := (hZz.keep hb5).alloc (.cells #[.int .i64 k5, .int .i64 n5, .slice A5 ks5.length c5] 25)
    have hK5 := Blk.new_ w5 25 #[.int .i64 k5, .int .i64 n5, .slice A5 ks5.length c5] rfl
    have hr5 := (hrz.below hb5 (by omega)).alloc (by omega) (.cells #[.int .i64 k5, .int .i64 n5, .slice A5 ks5.length c5] 25)
    have g5 := only_alloc (only_below gz hb5) (.cells #[.int .i64 k5, .int .i64 n5, .slice A5 ks5.length c5] 25)
    have hkz5 := (hkz.below hb5).alloc (.cells #[.int .i64 k5, .int .i64 n5, .slice A5 ks5.length c5] 25)
    have hk55 := hk5.alloc (.cells #[.int .i64 k5, .int .i64 n5, .slice A5 ks5.length c5] 25)
    by_cases hc0 : code = 0
    · subst hc0
      obtain ⟨x0, x1, x2⟩ := hX5.three
      obtain ⟨y0, y1, y2⟩ := hK5.three
      go_wp2_with fail
      refine (pick_any w1.heap.size r pz 4 _ (by omega) (by omega) (by simp; omega) hr5).mono ?_
      rintro e w6 ⟨m6, rfl, hm6, hm60, hr6, hg6⟩
      clear hm6 hm60 x0 x1 x2 y0 y1 y2
      have s6 : w5.heap.size + 1 ≤ w6.heap.size := by have := hg6.size; simpa using this
      have hX6 := hX5.grown hg6 (by simp; omega)
      have hZm0 := hZ5.grown hg6 (by simp; omega)
      have hK6 := hK5.grown hg6 (by simp; omega)
      have g6 := grown_trans g5 hg6
      have hkz6 := hkz5.grown hg6 (fun b hb => by simp; omega)
      have hk66 := hk55.grown hg6 (fun b hb => by simp; omega)
      obtain ⟨x0, x1, x2⟩ := hX6.three
      obtain ⟨y0, y1, y2⟩ := hK6.three
      have z0 := hX6.frozen 0
      have z1 := hX6.frozen 1
      have z2 := hX6.frozen 2
      by_cases h6 : m6 = 0
      · have q6 : ¬ 0 < m6 := by omega
        clear h6
        have hZm := hZm0
        have hrm := hr6
        have gm := g6
        go_wp2_with fail
        refine (mutate_any w1.heap.size r (pz + 1) kz nz ksz Az cz _ (by omega) (by first | omega | (simp; omega)) hrm (by omega) (hkz6.rd)).mono ?_
        rintro e w8 ⟨k8, n8, ks8, A8, c8, p8, rfl, hl8, hs8, hp8, hk8, hr8, hg8⟩
        have g8 := grown_trans gm hg8
        have s8 := hg8.size
        have hZ8 := hZm.grown hg8 (by simp; omega)
        obtain ⟨d0, d1, d2⟩ := hZ8.three
        have e0 := hZ8.frozen 0
        have e1 := hZ8.frozen 1
        have e2 := hZ8.frozen 2
        go_wp2_with fail
        refine bodyPost_ret (v := .agg #[.int .i64 k8, .int .i64 n8, .slice A8 ks8.length c8]) (by simp [results, Try.results44, go_sem, d0, d1, d2]) rfl ⟨k8, n8, ks8, A8, c8, rfl, hl8, by omega, ?_, ?_⟩
        · exact (((hk8.setCell (by simp; omega) _).setCell (by simp; omega) _).setCell (by simp; omega) _).mono (fun b hb => by have h1 := hb.1; (try simp at h1); omega)
        · exact (((g1.trans (grown_below g8 (by omega) (by omega))).setCell (by simp) _).setCell (by simp) _).setCell (by simp) _
      · have q6 : 0 < m6 := by omega
        clear h6
        go_wp2_with fail
        refine name_calls ?_
        intro wm hwm
        have hZm : Blk wm w.heap.size #[.int .i64 0, .int .i64 0, .slice none 0 0] := by rw [hwm]; exact ((hZm0.far (by simp; omega) _).far (by simp; omega) _).far (by simp; omega) _
        have hrm : Rdr w1.heap.size wm r (pz + 1) := by rw [hwm]; exact ((hr6.setCell (by simp; omega) _).setCell (by simp; omega) _).setCell (by simp; omega) _
        have gm : w1.grownBy wm (some r) := by rw [hwm]; exact only_setCell (only_setCell (only_setCell g6 (.inr (by simp; omega)) _) (.inr (by simp; omega)) _) (.inr (by simp; omega)) _
        have hkm : RdP (fun b => wz.heap.size ≤ b) wm A5 0 ks5 := by rw [hwm]; exact ((hk66.setCell (by simp; omega) _).setCell (by simp; omega) _).setCell (by simp; omega) _
        have sm : w6.heap.size ≤ wm.heap.size := by rw [hwm]; simp
        clear hwm
        refine (mutate_any w1.heap.size r (pz + 1) k5 n5 ks5 A5 c5 _ (by omega) (by first | omega | (simp; omega)) hrm (by omega) (hkm.rd)).mono ?_
        rintro e w8 ⟨k8, n8, ks8, A8, c8, p8, rfl, hl8, hs8, hp8, hk8, hr8, hg8⟩
        have g8 := grown_trans gm hg8
        have s8 := hg8.size
        have hZ8 := hZm.grown hg8 (by simp; omega)
        obtain ⟨d0, d1, d2⟩ := hZ8.three
        have e0 := hZ8.frozen 0
        have e1 := hZ8.frozen 1
        have e2 := hZ8.frozen 2
        go_wp2_with fail
        refine bodyPost_ret (v := .agg #[.int .i64 k8, .int .i64 n8, .slice A8 ks8.length c8]) (by simp [results, Try.results44, go_sem, d0, d1, d2]) rfl ⟨k8, n8, ks8, A8, c8, rfl, hl8, by omega, ?_, ?_⟩
        · exact (((hk8.setCell (by simp; omega) _).setCell (by simp; omega) _).setCell (by simp; omega) _).mono (fun b hb => by have h1 := hb.1; (try simp at h1); omega)
        · exact (((g1.trans (grown_below g8 (by omega) (by omega))).setCell (by simp) _).setCell (by simp) _).setCell (by simp) _
    · have q0 : ((code : Int) == 0) = false := beq_eq_false_iff_ne.2 (by omega)
      obtain ⟨x0, x1, x2⟩ := hX5.three
      have hZm := hZ5
      have hrm := hr5
      have gm := g5
      go_wp2_with fail
      refine (mutate_any w1.heap.size r (pz) kz nz ksz Az cz _ (by omega) (by first | omega | (simp; omega)) hrm (by omega) (hkz5.rd)).mono ?_
      rintro e w8 ⟨k8, n8, ks8, A8, c8, p8, rfl, hl8, hs8, hp8, hk8, hr8, hg8⟩
      have g8 := grown_trans gm hg8
      have s8 := hg8.size
      have hZ8 := hZm.grown hg8 (by simp; omega)
      obtain ⟨d0, d1, d2⟩ := hZ8.three
      have e0 := hZ8.frozen 0
      have e1 := hZ8.frozen 1
      have e2 := hZ8.frozen 2
      go_wp2_with fail
      refine bodyPost_ret (v := .agg #[.int .i64 k8, .int .i64 n8, .slice A8 ks8.length c8]) (by simp [results, Try.results44, go_sem, d0, d1, d2]) rfl ⟨k8, n8, ks8, A8, c8, rfl, hl8, by omega, ?_, ?_⟩
      · exact (((hk8.setCell (by simp; omega) _).setCell (by simp; omega) _).setCell (by simp; omega) _).mono (fun b hb => by have h1 := hb.1; (try simp at h1); omega)
      · exact (((g1.trans (grown_below g8 (by omega) (by omega))).setCell (by simp) _).setCell (by simp) _).setCell (by simp) _

set_option maxHeartbeats 2000000 in
set_option maxRecDepth 100000 in
theorem drawTypeForm_any (hN : NatOk) (hC : Contract3) (bs : List Int) (A : Option Addr) (c : Nat) (w : World) (hl : bs.length ≤ 9223372036854775807) (hc : bs.length ≤ c) (hr : RdY w A bs) : Calls Try.prog 35 #[.slice A bs.length c] w (DrawnTP w) := by
  go_enter Try.func35, Try.ntmps35
  go_wp2_with (go_at_call 44; refine (drawForm_any hN hC bs A c _ hl hc (hr.keeps (.alloc _ _))).mono ?_; rintro e w1 ⟨k, n, ks, A1, c1, rfl, hl1, hs1, hr1, hb1⟩; have hZ := (Blk.new_ w 25 #[.int .i64 0, .int .i64 0, .slice none 0 0] rfl).keep hb1; obtain ⟨d0, d1, d2⟩ := hZ.three; have e0 := hZ.frozen 0; have e1 := hZ.frozen 1; have e2 := hZ.frozen 2; have g1 : Below w.heap.size w w1 := ((Below.refl _ _).alloc (Nat.le_refl _) _).trans (hb1.mono (by simp)))
  refine bodyPost_ret (v := .agg #[.int .i64 k, .int .i64 n, .slice A1 ks.length c1]) (by simp [results, Try.results35, go_sem, d0, d1, d2]) rfl ⟨k, n, ks, A1, c1, rfl, hl1, hs1, ?_, ?_⟩
  · exact (((hr1.setCell (by simp) _).setCell (by simp) _).setCell (by simp) _).mono (fun b hb => by simp at hb; omega)
  · exact ((g1.setCell (by simp) _).setCell (by simp) _).setCell (by simp) _
set_option maxHeartbeats 2000000 in
set_option maxRecDepth 100000 in
theorem drawNeutral_any (hN : NatOk) (hC : Contract3) (bs : List Int) (A : Option Addr) (c : Nat) (w : World) (hl : bs.length ≤ 9223372036854775807) (hc : bs.length ≤ c) (hr : RdY w A bs) : Calls Try.prog 42 #[.slice A bs.length c] w (DrawnTP w) := by
  go_enter Try.func42, Try.ntmps42
  go_wp2_with (go_at_call 44; refine (drawForm_any hN hC bs A c _ hl hc (hr.keeps (.alloc _ _))).mono ?_; rintro e w1 ⟨k, n, ks, A1, c1, rfl, hl1, hs1, hr1, hb1⟩; have hZ := (Blk.new_ w 25 #[.int .i64 0, .int .i64 0, .slice none 0 0] rfl).keep hb1; obtain ⟨d0, d1, d2⟩ := hZ.three; have e0 := hZ.frozen 0; have e1 := hZ.frozen 1; have e2 := hZ.frozen 2; have g1 : Below w.heap.size w w1 := ((Below.refl _ _).alloc (Nat.le_refl _) _).trans (hb1.mono (by simp)))
  refine bodyPost_ret (v := .agg #[.int .i64 k, .int .i64 n, .slice A1 ks.length c1]) (by simp [results, Try.results42, go_sem, d0, d1, d2]) rfl ⟨k, n, ks, A1, c1, rfl, hl1, hs1, ?_, ?_⟩
  · exact (((hr1.setCell (by simp) _).setCell (by simp) _).setCell (by simp) _).mono (fun b hb => by simp at hb; omega)
  · exact ((g1.setCell (by simp) _).setCell (by simp) _).setCell (by simp) _
end Go.Proofs.Ytodkenpmhhbppaa

namespace Go.Proofs.Ytodkenpmhhbppaa
open Go.RowKit
set_option linter.unusedSimpArgs false
set_option linter.unusedVariables false

theorem natOk : NatOk := by
  intro B r p n d w hn hd hp hB hr
  refine (nat_any 4 (Nat.le_refl 4) B r p n d w (by omega) (by omega) (by omega) (by omega) (by simp [NB]; omega) hB hr).mono ?_
  rintro e w' ⟨k, n, ks, A, c, p', he, hl, hs, hp', h1, h2, h3⟩
  simp [NB] at hs hp'
  exact ⟨k, n, ks, A, c, p', he, hl, by omega, by omega, h1, h2, h3⟩
end Go.Proofs.Ytodkenpmhhbppaa
