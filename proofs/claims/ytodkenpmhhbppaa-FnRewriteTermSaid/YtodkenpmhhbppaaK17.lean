/-
  Contracts of the functions that the law reaches, and plain lemmas. No condition.
-/
import Derived.Test.YtodkenpmhhbppaaK5
import Derived.Test.YtodkenpmhhbppaaK7
import Derived.Test.YtodkenpmhhbppaaK9
import Derived.Test.YtodkenpmhhbppaaK16
namespace Go.Proofs.Ytodkenpmhhbppaa
set_option linter.unusedSimpArgs false
set_option linter.unusedVariables false
open Go.RowKit
/-- how many numbers are asked for at most, and how large the term is at most, by the depth -/
def KD : Nat → Nat | 0 => 3 | d + 1 => 3 + 4 * KD d
def SD : Nat → Nat | 0 => 1 | d + 1 => 1 + 4 * SD d
theorem arity_le (k : Int) : arity k ≤ 4 ∧ -1 ≤ arity k := by unfold arity; repeat' split
                                                              all_goals omega
/-- a term that has been drawn -/
def DrawnT (B : Nat) (w : World) (r p q s D : Nat) (e : Ending) (w' : World) : Prop :=
  ∃ (k n : Int) (ks : List Tm) (A : Option Addr) (c p' : Nat), e = .returned (.agg #[.int .i64 k, .int .i64 n, .slice A ks.length c]) ∧ ks.length ≤ 9223372036854775807 ∧ sizes ks + 1 ≤ s ∧ hid D (.mk k n ks) = true ∧ p' ≤ p + q ∧ Fresh w.heap.size w' A ks ∧ Rdr B w' r p' ∧ w.grownBy w' (some r)
def DrawOk (d : Nat) : Prop := ∀ (B r p : Nat) (w : World), p + KD d ≤ 1000000000 → B ≤ w.heap.size → Rdr B w r p →
  Calls Try.prog 75 #[.pointer (some ⟨r, 0, none⟩), .int .i64 d] w (DrawnT B w r p (KD d) (SD d) (d + 1))
theorem Rdr.lt {B r p : Nat} {w : World} (h : Rdr B w r p) : r < B := by obtain ⟨_, _, _, _, _, h, _⟩ := h; exact h
theorem Rdr.alloc' {B r p : Nat} {w : World} (h : Rdr B w r p) (hB : B ≤ w.heap.size) (o : Obj) : Rdr B (w.alloc o) r p := h.alloc hB o
theorem kd_ge (d : Nat) : 3 ≤ KD d := by cases d <;> simp [KD]
theorem kd_big (d : Nat) : d ≤ KD d := by
  induction d with
  | zero => simp [KD]
  | succ d ih => rw [KD]; omega
theorem sd_pos (d : Nat) : 1 ≤ SD d := by cases d <;> simp [SD]
theorem low_kinds {x : Int} (h : x ∈ ([1, 7, 6, 2, 1] : List Int)) : arity x = 0 := by
  simp only [List.mem_cons, List.not_mem_nil, or_false] at h
  rcases h with rfl | rfl | rfl | rfl | rfl <;> decide
theorem high_kinds {x : Int} (h : x ∈ ([1, 5, 4, 8, 9, 3, 6, 7, 11, 15, 14, 10, 12, 13, 16, 2] : List Int)) : 0 ≤ arity x := by
  simp only [List.mem_cons, List.not_mem_nil, or_false] at h
  rcases h with rfl | rfl | rfl | rfl | rfl | rfl | rfl | rfl | rfl | rfl | rfl | rfl | rfl | rfl | rfl | rfl <;> decide
set_option maxHeartbeats 4000000 in
set_option maxRecDepth 100000 in
theorem draw_low (d : Nat) (hd : d < 2) : DrawOk d := by
  intro B r p w hp hB hr
  have hrl := hr.lt
  have hkd := kd_ge d
  have hsd := sd_pos d
  have hd2 : (d : Int) < 2 := by omega
  go_enter Try.func75, Try.ntmps75
  go_wp2_with (first | (go_at_call 76; refine (num_any [0, 1, 0, 2, 1, 3] B r (p + 1 + 1) (w2.heap.size + 1) _ (by decide) (by decide) (by omega) (by simp; omega) ((hr2.alloc (by omega) _).alloc (by simp; omega) _) (Blk.new_ _ 3 _ (by simp)) (by omega)).mono ?_; rintro e w3 ⟨nn, hn, rfl, hr3, hg3⟩; have hB63 : Blk w3 w2.heap.size #[.int .i64 x, .int .i64 0, .slice none 0 0] := ((Blk.new_ w2 25 #[.int .i64 x, .int .i64 0, .slice none 0 0] rfl).alloc _).grown hg3 (by simp; omega); have hZ3 := ((hZ2.alloc _).alloc _).grown hg3 (by simp; omega); have g3 : w.grownBy w3 (some r) := grown_trans (only_alloc (only_alloc g2 _) _) hg3; have s3 : w2.heap.size + 1 + 1 ≤ w3.heap.size := (by have := hg3.size; simpa using this); have c1 := hB63.at_ (i := 1) rfl; have f1 := hB63.frozen 1) | (go_at_call 118; refine (l1Most_any _ _).mono ?_; rintro e w9 ⟨rfl, rfl⟩) | (go_at_call 76; refine (num_any [1, 7, 6, 2, 1] B r (p + 1) w1.heap.size _ (by decide) (by decide) (by omega) (by simp; omega) (hr1.alloc (by omega) _) (Blk.new_ _ 3 _ rfl) (by omega)).mono ?_; rintro e w2 ⟨x, hx, rfl, hr2, hg2⟩; have hax := low_kinds hx; have hZ2 := (hZ1.alloc _).grown hg2 (by simp; omega); have g2 : w.grownBy w2 (some r) := grown_trans (only_alloc g1 _) hg2; have s2 : w1.heap.size + 1 ≤ w2.heap.size := (by have := hg2.size; simpa using this)) | (go_at_call 76; refine (num_any [1, 5, 4, 8, 9, 3, 6, 7, 11, 15, 14, 10, 12, 13, 16, 2] B r p (w.heap.size + 1) _ (by decide) (by decide) (by omega) (by simp; omega) ((hr.alloc (by omega) _).alloc (by simp; omega) _) (Blk.new_ _ 3 _ (by simp)) (by omega)).mono ?_; rintro e w1 ⟨x0, hx0, rfl, hr1, hg1⟩; have hax0 := high_kinds hx0; have hZ1 : Blk w1 w.heap.size #[.int .i64 0, .int .i64 0, .slice none 0 0] := (((Blk.new_ w 25 #[.int .i64 0, .int .i64 0, .slice none 0 0] rfl).alloc _)).grown hg1 (by simp; omega); have g1 : w.grownBy w1 (some r) := grown_trans (only_alloc (only_alloc (World.grownBy.refl _ _) _) _) hg1; have s1 : w.heap.size + 1 + 1 ≤ w1.heap.size := (by have := hg1.size; simpa using this)))
  · refine name_world ?_
    intro wz hwz
    have hB6 : Blk wz w2.heap.size #[.int .i64 x, .int .i64 nn, .slice none 0 0] := by rw [hwz]; exact hB63.set_ 1 _
    have hZ : Blk wz w.heap.size #[.int .i64 0, .int .i64 0, .slice none 0 0] := by rw [hwz]; exact hZ3.far (by simp; omega) _
    have hRz : Rdr B wz r (p + 1 + 1 + 1) := by rw [hwz]; exact hr3.setCell (by simp; omega) _
    have hgz : w.grownBy wz (some r) := by rw [hwz]; exact only_setCell g3 (.inr (by simp; omega)) _
    have hs6 : w2.heap.size < wz.heap.size := hB6.lt
    clear hwz
    go_loopw [7] (fun i wr => ∃ (j p' : Nat) (ts : List Tm) (v : Value), (j : Int) ≤ arity x ∧ i = .int .i64 j ∧ ts.length = j ∧ sizes ts ≤ j * 0 ∧ ts.all (hid d) = true ∧ p' ≤ p + 3 + j * 0 ∧ Part (w2.heap.size + 1) wr v ts ∧ Blk wr w2.heap.size #[.int .i64 x, .int .i64 nn, v] ∧ Blk wr w.heap.size #[.int .i64 0, .int .i64 0, .slice none 0 0] ∧ Rdr B wr r p' ∧ w.grownBy wr (some r)) (fun i _ => (arity x - intOf i).toNat)
    case atStart => exact ⟨0, _, [], _, by omega, rfl, rfl, by simp [sizes], rfl, by omega, Part.nil, hB6, hZ, hRz, hgz⟩
    case round =>
      obtain ⟨j, p', ts, v, hj, rfl, htl0, hts, h3s0, hp', hpt, hB3, hZr, hRr, hgr⟩ := hrel
      have h3s := hide h3s0
      clear h3s0
      have htl := hide htl0
      clear htl0
      by_cases hlt : (j : Int) < arity x
      · exact absurd hlt (by omega)
      · have hje : (j : Int) = arity x := by omega
        obtain ⟨Ar, cr, rfl, hfr⟩ := hpt.fresh
        obtain ⟨c0, c1, c2⟩ := hB3.three
        obtain ⟨z0, z1, z2⟩ := hZr.three
        have e0 := hZr.frozen 0
        have e1 := hZr.frozen 1
        have e2 := hZr.frozen 2
        have hw0 : w.heap.size < wr.heap.size := hZr.lt
        have hne : r ≠ w.heap.size := by omega
        have hj4 : j ≤ 4 := by have := arity_le x; omega
        have hfin : Hid (sizes ts + 1 ≤ SD d ∧ p' ≤ p + KD d) := ⟨by omega, by omega⟩
        go_wp2_with (go_at_call 119; refine (l1Kids_any _ _).mono ?_; rintro e w9 ⟨rfl, rfl⟩)
        refine bodyPost_ret (v := .agg #[.int .i64 x, .int .i64 nn, .slice Ar ts.length cr]) (by simp [results, Try.results75, go_sem, z0, z1, z2]) rfl ⟨x, nn, ts, Ar, cr, p', rfl, by have := htl.out; omega, hfin.out.1, (by rw [hid, h3s.out, Bool.and_true]; exact decide_eq_true (by first | omega | (simp only [List.mem_cons, List.not_mem_nil, or_false] at hn; omega))), hfin.out.2, ?_, ?_, ?_⟩
        · exact (((hfr.setCell (by simp; omega) _).setCell (by simp; omega) _).setCell (by simp; omega) _).mono (by omega)
        · exact ((hRr.setCell (by simp; omega) _).setCell (by simp; omega) _).setCell (by simp; omega) _
        · exact only_setCell (only_setCell (only_setCell hgr (.inr (by simp)) _) (.inr (by simp)) _) (.inr (by simp)) _
  · refine name_world ?_
    intro wz hwz
    have hB6 : Blk wz w2.heap.size #[.int .i64 x, .int .i64 0, .slice none 0 0] := by rw [hwz]; exact Blk.new_ _ _ _ rfl
    have hZ : Blk wz w.heap.size #[.int .i64 0, .int .i64 0, .slice none 0 0] := by rw [hwz]; exact hZ2.alloc _
    have hRz : Rdr B wz r (p + 1 + 1) := by rw [hwz]; exact hr2.alloc (by omega) _
    have hgz : w.grownBy wz (some r) := by rw [hwz]; exact only_alloc g2 _
    have hs6 : w2.heap.size < wz.heap.size := hB6.lt
    clear hwz
    go_loopw [7] (fun i wr => ∃ (j p' : Nat) (ts : List Tm) (v : Value), (j : Int) ≤ arity x ∧ i = .int .i64 j ∧ ts.length = j ∧ sizes ts ≤ j * 0 ∧ ts.all (hid d) = true ∧ p' ≤ p + 3 + j * 0 ∧ Part (w2.heap.size + 1) wr v ts ∧ Blk wr w2.heap.size #[.int .i64 x, .int .i64 0, v] ∧ Blk wr w.heap.size #[.int .i64 0, .int .i64 0, .slice none 0 0] ∧ Rdr B wr r p' ∧ w.grownBy wr (some r)) (fun i _ => (arity x - intOf i).toNat)
    case atStart => exact ⟨0, _, [], _, by omega, rfl, rfl, by simp [sizes], rfl, by omega, Part.nil, hB6, hZ, hRz, hgz⟩
    case round =>
      obtain ⟨j, p', ts, v, hj, rfl, htl0, hts, h3s0, hp', hpt, hB3, hZr, hRr, hgr⟩ := hrel
      have h3s := hide h3s0
      clear h3s0
      have htl := hide htl0
      clear htl0
      by_cases hlt : (j : Int) < arity x
      · exact absurd hlt (by omega)
      · have hje : (j : Int) = arity x := by omega
        obtain ⟨Ar, cr, rfl, hfr⟩ := hpt.fresh
        obtain ⟨c0, c1, c2⟩ := hB3.three
        obtain ⟨z0, z1, z2⟩ := hZr.three
        have e0 := hZr.frozen 0
        have e1 := hZr.frozen 1
        have e2 := hZr.frozen 2
        have hw0 : w.heap.size < wr.heap.size := hZr.lt
        have hne : r ≠ w.heap.size := by omega
        have hj4 : j ≤ 4 := by have := arity_le x; omega
        have hfin : Hid (sizes ts + 1 ≤ SD d ∧ p' ≤ p + KD d) := ⟨by omega, by omega⟩
        go_wp2_with (go_at_call 119; refine (l1Kids_any _ _).mono ?_; rintro e w9 ⟨rfl, rfl⟩)
        refine bodyPost_ret (v := .agg #[.int .i64 x, .int .i64 0, .slice Ar ts.length cr]) (by simp [results, Try.results75, go_sem, z0, z1, z2]) rfl ⟨x, 0, ts, Ar, cr, p', rfl, by have := htl.out; omega, hfin.out.1, (by rw [hid, h3s.out, Bool.and_true]; exact decide_eq_true (by first | omega | (simp only [List.mem_cons, List.not_mem_nil, or_false] at hn; omega))), hfin.out.2, ?_, ?_, ?_⟩
        · exact (((hfr.setCell (by simp; omega) _).setCell (by simp; omega) _).setCell (by simp; omega) _).mono (by omega)
        · exact ((hRr.setCell (by simp; omega) _).setCell (by simp; omega) _).setCell (by simp; omega) _
        · exact only_setCell (only_setCell (only_setCell hgr (.inr (by simp)) _) (.inr (by simp)) _) (.inr (by simp)) _
set_option maxHeartbeats 4000000 in
set_option maxRecDepth 100000 in
theorem draw_high (d : Nat) (hd : 1 ≤ d) (ih : DrawOk d) : DrawOk (d + 1) := by
  intro B r p w hp hB hr
  have ihx : ∀ (B r p : Nat) (w : World), p + KD d ≤ 1000000000 → B ≤ w.heap.size → Rdr B w r p → Calls Try.prog 75 #[.pointer (some ⟨r, 0, none⟩), .int .i64 d] w (DrawnT B w r p (KD d) (SD d) (d + 1)) := ih
  have hrl := hr.lt
  have hkd := kd_ge d
  have hkd1 : KD (d + 1) = 3 + 4 * KD d := rfl
  have hkd2 := hide hkd1
  rw [hkd1] at hp
  clear hkd1
  have hd2 : ¬ ((d : Int) + 1 < 2) := by omega
  have hd3 : d ≤ KD d := kd_big d
  have k1 : IntKind.i64.wrap ((d : Int) + 1 - 1) = d := by rw [IntWalk.i64_in _ (by omega)]; omega
  have k2 : IntKind.i64.wrap (d : Int) = d := IntWalk.i64_in _ (by omega)
  have k3 : wrap64 ((d : Int) + 1 - 1) = d := by rw [IntWalk.wrap64_in _ (by omega)]; omega
  have k4 : wrap64 (d : Int) = d := IntWalk.wrap64_in _ (by omega)
  go_enter Try.func75, Try.ntmps75
  go_wp2_with (first | (go_at_call 76; refine (num_any [0, 1, 0, 2, 1, 3] B r (p + 1) (w1.heap.size + 1) _ (by decide) (by decide) (by omega) (by simp; omega) ((hr1.alloc (by omega) _).alloc (by simp; omega) _) (Blk.new_ _ 3 _ (by simp)) (by omega)).mono ?_; rintro e w3 ⟨nn, hn, rfl, hr3, hg3⟩; have hB63 : Blk w3 w1.heap.size #[.int .i64 x, .int .i64 0, .slice none 0 0] := ((Blk.new_ w1 25 #[.int .i64 x, .int .i64 0, .slice none 0 0] rfl).alloc _).grown hg3 (by simp; omega); have hZ3 := ((hZ1.alloc _).alloc _).grown hg3 (by simp; omega); have g3 : w.grownBy w3 (some r) := grown_trans (only_alloc (only_alloc g1 _) _) hg3; have s3 : w1.heap.size + 1 + 1 ≤ w3.heap.size := (by have := hg3.size; simpa using this); have c1 := hB63.at_ (i := 1) rfl; have f1 := hB63.frozen 1) | (go_at_call 118; refine (l1Most_any _ _).mono ?_; rintro e w9 ⟨rfl, rfl⟩) | (go_at_call 76; refine (num_any [1, 5, 4, 8, 9, 3, 6, 7, 11, 15, 14, 10, 12, 13, 16, 2] B r p (w.heap.size + 1) _ (by decide) (by decide) (by omega) (by simp; omega) ((hr.alloc (by omega) _).alloc (by simp; omega) _) (Blk.new_ _ 3 _ (by simp)) (by omega)).mono ?_; rintro e w1 ⟨x, hx0, rfl, hr1, hg1⟩; have hax0 := high_kinds hx0; have hZ1 : Blk w1 w.heap.size #[.int .i64 0, .int .i64 0, .slice none 0 0] := (((Blk.new_ w 25 #[.int .i64 0, .int .i64 0, .slice none 0 0] rfl).alloc _)).grown hg1 (by simp; omega); have g1 : w.grownBy w1 (some r) := grown_trans (only_alloc (only_alloc (World.grownBy.refl _ _) _) _) hg1; have s1 : w.heap.size + 1 + 1 ≤ w1.heap.size := (by have := hg1.size; simpa using this)))
  · refine name_world ?_
    intro wz hwz
    have hB6 : Blk wz w1.heap.size #[.int .i64 x, .int .i64 nn, .slice none 0 0] := by rw [hwz]; exact hB63.set_ 1 _
    have hZ : Blk wz w.heap.size #[.int .i64 0, .int .i64 0, .slice none 0 0] := by rw [hwz]; exact hZ3.far (by simp; omega) _
    have hRz : Rdr B wz r (p + 1 + 1) := by rw [hwz]; exact hr3.setCell (by simp; omega) _
    have hgz : w.grownBy wz (some r) := by rw [hwz]; exact only_setCell g3 (.inr (by simp; omega)) _
    have hs6 : w1.heap.size < wz.heap.size := hB6.lt
    clear hwz
    go_loopw [7] (fun i wr => ∃ (j p' : Nat) (ts : List Tm) (v : Value), (j : Int) ≤ arity x ∧ i = .int .i64 j ∧ ts.length = j ∧ sizes ts ≤ j * SD d ∧ ts.all (hid (d + 1)) = true ∧ p' ≤ p + 3 + j * KD d ∧ Part (w1.heap.size + 1) wr v ts ∧ Blk wr w1.heap.size #[.int .i64 x, .int .i64 nn, v] ∧ Blk wr w.heap.size #[.int .i64 0, .int .i64 0, .slice none 0 0] ∧ Rdr B wr r p' ∧ w.grownBy wr (some r)) (fun i _ => (arity x - intOf i).toNat)
    case atStart => exact ⟨0, _, [], _, by omega, rfl, rfl, by simp [sizes], rfl, by omega, Part.nil, hB6, hZ, hRz, hgz⟩
    case round =>
      obtain ⟨j, p', ts, v, hj, rfl, htl0, hts, h3s0, hp', hpt, hB3, hZr, hRr, hgr⟩ := hrel
      have h3s := hide h3s0
      clear h3s0
      have htl := hide htl0
      clear htl0
      by_cases hlt : (j : Int) < arity x
      · have hun := hide hlt
        have hj5 : j ≤ 4 := by have := arity_le x; omega
        have hB3l := hB3.lt
        have c2 := hB3.at_ (i := 2) rfl
        go_wp2_with (go_at_call 119; refine (l1Kids_any _ _).mono ?_; rintro e w9 ⟨rfl, rfl⟩)
        have x2 := hB3.ruleG (g := r) (by omega) (i := 2) rfl
        have hsr := hgr.size
        refine wp_region_firstY (fun w' => wr.grownBy w' (some r)) [0, 1, 2, 3, 4] [5, 6] [7, 8, 9] [_, _, _, _, _] [_, _] [_, _, _] (by kernel_rfl) (by kernel_rfl) rfl rfl rfl (fun _ _ d _ _ h => by cases d <;> exact h) (only_drew (World.grownBy.refl _ _)) ?_
        repeat (first | ((refine takeY_skip (a' := ?_) ?_ ?_ ?_); (rotate_left); (· (simp [Region.wanted, yielded]; done)); (· (simp only [List.getElem_toArray, List.getElem_cons_zero, List.getElem_cons_succ, Act.put, List.setIfInBounds_toArray, List.set_cons_zero, List.set_cons_succ]; exact rfl))) | ((refine takeY_step (v := ?_) (a' := ?_) ?_ ?_ ?_ ?_); (rotate_left 2); (· (simp [Region.wanted, yielded]; done)); (· (intro w' hS'; go_simp; try (with_reducible rfl))); (· (simp only [List.getElem_toArray, List.getElem_cons_zero, List.getElem_cons_succ, Act.put, List.setIfInBounds_toArray, List.set_cons_zero, List.set_cons_succ]; exact rfl))))
        refine takeY_nil (then_cons ?_)
        go_wp2_with (go_at_call 75; (with_reducible refine (ihx B r p' _ (by have := Nat.mul_le_mul_right (KD d) (show j ≤ 3 by have := arity_le x; omega); omega) (by simp; omega) hRr.drew).mono ?_); rintro e wq ⟨kq, nq, ksq, Aq, cq, pq, rfl, hlq, hsq, h3q, hqq, hfq, hRq, hgq⟩)
        have hxq : wr.grownBy wq (some r) := grown_trans (only_drew (World.grownBy.refl _ _)) hgq
        have hwq : wr.heap.size ≤ wq.heap.size := hxq.size
        refine mid_intro hxq (then_cons ?_)
        go_wp2_with fail
        refine mid_intro (only_alloc hxq _) (then_nil ?_)
        refine wpList_append_builtG (B := w1.heap.size + 1) (m := j) hpt.drew (fun b h1 h2 => hgq.block b h2 (by simp; omega)) hwq (by simp; omega) hfq hlq htl.out (by have := arity_le x; omega) rfl (.tmp 32) (.tmp 37) rfl rfl rfl ?_
        intro A2 c2' w2 hp2 hb2 hg2
        have q3 : Blk w2 w1.heap.size #[.int .i64 x, .int .i64 nn, v] := (hB3.grown hxq (by simp; omega)).below hb2 (by omega)
        have q2 : Blk w2 w.heap.size #[.int .i64 0, .int .i64 0, .slice none 0 0] := (hZr.grown hxq (by simp; omega)).below hb2 (by omega)
        have qR := hRq.below hb2 (by omega)
        have d2 : w2.cell? ⟨w1.heap.size, 2, none⟩ = some v := q3.at_ rfl
        have z3 := q3.frozen 2
        have hgf : w.grownBy w2 (some r) := only_belowB (grown_trans hgr hxq) hb2 (by omega)
        clear x2 c2
        go_wp2_with fail
        go_roundw
        case rel =>
          refine ⟨j + 1, pq, ts ++ [.mk kq nq ksq], _, by omega, by go_num, by simp [htl.out], ?_, (by rw [List.all_append, h3s.out, List.all_cons, h3q]; rfl), ?_, hp2.setCell (by simp) _, q3.set_ 2 _, q2.far (by simp; omega) _, qR.setCell (by simp; omega) _, only_setCell hgf (.inr (by simp; omega)) _⟩
          · rw [sizes_append]; simp only [sizes, Tm.size]; rw [Nat.succ_mul]; omega
          · rw [Nat.succ_mul]; omega
        case measure => simp [intOf]; omega
      · have hje : (j : Int) = arity x := by omega
        obtain ⟨Ar, cr, rfl, hfr⟩ := hpt.fresh
        obtain ⟨c0, c1, c2⟩ := hB3.three
        obtain ⟨z0, z1, z2⟩ := hZr.three
        have e0 := hZr.frozen 0
        have e1 := hZr.frozen 1
        have e2 := hZr.frozen 2
        have hw0 : w.heap.size < wr.heap.size := hZr.lt
        have hne : r ≠ w.heap.size := by omega
        have hj4 : j ≤ 4 := by have := arity_le x; omega
        have hfin : Hid (sizes ts + 1 ≤ SD (d + 1) ∧ p' ≤ p + KD (d + 1)) := ⟨by rw [SD]; have := Nat.mul_le_mul_right (SD d) hj4; omega, by rw [KD]; have := Nat.mul_le_mul_right (KD d) hj4; omega⟩
        go_wp2_with (go_at_call 119; refine (l1Kids_any _ _).mono ?_; rintro e w9 ⟨rfl, rfl⟩)
        refine bodyPost_ret (v := .agg #[.int .i64 x, .int .i64 nn, .slice Ar ts.length cr]) (by simp [results, Try.results75, go_sem, z0, z1, z2]) rfl ⟨x, nn, ts, Ar, cr, p', rfl, by have := htl.out; omega, hfin.out.1, (by rw [hid, h3s.out, Bool.and_true]; exact decide_eq_true (by first | omega | (simp only [List.mem_cons, List.not_mem_nil, or_false] at hn; omega))), hfin.out.2, ?_, ?_, ?_⟩
        · exact (((hfr.setCell (by simp; omega) _).setCell (by simp; omega) _).setCell (by simp; omega) _).mono (by omega)
        · exact ((hRr.setCell (by simp; omega) _).setCell (by simp; omega) _).setCell (by simp; omega) _
        · exact only_setCell (only_setCell (only_setCell hgr (.inr (by simp)) _) (.inr (by simp)) _) (.inr (by simp)) _
  · refine name_world ?_
    intro wz hwz
    have hB6 : Blk wz w1.heap.size #[.int .i64 x, .int .i64 0, .slice none 0 0] := by rw [hwz]; exact Blk.new_ _ _ _ rfl
    have hZ : Blk wz w.heap.size #[.int .i64 0, .int .i64 0, .slice none 0 0] := by rw [hwz]; exact hZ1.alloc _
    have hRz : Rdr B wz r (p + 1) := by rw [hwz]; exact hr1.alloc (by omega) _
    have hgz : w.grownBy wz (some r) := by rw [hwz]; exact only_alloc g1 _
    have hs6 : w1.heap.size < wz.heap.size := hB6.lt
    clear hwz
    go_loopw [7] (fun i wr => ∃ (j p' : Nat) (ts : List Tm) (v : Value), (j : Int) ≤ arity x ∧ i = .int .i64 j ∧ ts.length = j ∧ sizes ts ≤ j * SD d ∧ ts.all (hid (d + 1)) = true ∧ p' ≤ p + 3 + j * KD d ∧ Part (w1.heap.size + 1) wr v ts ∧ Blk wr w1.heap.size #[.int .i64 x, .int .i64 0, v] ∧ Blk wr w.heap.size #[.int .i64 0, .int .i64 0, .slice none 0 0] ∧ Rdr B wr r p' ∧ w.grownBy wr (some r)) (fun i _ => (arity x - intOf i).toNat)
    case atStart => exact ⟨0, _, [], _, by omega, rfl, rfl, by simp [sizes], rfl, by omega, Part.nil, hB6, hZ, hRz, hgz⟩
    case round =>
      obtain ⟨j, p', ts, v, hj, rfl, htl0, hts, h3s0, hp', hpt, hB3, hZr, hRr, hgr⟩ := hrel
      have h3s := hide h3s0
      clear h3s0
      have htl := hide htl0
      clear htl0
      by_cases hlt : (j : Int) < arity x
      · have hun := hide hlt
        have hj5 : j ≤ 4 := by have := arity_le x; omega
        have hB3l := hB3.lt
        have c2 := hB3.at_ (i := 2) rfl
        go_wp2_with (go_at_call 119; refine (l1Kids_any _ _).mono ?_; rintro e w9 ⟨rfl, rfl⟩)
        have x2 := hB3.ruleG (g := r) (by omega) (i := 2) rfl
        have hsr := hgr.size
        refine wp_region_firstY (fun w' => wr.grownBy w' (some r)) [0, 1, 2, 3, 4] [5, 6] [7, 8, 9] [_, _, _, _, _] [_, _] [_, _, _] (by kernel_rfl) (by kernel_rfl) rfl rfl rfl (fun _ _ d _ _ h => by cases d <;> exact h) (only_drew (World.grownBy.refl _ _)) ?_
        repeat (first | ((refine takeY_skip (a' := ?_) ?_ ?_ ?_); (rotate_left); (· (simp [Region.wanted, yielded]; done)); (· (simp only [List.getElem_toArray, List.getElem_cons_zero, List.getElem_cons_succ, Act.put, List.setIfInBounds_toArray, List.set_cons_zero, List.set_cons_succ]; exact rfl))) | ((refine takeY_step (v := ?_) (a' := ?_) ?_ ?_ ?_ ?_); (rotate_left 2); (· (simp [Region.wanted, yielded]; done)); (· (intro w' hS'; go_simp; try (with_reducible rfl))); (· (simp only [List.getElem_toArray, List.getElem_cons_zero, List.getElem_cons_succ, Act.put, List.setIfInBounds_toArray, List.set_cons_zero, List.set_cons_succ]; exact rfl))))
        refine takeY_nil (then_cons ?_)
        go_wp2_with (go_at_call 75; (with_reducible refine (ihx B r p' _ (by have := Nat.mul_le_mul_right (KD d) (show j ≤ 3 by have := arity_le x; omega); omega) (by simp; omega) hRr.drew).mono ?_); rintro e wq ⟨kq, nq, ksq, Aq, cq, pq, rfl, hlq, hsq, h3q, hqq, hfq, hRq, hgq⟩)
        have hxq : wr.grownBy wq (some r) := grown_trans (only_drew (World.grownBy.refl _ _)) hgq
        have hwq : wr.heap.size ≤ wq.heap.size := hxq.size
        refine mid_intro hxq (then_cons ?_)
        go_wp2_with fail
        refine mid_intro (only_alloc hxq _) (then_nil ?_)
        refine wpList_append_builtG (B := w1.heap.size + 1) (m := j) hpt.drew (fun b h1 h2 => hgq.block b h2 (by simp; omega)) hwq (by simp; omega) hfq hlq htl.out (by have := arity_le x; omega) rfl (.tmp 32) (.tmp 37) rfl rfl rfl ?_
        intro A2 c2' w2 hp2 hb2 hg2
        have q3 : Blk w2 w1.heap.size #[.int .i64 x, .int .i64 0, v] := (hB3.grown hxq (by simp; omega)).below hb2 (by omega)
        have q2 : Blk w2 w.heap.size #[.int .i64 0, .int .i64 0, .slice none 0 0] := (hZr.grown hxq (by simp; omega)).below hb2 (by omega)
        have qR := hRq.below hb2 (by omega)
        have d2 : w2.cell? ⟨w1.heap.size, 2, none⟩ = some v := q3.at_ rfl
        have z3 := q3.frozen 2
        have hgf : w.grownBy w2 (some r) := only_belowB (grown_trans hgr hxq) hb2 (by omega)
        clear x2 c2
        go_wp2_with fail
        go_roundw
        case rel =>
          refine ⟨j + 1, pq, ts ++ [.mk kq nq ksq], _, by omega, by go_num, by simp [htl.out], ?_, (by rw [List.all_append, h3s.out, List.all_cons, h3q]; rfl), ?_, hp2.setCell (by simp) _, q3.set_ 2 _, q2.far (by simp; omega) _, qR.setCell (by simp; omega) _, only_setCell hgf (.inr (by simp; omega)) _⟩
          · rw [sizes_append]; simp only [sizes, Tm.size]; rw [Nat.succ_mul]; omega
          · rw [Nat.succ_mul]; omega
        case measure => simp [intOf]; omega
      · have hje : (j : Int) = arity x := by omega
        obtain ⟨Ar, cr, rfl, hfr⟩ := hpt.fresh
        obtain ⟨c0, c1, c2⟩ := hB3.three
        obtain ⟨z0, z1, z2⟩ := hZr.three
        have e0 := hZr.frozen 0
        have e1 := hZr.frozen 1
        have e2 := hZr.frozen 2
        have hw0 : w.heap.size < wr.heap.size := hZr.lt
        have hne : r ≠ w.heap.size := by omega
        have hj4 : j ≤ 4 := by have := arity_le x; omega
        have hfin : Hid (sizes ts + 1 ≤ SD (d + 1) ∧ p' ≤ p + KD (d + 1)) := ⟨by rw [SD]; have := Nat.mul_le_mul_right (SD d) hj4; omega, by rw [KD]; have := Nat.mul_le_mul_right (KD d) hj4; omega⟩
        go_wp2_with (go_at_call 119; refine (l1Kids_any _ _).mono ?_; rintro e w9 ⟨rfl, rfl⟩)
        refine bodyPost_ret (v := .agg #[.int .i64 x, .int .i64 0, .slice Ar ts.length cr]) (by simp [results, Try.results75, go_sem, z0, z1, z2]) rfl ⟨x, 0, ts, Ar, cr, p', rfl, by have := htl.out; omega, hfin.out.1, (by rw [hid, h3s.out, Bool.and_true]; exact decide_eq_true (by first | omega | (simp only [List.mem_cons, List.not_mem_nil, or_false] at hn; omega))), hfin.out.2, ?_, ?_, ?_⟩
        · exact (((hfr.setCell (by simp; omega) _).setCell (by simp; omega) _).setCell (by simp; omega) _).mono (by omega)
        · exact ((hRr.setCell (by simp; omega) _).setCell (by simp; omega) _).setCell (by simp; omega) _
        · exact only_setCell (only_setCell (only_setCell hgr (.inr (by simp)) _) (.inr (by simp)) _) (.inr (by simp)) _
theorem draw_any (d : Nat) : DrawOk d := by
  induction d with
  | zero => exact draw_low 0 (by omega)
  | succ d ih =>
    by_cases h : d = 0
    · subst h; exact draw_low 1 (by omega)
    · exact draw_high d (by omega) ih
open Go.RowKit
theorem own_rdp {w : World} {P : Nat → Prop} : (∀ t xs fp, OwT w t xs fp → (∀ b, b ∈ fp → P b) → ∀ g off i, P g → (∀ j u, xs[j]? = some u → w.cell? ⟨g, off + i * 3 + j, none⟩ = some u) → RdPC P w g off i t) ∧
    (∀ ts xs fp, OwX w ts xs fp → (∀ b, b ∈ fp → P b) → ∀ g off i, P g → (∀ j u, xs[j]? = some u → w.cell? ⟨g, off + i * 3 + j, none⟩ = some u) → RdP P w (some ⟨g, off, none⟩) i ts) := by
  refine Tm.ind2 (fun k n ks ih xs fp h hP g off i hg hc => ?_) (fun xs fp h hP g off i hg hc => RdP.nil) (fun t ts h1 h2 xs fp h hP g off i hg hc => ?_)
  · obtain ⟨A, c, rfl, hl, h⟩ := OwT.iff.1 h
    refine RdPC.iff.2 ⟨hg, hc 0 _ rfl, hc 1 _ rfl, A, c, hc 2 _ rfl, hl, ?_⟩
    rcases h with ⟨rfl, rfl⟩ | ⟨g', cur, e, f, hne, rfl, hg', rfl, hx⟩
    · exact RdP.nil
    · refine ih _ _ hx (fun b hb => hP b (by simp [hb])) g' 0 0 (hP g' (by simp)) fun j u hu => ?_
      have e0 : 0 + 0 * 3 + j = j := by omega
      rw [e0, cell_of_row w g' j cur e (0, 0) hg']
      rw [List.getElem?_take] at hu
      split at hu
      · simpa using hu
      · cases hu
  · obtain ⟨x1, x2, f1, f2, rfl, rfl, ht, hx⟩ := OwX.cons_iff.1 h
    have hl := ht.length
    refine RdP.cons_iff.2 ⟨⟨g, off, rfl, h1 _ _ ht (fun b hb => hP b (by simp [hb])) g off i hg fun j u hu => hc j u ?_⟩, h2 _ _ hx (fun b hb => hP b (by simp [hb])) g off (i + 1) hg fun j u hu => ?_⟩
    · rw [List.getElem?_append_left (by have := (List.getElem?_eq_some_iff.1 hu).1; omega)]; exact hu
    · have := hc (3 + j) u (by rw [List.getElem?_append_right (by omega), hl]; simpa using hu)
      rw [show off + (i + 1) * 3 + j = off + i * 3 + (3 + j) from by omega]; exact this
/-- what lies in blocks of its own lies in blocks from B on that are there -/
theorem Fresh.rdp {B : Nat} {w : World} {A : Option Addr} {ks : List Tm} (h : Fresh B w A ks) : RdP (fun b => B ≤ b ∧ b < w.heap.size) w A 0 ks := by
  obtain ⟨fp, h, hn, hge⟩ := h
  have hlt := h.lt
  rcases h with ⟨rfl, rfl⟩ | ⟨g, cur, e, f, hne, rfl, hg, rfl, hx⟩
  · exact RdP.nil
  · refine own_rdp.2 _ _ _ hx (fun b hb => ⟨hge b (by simp [hb]), hlt b (by simp [hb])⟩) g 0 0 ⟨hge g (by simp), hlt g (by simp)⟩ fun j u hu => ?_
    have e0 : 0 + 0 * 3 + j = j := by omega
    rw [e0, cell_of_row w g j cur e (0, 0) hg]
    rw [List.getElem?_take] at hu
    split at hu
    · simpa using hu
    · cases hu
theorem kd4 {d : Nat} (h : d ≤ 4) : KD d ≤ 1023 ∧ SD d ≤ 341 := by
  have : d = 0 ∨ d = 1 ∨ d = 2 ∨ d = 3 ∨ d = 4 := by omega
  rcases this with rfl | rfl | rfl | rfl | rfl <;> decide
theorem any_depth {x : Int} (h : x ∈ ([3, 4, 2, 3, 1] : List Int)) : ∃ d : Nat, x = d ∧ d ≤ 4 := by
  simp only [List.mem_cons, List.not_mem_nil, or_false] at h
  rcases h with rfl | rfl | rfl | rfl | rfl
  · exact ⟨3, rfl, by omega⟩
  · exact ⟨4, rfl, by omega⟩
  · exact ⟨2, rfl, by omega⟩
  · exact ⟨3, rfl, by omega⟩
  · exact ⟨1, rfl, by omega⟩
set_option maxHeartbeats 4000000 in
set_option maxRecDepth 100000 in
theorem any_any (B r p : Nat) (w : World) (hp : p ≤ 900000000) (hB : B ≤ w.heap.size) (hr : Rdr B w r p) : Calls Try.prog 53 #[.pointer (some ⟨r, 0, none⟩)] w (DrawnT B w r p 1024 341 5) := by
  have hrl := hr.lt
  go_enter Try.func53, Try.ntmps53
  go_wp2_with (first
    | (go_at_call 98; refine (sLeaf_any _ _ _).mono ?_; rintro e w5 ⟨rfl, hb5⟩; have tok : True := trivial; replace hZ := hZ.keep hb5; have d0 := hZ.at_ (i := 0) rfl; have d1 := hZ.at_ (i := 1) rfl; have d2 := hZ.at_ (i := 2) rfl; have e0 := hZ.frozen 0; have e1 := hZ.frozen 1; have e2 := hZ.frozen 2)
    | (go_at_call 60; refine (sTermValid_any k n ks A c _ (by omega) (hf.rd.alloc _)).mono ?_; rintro e w4 ⟨rfl, hb4⟩; have hX := (Blk.new_ w2 25 #[.int .i64 k, .int .i64 n, .slice A ks.length c] rfl).keep hb4; replace hZ := (hZ.alloc _).keep hb4; have x0 := hX.at_ (i := 0) rfl; have x1 := hX.at_ (i := 1) rfl; have x2 := hX.at_ (i := 2) rfl; have d0 := hZ.at_ (i := 0) rfl; have d1 := hZ.at_ (i := 1) rfl; have d2 := hZ.at_ (i := 2) rfl; have e0 := hZ.frozen 0; have e1 := hZ.frozen 1; have e2 := hZ.frozen 2; have lx := hX.lt; have lz := hZ.lt)
    | (go_at_call 75; refine (draw_any d B r (p + 1) _ (by omega) (by omega) hr1).mono ?_; rintro e w2 ⟨k, n, ks, A, c, p2, rfl, hl2, hs2, h32, hp2, hf, hr2, hg2⟩; replace hZ := hZ.grown hg2 (by simp; omega); have lz2 := hZ.lt; have g2 := grown_trans g1 hg2; have s2 := hg2.size)
    | (go_at_call 76; refine (num_any [3, 4, 2, 3, 1] B r p (w.heap.size + 1) _ (by decide) (by decide) (by omega) (by simp; omega) ((hr.alloc (by omega) _).alloc (by simp; omega) _) (Blk.new_ _ 3 _ (by simp)) (by omega)).mono ?_; rintro e w1 ⟨x, hx, rfl, hr1, hg1⟩; obtain ⟨d, rfl, hd⟩ := any_depth hx; have hkd := kd4 hd; have hZ : Blk w1 w.heap.size #[.int .i64 0, .int .i64 0, .slice none 0 0] := ((Blk.new_ w 25 #[.int .i64 0, .int .i64 0, .slice none 0 0] rfl).alloc _).grown hg1 (by simp; omega); have g1 : w.grownBy w1 (some r) := grown_trans (only_alloc (only_alloc (World.grownBy.refl _ _) _) _) hg1; have s1 := g1.size; have lz1 := hZ.lt))
  · have r4 := (hr2.alloc (by omega) (.cells #[.int .i64 k, .int .i64 n, .slice A ks.length c] 25)).below hb4 (by simp; omega)
    have g4 := only_below (only_alloc g2 (.cells #[.int .i64 k, .int .i64 n, .slice A ks.length c] 25)) hb4
    have f4 := (hf.alloc (.cells #[.int .i64 k, .int .i64 n, .slice A ks.length c] 25)).below hb4
    refine bodyPost_ret (v := .agg #[.int .i64 k, .int .i64 n, .slice A ks.length c]) (by simp [results, Try.results53, go_sem, d0, d1, d2]) rfl ⟨k, n, ks, A, c, p2, rfl, hl2, by omega, hid_up (by omega) h32, by omega, ?_, ?_, ?_⟩
    · exact (((f4.setCell (by simp; omega) _).setCell (by simp; omega) _).setCell (by simp; omega) _).mono (by omega)
    · exact ((r4.setCell (by simp; omega) _).setCell (by simp; omega) _).setCell (by simp; omega) _
    · exact only_setCell (only_setCell (only_setCell g4 (.inr (by simp)) _) (.inr (by simp)) _) (.inr (by simp)) _
  · have r4 := ((hr2.alloc (by omega) (.cells #[.int .i64 k, .int .i64 n, .slice A ks.length c] 25)).below hb4 (by simp; omega)).below hb5 (by have := hb4.size; simp at this; omega)
    have g4 := only_below (only_below (only_alloc g2 (.cells #[.int .i64 k, .int .i64 n, .slice A ks.length c] 25)) hb4) hb5
    refine bodyPost_ret (v := .agg #[.int .i64 7, .int .i64 0, .slice none 0 0]) (by simp [results, Try.results53, go_sem, d0, d1, d2]) rfl ⟨7, 0, [], none, 0, p2, rfl, by simp, by simp [sizes], rfl, by omega, Fresh.nil, ?_, ?_⟩
    · exact ((r4.setCell (by simp; omega) _).setCell (by simp; omega) _).setCell (by simp; omega) _
    · exact only_setCell (only_setCell (only_setCell g4 (.inr (by simp)) _) (.inr (by simp)) _) (.inr (by simp)) _
open Go.RowKit
theorem Part.mono {B B' : Nat} {w : World} {v : Value} {ts : List Tm} (h : Part B w v ts) (hB : B' ≤ B) : Part B' w v ts := by
  obtain ⟨xs, f, h1, h2, h3, h4, h5⟩ := h
  refine ⟨xs, f, ⟨h1.1, ?_⟩, h2, h3, fun b hb => Nat.le_trans hB (h4 b hb), h5⟩
  rcases h1.2 with hn | ⟨g, cap, cur, rfl, hb, r⟩
  · exact .inl hn
  · exact .inr ⟨g, cap, cur, rfl, by omega, r⟩
def GotV (w : World) (k n : Int) (ks : List Tm) (e : Ending) (w' : World) : Prop :=
  ∃ v, e = .returned (.agg #[.int .i64 k, .int .i64 n, v]) ∧ ks.length ≤ 9223372036854775807 ∧ Part w.heap.size w' v ks ∧ Below w.heap.size w w'
theorem gotV_T {w : World} {k n : Int} {ks : List Tm} : ∀ (e : Ending) (w' : World), GotV w k n ks e w' → GotT w k n ks e w' := fun e w' ⟨v, he, hl, hp, hb⟩ => by
  obtain ⟨A, c, rfl, hf⟩ := hp.fresh
  exact ⟨A, c, he, hl, hf, hb⟩
set_option maxHeartbeats 2000000 in
set_option maxRecDepth 100000 in
theorem sCopyV_any (N : Nat) : ∀ (k n : Int) (ks : List Tm) (A : Option Addr) (c : Nat) (w : World), sizes ks < N → sizes ks ≤ 1000000000 → Rd w A 0 ks →
    Calls Try.prog 99 #[.agg #[.int .i64 k, .int .i64 n, .slice A ks.length c]] w (GotV w k n ks) := by
  induction N with
  | zero => intro k n ks A c w hN; exact absurd hN (Nat.not_lt_zero _)
  | succ N ih =>
  intro k n ks A c w hN hM hr
  have hlen := length_le_sizes ks
  go_enter Try.func99, Try.ntmps99
  go_wp2_with fail
  go_loopw [4] (fun i wr => ∃ (j : Nat) (v : Value), j ≤ ks.length ∧ i = .int .i64 j ∧ Part (w.heap.size + 3) wr v (ks.take j) ∧ Blk wr (w.heap.size + 1 + 1) #[.int .i64 k, .int .i64 n, v] ∧ Blk wr (w.heap.size + 1) #[.int .i64 0, .int .i64 0, .slice none 0 0] ∧ Blk wr w.heap.size #[.int .i64 k, .int .i64 n, .slice A ks.length c] ∧ Below w.heap.size w wr)
    (fun i _ => ks.length - (intOf i).toNat)
  case atStart => exact ⟨0, _, Nat.zero_le _, rfl, Part.nil, Blk.new_ _ _ _ (by simp), (Blk.new_ _ _ _ (by simp)).alloc _, ((Blk.new_ _ _ _ rfl).alloc _).alloc _, (((Below.refl _ _).alloc (by simp) _).alloc (by simp) _).alloc (by simp; omega) _⟩
  case round =>
    obtain ⟨j, v, hj, rfl, hp, hB3, hB2, hB1, hb⟩ := hrel
    have c12 := hB1.at_ (i := 2) rfl
    by_cases hlt : j < ks.length
    · obtain ⟨b, off, k', n', ks', A', c', rfl, hkj, hc1, hc2, hc3, hl', hr'⟩ := (hr.below hb).at_ hlt
      have hsz := sizes_le (List.getElem_mem hlt)
      rw [hkj] at hsz
      simp only [Tm.size] at hsz
      have H3 := hide hkj
      clear hkj
      have hz := hB3.lt
      go_wp2_with fail
      have x2 := hB3.rule (i := 2) rfl
      have b2 := hB1.rule (i := 2) rfl
      have y0 := rule_of hc1
      have y1 := rule_of hc2
      have y2 := rule_of hc3
      refine wp_region_firstY (fun w' => Below wr.heap.size wr w') [0, 1, 2, 3, 4, 5, 6] [7, 8] [9, 10, 11] [_, _, _, _, _, _, _] [_, _] [_, _, _] (by kernel_rfl) (by kernel_rfl) rfl rfl rfl (fun _ _ d _ _ h => by cases d <;> exact h) (Below.refl _ _).drew ?_
      repeat (first | ((refine takeY_skip (a' := ?_) ?_ ?_ ?_); (rotate_left); (· (simp [Region.wanted, yielded]; done)); (· (simp only [List.getElem_toArray, List.getElem_cons_zero, List.getElem_cons_succ, Act.put, List.setIfInBounds_toArray, List.set_cons_zero, List.set_cons_succ]; exact rfl))) | ((refine takeY_step (v := ?_) (a' := ?_) ?_ ?_ ?_ ?_); (rotate_left 2); (· (simp [Region.wanted, yielded]; done)); (· (intro w' hS'; go_simp; try (with_reducible rfl))); (· (simp only [List.getElem_toArray, List.getElem_cons_zero, List.getElem_cons_succ, Act.put, List.setIfInBounds_toArray, List.set_cons_zero, List.set_cons_succ]; exact rfl))))
      refine takeY_nil (then_cons ?_)
      go_wp2_with (go_at_call 99; refine ((ih k' n' ks' A' c' _ (by omega) (by omega) hr'.drew).mono gotV_T).mono ?_; rintro e w1 ⟨A1, c1, rfl, hl1, hf1, hb1⟩)
      have hx1 : Below wr.heap.size wr w1 := (Below.refl _ _).drew.trans hb1
      refine mid_intro hx1 (then_cons ?_)
      go_wp2_with fail
      refine mid_intro (hx1.alloc hx1.size _) (then_nil ?_)
      refine wpList_append_built (B := w.heap.size + 3) (m := j) hp.drew hb1 (by simp; omega) hf1 hl1 (by rw [List.length_take]; omega) (by omega) rfl (.tmp 18) (.tmp 25) rfl rfl rfl ?_
      intro A2 c2 w2 hp2 hb2 hg2
      have q3 : Blk w2 (w.heap.size + 1 + 1) #[.int .i64 k, .int .i64 n, v] := (hB3.below hx1 (by omega)).below hb2 (by omega)
      have q2 : Blk w2 (w.heap.size + 1) #[.int .i64 0, .int .i64 0, .slice none 0 0] := (hB2.below hx1 (by omega)).below hb2 (by omega)
      have q1' : Blk w2 w.heap.size #[.int .i64 k, .int .i64 n, .slice (some ⟨b, off, none⟩) ks.length c] := (hB1.below hx1 (by omega)).below hb2 (by omega)
      have c3 : w2.cell? ⟨w.heap.size + 1 + 1, 2, none⟩ = some v := q3.at_ rfl
      have z3 := q3.frozen 2
      have hbf : Below w.heap.size w w2 := (hb.trans (hx1.mono (by omega))).trans (hb2.mono (by omega))
      clear x2 y0 y1 y2 b2
      go_wp2_with fail
      go_roundw
      case rel => exact ⟨j + 1, _, by omega, by go_num, by rw [List.take_succ_eq_append_getElem hlt, H3.out]; exact hp2.setCell (by simp) _, q3.set_ 2 _, q2.far (by simp) _, q1'.far (by simp; omega) _, hbf.setCell (by simp; omega) _⟩
      case measure => simp [intOf]; omega
    · have hjl : j = ks.length := by omega
      subst hjl
      rw [List.take_length] at hp
      have hvl : ∃ A' c', v = .slice A' ks.length c' := hp.shape
      have c0 : wr.cell? ⟨w.heap.size + 1 + 1, 0, none⟩ = some (.int .i64 k) := hB3.at_ rfl
      have c1 : wr.cell? ⟨w.heap.size + 1 + 1, 1, none⟩ = some (.int .i64 n) := hB3.at_ rfl
      have c2 : wr.cell? ⟨w.heap.size + 1 + 1, 2, none⟩ = some v := hB3.at_ rfl
      have d0 : wr.cell? ⟨w.heap.size + 1, 0, none⟩ = some (.int .i64 0) := hB2.at_ rfl
      have d1 : wr.cell? ⟨w.heap.size + 1, 1, none⟩ = some (.int .i64 0) := hB2.at_ rfl
      have d2 : wr.cell? ⟨w.heap.size + 1, 2, none⟩ = some (.slice none 0 0) := hB2.at_ rfl
      have e0 := hB2.frozen 0
      have e1 := hB2.frozen 1
      have e2 := hB2.frozen 2
      obtain ⟨A', c', rfl⟩ := hvl
      go_wp2_with fail
      refine bodyPost_ret (v := .agg #[.int .i64 k, .int .i64 n, .slice A' ks.length c']) (by simp [results, Try.results99, go_sem, d0, d1, d2]) rfl ⟨_, rfl, by omega, ?_, ?_⟩
      · exact ((((hp.setCell (by simp) _).setCell (by simp) _).setCell (by simp) _).mono (by omega))
      · exact (((hb.setCell (by simp) _).setCell (by simp) _).setCell (by simp) _)
end Go.Proofs.Ytodkenpmhhbppaa
