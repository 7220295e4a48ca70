/-
  Texts that are common to the laws: SNum, INum, CmpS. No condition.
-/
import Derived.Test.YtgmljpmnfncceaaK1
import Derived.Test.YtgmljpmnfncceaaK2
import Derived.Test.YtgmljpmnfncceaaK3
import Derived.Test.YtgmljpmnfncceaaK26
import Derived.Test.YtgmljpmnfncceaaK27
import Derived.WalkSpells
import Derived.WalkLawsBesides

namespace Go.Proofs.Ytgmljpmnfncceaa
open Go.RowKit
set_option linter.unusedSimpArgs false
set_option linter.unusedVariables false

theorem numSL_length (h k d : Int) : ∀ (ts : List Tm) (i : Nat), (numSL h k d i ts).length = ts.length
  | [], i => by simp [numSL]
  | t :: ts, i => by rw [numSL, List.length_cons, List.length_cons, numSL_length h k d ts (i + 1)]

set_option maxHeartbeats 4000000 in
set_option maxRecDepth 100000 in
theorem sNumber_any (h : Int) (hh : 0 ≤ h ∧ h ≤ 1000) (N : Nat) : ∀ (k n : Int) (ks : List Tm) (A : Option Addr) (c : Nat) (d : Int) (w : World), sizes ks < N → nbd (.mk k n ks) = true → 0 ≤ d → d + sizes ks ≤ 1000000 → Rd w A 0 ks →
    Calls Try.prog 23 #[.agg #[.int .i64 k, .int .i64 n, .slice A ks.length c], .int .i64 h, .int .i64 d] w (GotT w k (if k = 1 ∧ 100 ≤ n then n - 100 + d else if k = 1 ∧ d ≤ n then n + h else n) (numSL h k d 0 ks)) := by
  induction N with
  | zero => intro k n ks A c d w hN; exact absurd hN (Nat.not_lt_zero _)
  | succ N ih =>
  intro k n ks A c d w hN hnb hd hdq hr
  have hlen := length_le_sizes ks
  obtain ⟨hn0, hnk⟩ := nbd_split hnb
  have hkids' := hide hnk
  clear hnb hnk
  by_cases hk : k = 1
  · subst hk
    by_cases h1 : 100 ≤ n
    · rw [if_pos ⟨rfl, h1⟩]
      have q0 : decide (100 ≤ n) = true := decide_eq_true h1
      have q1 : decide (n < 100) = false := decide_eq_false (by omega)
      clear h1
      go_enter Try.func23, Try.ntmps23
      go_wp2_with fail
      go_loopw [8] (fun i wr => ∃ (j : Nat) (v : Value), j ≤ ks.length ∧ i = .int .i64 j ∧ Part (w.heap.size + 3) wr v (numSL h 1 d 0 (ks.take j)) ∧ Blk wr (w.heap.size + 1 + 1) #[.int .i64 1, .int .i64 (n - 100 + d), v] ∧ Blk wr (w.heap.size + 1) #[.int .i64 0, .int .i64 0, .slice none 0 0] ∧ Blk wr w.heap.size #[.int .i64 1, .int .i64 n, .slice A ks.length c] ∧ Below w.heap.size w wr)
        (fun i _ => ks.length - (intOf i).toNat)
      case atStart => exact ⟨0, _, Nat.zero_le _, rfl, Part.nil, Blk.new_ _ _ _ (by simp), (Blk.new_ _ _ _ (by simp)).alloc _, ((Blk.new_ _ _ _ rfl).alloc _).alloc _, (((Below.refl _ _).alloc (by simp) _).alloc (by simp) _).alloc (by simp; omega) _⟩
      case round =>
        obtain ⟨j, v, hj, rfl, hp, hB3, hB2, hB1, hb⟩ := hrel
        have c12 := hB1.at_ (i := 2) rfl
        by_cases hlt : j < ks.length
        · obtain ⟨b, off, k', n', ks', A', c', rfl, hkj, hc1, hc2, hc3, hl', hr'⟩ := (hr.below hb).at_ hlt
          have hsz := sizes_le (List.getElem_mem hlt)
          have hsk := hkids'.out _ (List.getElem_mem hlt)
          rw [hkj] at hsz hsk
          simp only [Tm.size] at hsz
          have H3 := hide hkj
          have H4 := hide hsk
          clear hkj hsk
          have hz := hB3.lt
          go_wp2_with fail
          have x2 := hB3.rule (i := 2) rfl
          have b0 := hB1.rule (i := 0) rfl
          have b2 := hB1.rule (i := 2) rfl
          have y0 := rule_of hc1
          have y1 := rule_of hc2
          have y2 := rule_of hc3
          have hun := under_le 1 j
          refine wp_region_firstY (fun w' => Below wr.heap.size wr w') [0, 1, 2, 3, 4, 5, 6, 7, 8, 9, 10, 11, 12, 13] [14, 15] [16, 17, 18] [_, _, _, _, _, _, _, _, _, _, _, _, _, _] [_, _] [_, _, _] (by kernel_rfl) (by kernel_rfl) rfl rfl rfl (fun _ _ d _ _ h => by cases d <;> exact h) (Below.refl _ _).drew ?_
          repeat (first | ((refine takeY_skip (a' := ?_) ?_ ?_ ?_); (rotate_left); (· (simp [Region.wanted, yielded]; done)); (· (simp only [List.getElem_toArray, List.getElem_cons_zero, List.getElem_cons_succ, Act.put, List.setIfInBounds_toArray, List.set_cons_zero, List.set_cons_succ]; exact rfl))) | ((refine takeY_step (v := ?_) (a' := ?_) ?_ ?_ ?_ ?_); (rotate_left 2); (· (simp [Region.wanted, yielded]; done)); (· (intro w' hS'; go_simp; try (with_reducible rfl))); (· (simp only [List.getElem_toArray, List.getElem_cons_zero, List.getElem_cons_succ, Act.put, List.setIfInBounds_toArray, List.set_cons_zero, List.set_cons_succ]; exact rfl))) | ((refine takeY_call (v := ?_) (a' := ?_) 50 ?_ ?_ ?_ ?_ ?_ ?_); (rotate_left 3); (· (simp [Region.wanted, yielded]; done)); (· (intro w' hS'; go_simp; try (with_reducible rfl))); (· (intro w' hS'; exact sUnder_any _ _ _)); (· (simp only [List.getElem_toArray, List.getElem_cons_zero, List.getElem_cons_succ, Act.put, List.setIfInBounds_toArray, List.set_cons_zero, List.set_cons_succ]; exact rfl))))
          refine takeY_nil (then_cons ?_)
          obtain ⟨n2, hn2⟩ : ∃ n2, (if k' = 1 ∧ 100 ≤ n' then n' - 100 + (d + under 1 j) else if k' = 1 ∧ d + under 1 j ≤ n' then n' + h else n') = n2 := ⟨_, rfl⟩
          have hn2' := hide hn2
          clear hn2
          go_wp2_with (go_at_call 23; refine (ih k' n' ks' A' c' (d + under 1 j) _ (by omega) H4.out (by omega) (by omega) hr'.drew).mono ?_; rw [hn2'.out]; rintro e w1 ⟨A1, c1, rfl, hl1, hf1, hb1⟩)
          have hx1 : Below wr.heap.size wr w1 := (Below.refl _ _).drew.trans hb1
          refine mid_intro hx1 (then_cons ?_)
          go_wp2_with fail
          refine mid_intro (hx1.alloc hx1.size _) (then_nil ?_)
          refine wpList_append_built (B := w.heap.size + 3) (m := j) hp.drew hb1 (by simp; omega) hf1 hl1 (by rw [numSL_length]; simp; omega) (by omega) rfl (.tmp 55) (.tmp 69) rfl rfl rfl ?_
          intro A2 c2 w2 hp2 hb2 hg2
          have q3 : Blk w2 (w.heap.size + 1 + 1) #[.int .i64 1, .int .i64 (n - 100 + d), v] := (hB3.below hx1 (by omega)).below hb2 (by omega)
          have q2 : Blk w2 (w.heap.size + 1) #[.int .i64 0, .int .i64 0, .slice none 0 0] := (hB2.below hx1 (by omega)).below hb2 (by omega)
          have q1' : Blk w2 w.heap.size #[.int .i64 1, .int .i64 n, .slice (some ⟨b, off, none⟩) ks.length c] := (hB1.below hx1 (by omega)).below hb2 (by omega)
          have c3 : w2.cell? ⟨w.heap.size + 1 + 1, 2, none⟩ = some v := q3.at_ rfl
          have z3 := q3.frozen 2
          have hbf : Below w.heap.size w w2 := (hb.trans (hx1.mono (by omega))).trans (hb2.mono (by omega))
          clear x2 y0 y1 y2 b0 b2
          go_wp2_with fail
          go_roundw
          case rel => exact ⟨j + 1, _, by omega, by go_num, by rw [numSL_take h 1 d hlt, H3.out, numS, hn2'.out]; exact hp2.setCell (by simp) _, q3.set_ 2 _, q2.far (by simp) _, q1'.far (by simp; omega) _, hbf.setCell (by simp; omega) _⟩
          case measure => simp [intOf]; omega
        · have hjl : j = ks.length := by omega
          subst hjl
          rw [List.take_length] at hp
          obtain ⟨Ar, cr, rfl, hfr⟩ := hp.fresh
          have c0 : wr.cell? ⟨w.heap.size + 1 + 1, 0, none⟩ = some (.int .i64 1) := hB3.at_ rfl
          have c1 : wr.cell? ⟨w.heap.size + 1 + 1, 1, none⟩ = some (.int .i64 (n - 100 + d)) := hB3.at_ rfl
          have c2 : wr.cell? ⟨w.heap.size + 1 + 1, 2, none⟩ = some (.slice Ar (numSL h 1 d 0 ks).length cr) := hB3.at_ rfl
          have d0 : wr.cell? ⟨w.heap.size + 1, 0, none⟩ = some (.int .i64 0) := hB2.at_ rfl
          have d1 : wr.cell? ⟨w.heap.size + 1, 1, none⟩ = some (.int .i64 0) := hB2.at_ rfl
          have d2 : wr.cell? ⟨w.heap.size + 1, 2, none⟩ = some (.slice none 0 0) := hB2.at_ rfl
          have e0 := hB2.frozen 0
          have e1 := hB2.frozen 1
          have e2 := hB2.frozen 2
          go_wp2_with fail
          refine bodyPost_ret (v := .agg #[.int .i64 1, .int .i64 (n - 100 + d), .slice Ar (numSL h 1 d 0 ks).length cr]) (by simp [results, Try.results23, go_sem, d0, d1, d2]) rfl ⟨Ar, cr, rfl, by rw [numSL_length]; omega, ?_, ?_⟩
          · exact (((hfr.setCell (by simp) _).setCell (by simp) _).setCell (by simp) _).mono (by omega)
          · exact ((hb.setCell (by simp) _).setCell (by simp) _).setCell (by simp) _
    · rw [if_neg (by rintro ⟨-, h⟩; exact h1 h)]
      have q0 : decide (100 ≤ n) = false := decide_eq_false h1
      have q1 : decide (n < 100) = true := decide_eq_true (by omega)
      by_cases h2 : d ≤ n
      · rw [if_pos ⟨rfl, h2⟩]
        have q2 : decide (d ≤ n) = true := decide_eq_true h2
        clear h1 h2
        go_enter Try.func23, Try.ntmps23
        go_wp2_with fail
        go_loopw [8] (fun i wr => ∃ (j : Nat) (v : Value), j ≤ ks.length ∧ i = .int .i64 j ∧ Part (w.heap.size + 3) wr v (numSL h 1 d 0 (ks.take j)) ∧ Blk wr (w.heap.size + 1 + 1) #[.int .i64 1, .int .i64 (n + h), v] ∧ Blk wr (w.heap.size + 1) #[.int .i64 0, .int .i64 0, .slice none 0 0] ∧ Blk wr w.heap.size #[.int .i64 1, .int .i64 n, .slice A ks.length c] ∧ Below w.heap.size w wr)
          (fun i _ => ks.length - (intOf i).toNat)
        case atStart => exact ⟨0, _, Nat.zero_le _, rfl, Part.nil, Blk.new_ _ _ _ (by simp), (Blk.new_ _ _ _ (by simp)).alloc _, ((Blk.new_ _ _ _ rfl).alloc _).alloc _, (((Below.refl _ _).alloc (by simp) _).alloc (by simp) _).alloc (by simp; omega) _⟩
        case round =>
          obtain ⟨j, v, hj, rfl, hp, hB3, hB2, hB1, hb⟩ := hrel
          have c12 := hB1.at_ (i := 2) rfl
          by_cases hlt : j < ks.length
          · obtain ⟨b, off, k', n', ks', A', c', rfl, hkj, hc1, hc2, hc3, hl', hr'⟩ := (hr.below hb).at_ hlt
            have hsz := sizes_le (List.getElem_mem hlt)
            have hsk := hkids'.out _ (List.getElem_mem hlt)
            rw [hkj] at hsz hsk
            simp only [Tm.size] at hsz
            have H3 := hide hkj
            have H4 := hide hsk
            clear hkj hsk
            have hz := hB3.lt
            go_wp2_with fail
            have x2 := hB3.rule (i := 2) rfl
            have b0 := hB1.rule (i := 0) rfl
            have b2 := hB1.rule (i := 2) rfl
            have y0 := rule_of hc1
            have y1 := rule_of hc2
            have y2 := rule_of hc3
            have hun := under_le 1 j
            refine wp_region_firstY (fun w' => Below wr.heap.size wr w') [0, 1, 2, 3, 4, 5, 6, 7, 8, 9, 10, 11, 12, 13] [14, 15] [16, 17, 18] [_, _, _, _, _, _, _, _, _, _, _, _, _, _] [_, _] [_, _, _] (by kernel_rfl) (by kernel_rfl) rfl rfl rfl (fun _ _ d _ _ h => by cases d <;> exact h) (Below.refl _ _).drew ?_
            repeat (first | ((refine takeY_skip (a' := ?_) ?_ ?_ ?_); (rotate_left); (· (simp [Region.wanted, yielded]; done)); (· (simp only [List.getElem_toArray, List.getElem_cons_zero, List.getElem_cons_succ, Act.put, List.setIfInBounds_toArray, List.set_cons_zero, List.set_cons_succ]; exact rfl))) | ((refine takeY_step (v := ?_) (a' := ?_) ?_ ?_ ?_ ?_); (rotate_left 2); (· (simp [Region.wanted, yielded]; done)); (· (intro w' hS'; go_simp; try (with_reducible rfl))); (· (simp only [List.getElem_toArray, List.getElem_cons_zero, List.getElem_cons_succ, Act.put, List.setIfInBounds_toArray, List.set_cons_zero, List.set_cons_succ]; exact rfl))) | ((refine takeY_call (v := ?_) (a' := ?_) 50 ?_ ?_ ?_ ?_ ?_ ?_); (rotate_left 3); (· (simp [Region.wanted, yielded]; done)); (· (intro w' hS'; go_simp; try (with_reducible rfl))); (· (intro w' hS'; exact sUnder_any _ _ _)); (· (simp only [List.getElem_toArray, List.getElem_cons_zero, List.getElem_cons_succ, Act.put, List.setIfInBounds_toArray, List.set_cons_zero, List.set_cons_succ]; exact rfl))))
            refine takeY_nil (then_cons ?_)
            obtain ⟨n2, hn2⟩ : ∃ n2, (if k' = 1 ∧ 100 ≤ n' then n' - 100 + (d + under 1 j) else if k' = 1 ∧ d + under 1 j ≤ n' then n' + h else n') = n2 := ⟨_, rfl⟩
            have hn2' := hide hn2
            clear hn2
            go_wp2_with (go_at_call 23; refine (ih k' n' ks' A' c' (d + under 1 j) _ (by omega) H4.out (by omega) (by omega) hr'.drew).mono ?_; rw [hn2'.out]; rintro e w1 ⟨A1, c1, rfl, hl1, hf1, hb1⟩)
            have hx1 : Below wr.heap.size wr w1 := (Below.refl _ _).drew.trans hb1
            refine mid_intro hx1 (then_cons ?_)
            go_wp2_with fail
            refine mid_intro (hx1.alloc hx1.size _) (then_nil ?_)
            refine wpList_append_built (B := w.heap.size + 3) (m := j) hp.drew hb1 (by simp; omega) hf1 hl1 (by rw [numSL_length]; simp; omega) (by omega) rfl (.tmp 55) (.tmp 69) rfl rfl rfl ?_
            intro A2 c2 w2 hp2 hb2 hg2
            have q3 : Blk w2 (w.heap.size + 1 + 1) #[.int .i64 1, .int .i64 (n + h), v] := (hB3.below hx1 (by omega)).below hb2 (by omega)
            have q2 : Blk w2 (w.heap.size + 1) #[.int .i64 0, .int .i64 0, .slice none 0 0] := (hB2.below hx1 (by omega)).below hb2 (by omega)
            have q1' : Blk w2 w.heap.size #[.int .i64 1, .int .i64 n, .slice (some ⟨b, off, none⟩) ks.length c] := (hB1.below hx1 (by omega)).below hb2 (by omega)
            have c3 : w2.cell? ⟨w.heap.size + 1 + 1, 2, none⟩ = some v := q3.at_ rfl
            have z3 := q3.frozen 2
            have hbf : Below w.heap.size w w2 := (hb.trans (hx1.mono (by omega))).trans (hb2.mono (by omega))
            clear x2 y0 y1 y2 b0 b2
            go_wp2_with fail
            go_roundw
            case rel => exact ⟨j + 1, _, by omega, by go_num, by rw [numSL_take h 1 d hlt, H3.out, numS, hn2'.out]; exact hp2.setCell (by simp) _, q3.set_ 2 _, q2.far (by simp) _, q1'.far (by simp; omega) _, hbf.setCell (by simp; omega) _⟩
            case measure => simp [intOf]; omega
          · have hjl : j = ks.length := by omega
            subst hjl
            rw [List.take_length] at hp
            obtain ⟨Ar, cr, rfl, hfr⟩ := hp.fresh
            have c0 : wr.cell? ⟨w.heap.size + 1 + 1, 0, none⟩ = some (.int .i64 1) := hB3.at_ rfl
            have c1 : wr.cell? ⟨w.heap.size + 1 + 1, 1, none⟩ = some (.int .i64 (n + h)) := hB3.at_ rfl
            have c2 : wr.cell? ⟨w.heap.size + 1 + 1, 2, none⟩ = some (.slice Ar (numSL h 1 d 0 ks).length cr) := hB3.at_ rfl
            have d0 : wr.cell? ⟨w.heap.size + 1, 0, none⟩ = some (.int .i64 0) := hB2.at_ rfl
            have d1 : wr.cell? ⟨w.heap.size + 1, 1, none⟩ = some (.int .i64 0) := hB2.at_ rfl
            have d2 : wr.cell? ⟨w.heap.size + 1, 2, none⟩ = some (.slice none 0 0) := hB2.at_ rfl
            have e0 := hB2.frozen 0
            have e1 := hB2.frozen 1
            have e2 := hB2.frozen 2
            go_wp2_with fail
            refine bodyPost_ret (v := .agg #[.int .i64 1, .int .i64 (n + h), .slice Ar (numSL h 1 d 0 ks).length cr]) (by simp [results, Try.results23, go_sem, d0, d1, d2]) rfl ⟨Ar, cr, rfl, by rw [numSL_length]; omega, ?_, ?_⟩
            · exact (((hfr.setCell (by simp) _).setCell (by simp) _).setCell (by simp) _).mono (by omega)
            · exact ((hb.setCell (by simp) _).setCell (by simp) _).setCell (by simp) _
      · rw [if_neg (by rintro ⟨-, h⟩; exact h2 h)]
        have q2 : decide (d ≤ n) = false := decide_eq_false h2
        clear h1 h2
        go_enter Try.func23, Try.ntmps23
        go_wp2_with fail
        go_loopw [8] (fun i wr => ∃ (j : Nat) (v : Value), j ≤ ks.length ∧ i = .int .i64 j ∧ Part (w.heap.size + 3) wr v (numSL h 1 d 0 (ks.take j)) ∧ Blk wr (w.heap.size + 1 + 1) #[.int .i64 1, .int .i64 (n), v] ∧ Blk wr (w.heap.size + 1) #[.int .i64 0, .int .i64 0, .slice none 0 0] ∧ Blk wr w.heap.size #[.int .i64 1, .int .i64 n, .slice A ks.length c] ∧ Below w.heap.size w wr)
          (fun i _ => ks.length - (intOf i).toNat)
        case atStart => exact ⟨0, _, Nat.zero_le _, rfl, Part.nil, Blk.new_ _ _ _ (by simp), (Blk.new_ _ _ _ (by simp)).alloc _, ((Blk.new_ _ _ _ rfl).alloc _).alloc _, (((Below.refl _ _).alloc (by simp) _).alloc (by simp) _).alloc (by simp; omega) _⟩
        case round =>
          obtain ⟨j, v, hj, rfl, hp, hB3, hB2, hB1, hb⟩ := hrel
          have c12 := hB1.at_ (i := 2) rfl
          by_cases hlt : j < ks.length
          · obtain ⟨b, off, k', n', ks', A', c', rfl, hkj, hc1, hc2, hc3, hl', hr'⟩ := (hr.below hb).at_ hlt
            have hsz := sizes_le (List.getElem_mem hlt)
            have hsk := hkids'.out _ (List.getElem_mem hlt)
            rw [hkj] at hsz hsk
            simp only [Tm.size] at hsz
            have H3 := hide hkj
            have H4 := hide hsk
            clear hkj hsk
            have hz := hB3.lt
            go_wp2_with fail
            have x2 := hB3.rule (i := 2) rfl
            have b0 := hB1.rule (i := 0) rfl
            have b2 := hB1.rule (i := 2) rfl
            have y0 := rule_of hc1
            have y1 := rule_of hc2
            have y2 := rule_of hc3
            have hun := under_le 1 j
            refine wp_region_firstY (fun w' => Below wr.heap.size wr w') [0, 1, 2, 3, 4, 5, 6, 7, 8, 9, 10, 11, 12, 13] [14, 15] [16, 17, 18] [_, _, _, _, _, _, _, _, _, _, _, _, _, _] [_, _] [_, _, _] (by kernel_rfl) (by kernel_rfl) rfl rfl rfl (fun _ _ d _ _ h => by cases d <;> exact h) (Below.refl _ _).drew ?_
            repeat (first | ((refine takeY_skip (a' := ?_) ?_ ?_ ?_); (rotate_left); (· (simp [Region.wanted, yielded]; done)); (· (simp only [List.getElem_toArray, List.getElem_cons_zero, List.getElem_cons_succ, Act.put, List.setIfInBounds_toArray, List.set_cons_zero, List.set_cons_succ]; exact rfl))) | ((refine takeY_step (v := ?_) (a' := ?_) ?_ ?_ ?_ ?_); (rotate_left 2); (· (simp [Region.wanted, yielded]; done)); (· (intro w' hS'; go_simp; try (with_reducible rfl))); (· (simp only [List.getElem_toArray, List.getElem_cons_zero, List.getElem_cons_succ, Act.put, List.setIfInBounds_toArray, List.set_cons_zero, List.set_cons_succ]; exact rfl))) | ((refine takeY_call (v := ?_) (a' := ?_) 50 ?_ ?_ ?_ ?_ ?_ ?_); (rotate_left 3); (· (simp [Region.wanted, yielded]; done)); (· (intro w' hS'; go_simp; try (with_reducible rfl))); (· (intro w' hS'; exact sUnder_any _ _ _)); (· (simp only [List.getElem_toArray, List.getElem_cons_zero, List.getElem_cons_succ, Act.put, List.setIfInBounds_toArray, List.set_cons_zero, List.set_cons_succ]; exact rfl))))
            refine takeY_nil (then_cons ?_)
            obtain ⟨n2, hn2⟩ : ∃ n2, (if k' = 1 ∧ 100 ≤ n' then n' - 100 + (d + under 1 j) else if k' = 1 ∧ d + under 1 j ≤ n' then n' + h else n') = n2 := ⟨_, rfl⟩
            have hn2' := hide hn2
            clear hn2
            go_wp2_with (go_at_call 23; refine (ih k' n' ks' A' c' (d + under 1 j) _ (by omega) H4.out (by omega) (by omega) hr'.drew).mono ?_; rw [hn2'.out]; rintro e w1 ⟨A1, c1, rfl, hl1, hf1, hb1⟩)
            have hx1 : Below wr.heap.size wr w1 := (Below.refl _ _).drew.trans hb1
            refine mid_intro hx1 (then_cons ?_)
            go_wp2_with fail
            refine mid_intro (hx1.alloc hx1.size _) (then_nil ?_)
            refine wpList_append_built (B := w.heap.size + 3) (m := j) hp.drew hb1 (by simp; omega) hf1 hl1 (by rw [numSL_length]; simp; omega) (by omega) rfl (.tmp 55) (.tmp 69) rfl rfl rfl ?_
            intro A2 c2 w2 hp2 hb2 hg2
            have q3 : Blk w2 (w.heap.size + 1 + 1) #[.int .i64 1, .int .i64 (n), v] := (hB3.below hx1 (by omega)).below hb2 (by omega)
            have q2 : Blk w2 (w.heap.size + 1) #[.int .i64 0, .int .i64 0, .slice none 0 0] := (hB2.below hx1 (by omega)).below hb2 (by omega)
            have q1' : Blk w2 w.heap.size #[.int .i64 1, .int .i64 n, .slice (some ⟨b, off, none⟩) ks.length c] := (hB1.below hx1 (by omega)).below hb2 (by omega)
            have c3 : w2.cell? ⟨w.heap.size + 1 + 1, 2, none⟩ = some v := q3.at_ rfl
            have z3 := q3.frozen 2
            have hbf : Below w.heap.size w w2 := (hb.trans (hx1.mono (by omega))).trans (hb2.mono (by omega))
            clear x2 y0 y1 y2 b0 b2
            go_wp2_with fail
            go_roundw
            case rel => exact ⟨j + 1, _, by omega, by go_num, by rw [numSL_take h 1 d hlt, H3.out, numS, hn2'.out]; exact hp2.setCell (by simp) _, q3.set_ 2 _, q2.far (by simp) _, q1'.far (by simp; omega) _, hbf.setCell (by simp; omega) _⟩
            case measure => simp [intOf]; omega
          · have hjl : j = ks.length := by omega
            subst hjl
            rw [List.take_length] at hp
            obtain ⟨Ar, cr, rfl, hfr⟩ := hp.fresh
            have c0 : wr.cell? ⟨w.heap.size + 1 + 1, 0, none⟩ = some (.int .i64 1) := hB3.at_ rfl
            have c1 : wr.cell? ⟨w.heap.size + 1 + 1, 1, none⟩ = some (.int .i64 (n)) := hB3.at_ rfl
            have c2 : wr.cell? ⟨w.heap.size + 1 + 1, 2, none⟩ = some (.slice Ar (numSL h 1 d 0 ks).length cr) := hB3.at_ rfl
            have d0 : wr.cell? ⟨w.heap.size + 1, 0, none⟩ = some (.int .i64 0) := hB2.at_ rfl
            have d1 : wr.cell? ⟨w.heap.size + 1, 1, none⟩ = some (.int .i64 0) := hB2.at_ rfl
            have d2 : wr.cell? ⟨w.heap.size + 1, 2, none⟩ = some (.slice none 0 0) := hB2.at_ rfl
            have e0 := hB2.frozen 0
            have e1 := hB2.frozen 1
            have e2 := hB2.frozen 2
            go_wp2_with fail
            refine bodyPost_ret (v := .agg #[.int .i64 1, .int .i64 (n), .slice Ar (numSL h 1 d 0 ks).length cr]) (by simp [results, Try.results23, go_sem, d0, d1, d2]) rfl ⟨Ar, cr, rfl, by rw [numSL_length]; omega, ?_, ?_⟩
            · exact (((hfr.setCell (by simp) _).setCell (by simp) _).setCell (by simp) _).mono (by omega)
            · exact ((hb.setCell (by simp) _).setCell (by simp) _).setCell (by simp) _
  · rw [if_neg (by rintro ⟨h, -⟩; exact hk h), if_neg (by rintro ⟨h, -⟩; exact hk h)]
    have q1 : (k == 1) = false := by simpa using hk
    clear hk
    go_enter Try.func23, Try.ntmps23
    go_wp2_with fail
    go_loopw [8] (fun i wr => ∃ (j : Nat) (v : Value), j ≤ ks.length ∧ i = .int .i64 j ∧ Part (w.heap.size + 3) wr v (numSL h k d 0 (ks.take j)) ∧ Blk wr (w.heap.size + 1 + 1) #[.int .i64 k, .int .i64 (n), v] ∧ Blk wr (w.heap.size + 1) #[.int .i64 0, .int .i64 0, .slice none 0 0] ∧ Blk wr w.heap.size #[.int .i64 k, .int .i64 n, .slice A ks.length c] ∧ Below w.heap.size w wr)
      (fun i _ => ks.length - (intOf i).toNat)
    case atStart => exact ⟨0, _, Nat.zero_le _, rfl, Part.nil, Blk.new_ _ _ _ (by simp), (Blk.new_ _ _ _ (by simp)).alloc _, ((Blk.new_ _ _ _ rfl).alloc _).alloc _, (((Below.refl _ _).alloc (by simp) _).alloc (by simp) _).alloc (by simp; omega) _⟩
    case round =>
      obtain ⟨j, v, hj, rfl, hp, hB3, hB2, hB1, hb⟩ := hrel
      have c12 := hB1.at_ (i := 2) rfl
      by_cases hlt : j < ks.length
      · obtain ⟨b, off, k', n', ks', A', c', rfl, hkj, hc1, hc2, hc3, hl', hr'⟩ := (hr.below hb).at_ hlt
        have hsz := sizes_le (List.getElem_mem hlt)
        have hsk := hkids'.out _ (List.getElem_mem hlt)
        rw [hkj] at hsz hsk
        simp only [Tm.size] at hsz
        have H3 := hide hkj
        have H4 := hide hsk
        clear hkj hsk
        have hz := hB3.lt
        go_wp2_with fail
        have x2 := hB3.rule (i := 2) rfl
        have b0 := hB1.rule (i := 0) rfl
        have b2 := hB1.rule (i := 2) rfl
        have y0 := rule_of hc1
        have y1 := rule_of hc2
        have y2 := rule_of hc3
        have hun := under_le k j
        refine wp_region_firstY (fun w' => Below wr.heap.size wr w') [0, 1, 2, 3, 4, 5, 6, 7, 8, 9, 10, 11, 12, 13] [14, 15] [16, 17, 18] [_, _, _, _, _, _, _, _, _, _, _, _, _, _] [_, _] [_, _, _] (by kernel_rfl) (by kernel_rfl) rfl rfl rfl (fun _ _ d _ _ h => by cases d <;> exact h) (Below.refl _ _).drew ?_
        repeat (first | ((refine takeY_skip (a' := ?_) ?_ ?_ ?_); (rotate_left); (· (simp [Region.wanted, yielded]; done)); (· (simp only [List.getElem_toArray, List.getElem_cons_zero, List.getElem_cons_succ, Act.put, List.setIfInBounds_toArray, List.set_cons_zero, List.set_cons_succ]; exact rfl))) | ((refine takeY_step (v := ?_) (a' := ?_) ?_ ?_ ?_ ?_); (rotate_left 2); (· (simp [Region.wanted, yielded]; done)); (· (intro w' hS'; go_simp; try (with_reducible rfl))); (· (simp only [List.getElem_toArray, List.getElem_cons_zero, List.getElem_cons_succ, Act.put, List.setIfInBounds_toArray, List.set_cons_zero, List.set_cons_succ]; exact rfl))) | ((refine takeY_call (v := ?_) (a' := ?_) 50 ?_ ?_ ?_ ?_ ?_ ?_); (rotate_left 3); (· (simp [Region.wanted, yielded]; done)); (· (intro w' hS'; go_simp; try (with_reducible rfl))); (· (intro w' hS'; exact sUnder_any _ _ _)); (· (simp only [List.getElem_toArray, List.getElem_cons_zero, List.getElem_cons_succ, Act.put, List.setIfInBounds_toArray, List.set_cons_zero, List.set_cons_succ]; exact rfl))))
        refine takeY_nil (then_cons ?_)
        obtain ⟨n2, hn2⟩ : ∃ n2, (if k' = 1 ∧ 100 ≤ n' then n' - 100 + (d + under k j) else if k' = 1 ∧ d + under k j ≤ n' then n' + h else n') = n2 := ⟨_, rfl⟩
        have hn2' := hide hn2
        clear hn2
        go_wp2_with (go_at_call 23; refine (ih k' n' ks' A' c' (d + under k j) _ (by omega) H4.out (by omega) (by omega) hr'.drew).mono ?_; rw [hn2'.out]; rintro e w1 ⟨A1, c1, rfl, hl1, hf1, hb1⟩)
        have hx1 : Below wr.heap.size wr w1 := (Below.refl _ _).drew.trans hb1
        refine mid_intro hx1 (then_cons ?_)
        go_wp2_with fail
        refine mid_intro (hx1.alloc hx1.size _) (then_nil ?_)
        refine wpList_append_built (B := w.heap.size + 3) (m := j) hp.drew hb1 (by simp; omega) hf1 hl1 (by rw [numSL_length]; simp; omega) (by omega) rfl (.tmp 55) (.tmp 69) rfl rfl rfl ?_
        intro A2 c2 w2 hp2 hb2 hg2
        have q3 : Blk w2 (w.heap.size + 1 + 1) #[.int .i64 k, .int .i64 (n), v] := (hB3.below hx1 (by omega)).below hb2 (by omega)
        have q2 : Blk w2 (w.heap.size + 1) #[.int .i64 0, .int .i64 0, .slice none 0 0] := (hB2.below hx1 (by omega)).below hb2 (by omega)
        have q1' : Blk w2 w.heap.size #[.int .i64 k, .int .i64 n, .slice (some ⟨b, off, none⟩) ks.length c] := (hB1.below hx1 (by omega)).below hb2 (by omega)
        have c3 : w2.cell? ⟨w.heap.size + 1 + 1, 2, none⟩ = some v := q3.at_ rfl
        have z3 := q3.frozen 2
        have hbf : Below w.heap.size w w2 := (hb.trans (hx1.mono (by omega))).trans (hb2.mono (by omega))
        clear x2 y0 y1 y2 b0 b2
        go_wp2_with fail
        go_roundw
        case rel => exact ⟨j + 1, _, by omega, by go_num, by rw [numSL_take h k d hlt, H3.out, numS, hn2'.out]; exact hp2.setCell (by simp) _, q3.set_ 2 _, q2.far (by simp) _, q1'.far (by simp; omega) _, hbf.setCell (by simp; omega) _⟩
        case measure => simp [intOf]; omega
      · have hjl : j = ks.length := by omega
        subst hjl
        rw [List.take_length] at hp
        obtain ⟨Ar, cr, rfl, hfr⟩ := hp.fresh
        have c0 : wr.cell? ⟨w.heap.size + 1 + 1, 0, none⟩ = some (.int .i64 k) := hB3.at_ rfl
        have c1 : wr.cell? ⟨w.heap.size + 1 + 1, 1, none⟩ = some (.int .i64 (n)) := hB3.at_ rfl
        have c2 : wr.cell? ⟨w.heap.size + 1 + 1, 2, none⟩ = some (.slice Ar (numSL h k d 0 ks).length cr) := hB3.at_ rfl
        have d0 : wr.cell? ⟨w.heap.size + 1, 0, none⟩ = some (.int .i64 0) := hB2.at_ rfl
        have d1 : wr.cell? ⟨w.heap.size + 1, 1, none⟩ = some (.int .i64 0) := hB2.at_ rfl
        have d2 : wr.cell? ⟨w.heap.size + 1, 2, none⟩ = some (.slice none 0 0) := hB2.at_ rfl
        have e0 := hB2.frozen 0
        have e1 := hB2.frozen 1
        have e2 := hB2.frozen 2
        go_wp2_with fail
        refine bodyPost_ret (v := .agg #[.int .i64 k, .int .i64 (n), .slice Ar (numSL h k d 0 ks).length cr]) (by simp [results, Try.results23, go_sem, d0, d1, d2]) rfl ⟨Ar, cr, rfl, by rw [numSL_length]; omega, ?_, ?_⟩
        · exact (((hfr.setCell (by simp) _).setCell (by simp) _).setCell (by simp) _).mono (by omega)
        · exact ((hb.setCell (by simp) _).setCell (by simp) _).setCell (by simp) _
end Go.Proofs.Ytgmljpmnfncceaa

namespace Go.Proofs.Ytgmljpmnfncceaa
open Go.RowKit
set_option linter.unusedSimpArgs false
set_option linter.unusedVariables false

theorem numIL_length (h k d : Int) : ∀ (ts : List Tm) (i : Nat), (numIL h k d i ts).length = ts.length
  | [], i => by simp [numIL]
  | t :: ts, i => by rw [numIL, List.length_cons, List.length_cons, numIL_length h k d ts (i + 1)]
def GotM (w : World) (t : Tm) (e : Ending) (w' : World) : Prop := GotT w t.k t.n t.ks e w'
theorem gotM_mk {w : World} {k n : Int} {ks : List Tm} {e : Ending} {w' : World} (h : GotM w (.mk k n ks) e w') : GotT w k n ks e w' := h

set_option maxHeartbeats 4000000 in
set_option maxRecDepth 100000 in
theorem iNumber_any (h : Int) (hh : 0 ≤ h ∧ h ≤ 1000) (N : Nat) : ∀ (k n : Int) (ks : List Tm) (A : Option Addr) (c : Nat) (d : Int) (w : World), sizes ks < N → nbd (.mk k n ks) = true → 0 ≤ d → d + sizes ks ≤ 1000000 → Rd w A 0 ks →
    Calls Try.prog 28 #[.agg #[.int .i64 k, .int .i64 n, .slice A ks.length c], .int .i64 h, .int .i64 d] w (GotM w (numI h d (.mk k n ks))) := by
  induction N with
  | zero => intro k n ks A c d w hN; exact absurd hN (Nat.not_lt_zero _)
  | succ N ih =>
  intro k n ks A c d w hN hnb hd hdq hr
  have hlen := length_le_sizes ks
  obtain ⟨hn0, hnk⟩ := nbd_split hnb
  have hkids' := hide hnk
  clear hnb hnk
  rw [numI]
  by_cases hk : k = -1
  · subst hk
    rw [if_pos rfl]
    go_enter Try.func28, Try.ntmps28
    go_wp2_with (go_at_call 58; refine (variable_any _ _).mono ?_; rintro e w1 ⟨rfl, hb1⟩; have hT : Blk w1 (w.heap.size + 1) #[.int .i64 0, .int .i64 0, .slice none 0 0] := (Blk.new_ _ 28 _ (by simp)).keep hb1; obtain ⟨d0, d1, d2⟩ := hT.three; have e0 := hT.frozen 0; have e1 := hT.frozen 1; have e2 := hT.frozen 2; replace hb1 : Below w.heap.size w w1 := (((Below.refl _ _).alloc (Nat.le_refl _) _).alloc (by simp) _).trans (hb1.mono (by simp; omega)))
    refine bodyPost_ret (v := .agg #[.int .i64 1, .int .i64 (n + d), .slice none 0 0]) (by simp [results, Try.results28, go_sem, d0, d1, d2]) rfl ⟨none, 0, rfl, by simp [Tm.ks], Fresh.nil, ?_⟩
    exact ((hb1.setCell (by simp) _).setCell (by simp) _).setCell (by simp) _
  · rw [if_neg hk]
    have q0 : (k == -1) = false := by simpa using hk
    by_cases hv : k = 1 ∧ d ≤ n
    · obtain ⟨rfl, hdn⟩ := hv
      rw [if_pos ⟨rfl, hdn⟩]
      have q1 : decide (d ≤ n) = true := decide_eq_true hdn
      clear hk hdn
      go_enter Try.func28, Try.ntmps28
      go_wp2_with (go_at_call 58; refine (variable_any _ _).mono ?_; rintro e w1 ⟨rfl, hb1⟩; have hT : Blk w1 (w.heap.size + 1) #[.int .i64 0, .int .i64 0, .slice none 0 0] := (Blk.new_ _ 28 _ (by simp)).keep hb1; obtain ⟨d0, d1, d2⟩ := hT.three; have e0 := hT.frozen 0; have e1 := hT.frozen 1; have e2 := hT.frozen 2; replace hb1 : Below w.heap.size w w1 := (((Below.refl _ _).alloc (Nat.le_refl _) _).alloc (by simp) _).trans (hb1.mono (by simp; omega)))
      refine bodyPost_ret (v := .agg #[.int .i64 1, .int .i64 (n + h), .slice none 0 0]) (by simp [results, Try.results28, go_sem, d0, d1, d2]) rfl ⟨none, 0, rfl, by simp [Tm.ks], Fresh.nil, ?_⟩
      exact ((hb1.setCell (by simp) _).setCell (by simp) _).setCell (by simp) _
    · rw [if_neg hv]
      have enter : Hid True → Calls Try.prog 28 #[.agg #[.int .i64 k, .int .i64 n, .slice A ks.length c], .int .i64 h, .int .i64 d] w (GotT w k n (numIL h k d 0 ks)) := by
        intro _
        by_cases hk1 : k = 1
        · have q1 : decide (d ≤ n) = false := decide_eq_false (fun h => hv ⟨hk1, h⟩)
          subst hk1
          clear hk hv
          go_enter Try.func28, Try.ntmps28
          go_wp2_with fail
          go_loopw [42] (fun i wr => ∃ (j : Nat) (v : Value), j ≤ ks.length ∧ i = .int .i64 j ∧ Part (w.heap.size + 3) wr v (numIL h 1 d 0 (ks.take j)) ∧ Blk wr (w.heap.size + 1 + 1) #[.int .i64 1, .int .i64 n, v] ∧ Blk wr (w.heap.size + 1) #[.int .i64 0, .int .i64 0, .slice none 0 0] ∧ Blk wr w.heap.size #[.int .i64 1, .int .i64 n, .slice A ks.length c] ∧ Below w.heap.size w wr)
            (fun i _ => ks.length - (intOf i).toNat)
          case atStart => exact ⟨0, _, Nat.zero_le _, rfl, Part.nil, Blk.new_ _ _ _ (by simp), (Blk.new_ _ _ _ (by simp)).alloc _, ((Blk.new_ _ _ _ rfl).alloc _).alloc _, (((Below.refl _ _).alloc (by simp) _).alloc (by simp) _).alloc (by simp; omega) _⟩
          case round =>
            obtain ⟨j, v, hj, rfl, hp, hB3, hB2, hB1, hb⟩ := hrel
            by_cases hlt : j < ks.length
            · obtain ⟨b, off, k', n', ks', A', c', rfl, hkj, hc1, hc2, hc3, hl', hr'⟩ := (hr.below hb).at_ hlt
              have hsz := sizes_le (List.getElem_mem hlt)
              have hsk := hkids'.out _ (List.getElem_mem hlt)
              rw [hkj] at hsz hsk
              simp only [Tm.size] at hsz
              have H3 := hide hkj
              have H4 := hide hsk
              clear hkj hsk
              have hz := hB3.lt
              have b1z := hB1.lt
              go_wp2_with fail
              refine name_world ?_
              intro wx hwx
              have hXB : Blk wx wr.heap.size #[.int .i64 k', .int .i64 n', .slice A' ks'.length c'] := by rw [hwx]; exact Blk.new_ _ _ _ rfl
              have hpx : Part (w.heap.size + 3) wx v (numIL h 1 d 0 (ks.take j)) := by rw [hwx]; exact hp.alloc _
              have hrx : Rd wx A' 0 ks' := by rw [hwx]; exact hr'.alloc _
              have hB3x : Blk wx (w.heap.size + 1 + 1) #[.int .i64 1, .int .i64 n, v] := by rw [hwx]; exact hB3.alloc _
              have hB2x : Blk wx (w.heap.size + 1) #[.int .i64 0, .int .i64 0, .slice none 0 0] := by rw [hwx]; exact hB2.alloc _
              have hB1x : Blk wx w.heap.size #[.int .i64 1, .int .i64 n, .slice (some ⟨b, off, none⟩) ks.length c] := by rw [hwx]; exact hB1.alloc _
              have hbx : Below w.heap.size w wx := by rw [hwx]; exact hb.alloc hb.size _
              have hs1 : wr.heap.size < wx.heap.size := by rw [hwx]; simp
              have hs2 : w.heap.size + 1 + 1 < wx.heap.size := by omega
              have x2 := hB3x.rule (i := 2) rfl
              have b0 := hB1x.rule (i := 0) rfl
              have y0 := hXB.rule (i := 0) rfl
              have y1 := hXB.rule (i := 1) rfl
              have y2 := hXB.rule (i := 2) rfl
              have hun := under_le 1 j
              clear hwx
              refine wp_region_firstY (fun w' => Below wx.heap.size wx w') [0, 1, 2, 3, 4, 5, 6, 7, 8, 9] [10, 11] [12, 13, 14] [_, _, _, _, _, _, _, _, _, _] [_, _] [_, _, _] (by kernel_rfl) (by kernel_rfl) rfl rfl rfl (fun _ _ d _ _ h => by cases d <;> exact h) (Below.refl _ _).drew ?_
              repeat (first | ((refine takeY_skip (a' := ?_) ?_ ?_ ?_); (rotate_left); (· (simp [Region.wanted, yielded]; done)); (· (simp only [List.getElem_toArray, List.getElem_cons_zero, List.getElem_cons_succ, Act.put, List.setIfInBounds_toArray, List.set_cons_zero, List.set_cons_succ]; exact rfl))) | ((refine takeY_step (v := ?_) (a' := ?_) ?_ ?_ ?_ ?_); (rotate_left 2); (· (simp [Region.wanted, yielded]; done)); (· (intro w' hS'; go_simp; try (with_reducible rfl))); (· (simp only [List.getElem_toArray, List.getElem_cons_zero, List.getElem_cons_succ, Act.put, List.setIfInBounds_toArray, List.set_cons_zero, List.set_cons_succ]; exact rfl))) | ((refine takeY_call (v := ?_) (a' := ?_) 55 ?_ ?_ ?_ ?_ ?_ ?_); (rotate_left 3); (· (simp [Region.wanted, yielded]; done)); (· (intro w' hS'; go_simp; try (with_reducible rfl))); (· (intro w' hS'; exact iUnder_any _ _ _)); (· (simp only [List.getElem_toArray, List.getElem_cons_zero, List.getElem_cons_succ, Act.put, List.setIfInBounds_toArray, List.set_cons_zero, List.set_cons_succ]; exact rfl))))
              refine takeY_nil (then_cons ?_)
              obtain ⟨k2, n2, ks2, hn2⟩ := tm_eta (numI h (d + under 1 j) (.mk k' n' ks'))
              have hn2' := hide hn2
              clear hn2
              go_wp2_with (go_at_call 28; refine (ih k' n' ks' A' c' (d + under 1 j) _ (by omega) H4.out (by omega) (by omega) hrx.drew).mono ?_; rw [hn2'.out]; rintro e w1 ⟨A1, c1, rfl, hl1, hf1, hb1⟩; simp only [Tm.k, Tm.n, Tm.ks] at hl1 hf1 ⊢)
              have hx1 : Below wx.heap.size wx w1 := (Below.refl wx.heap.size wx).drew.trans hb1
              refine mid_intro hx1 (then_cons ?_)
              go_wp2_with fail
              refine mid_intro (hx1.alloc hx1.size _) (then_nil ?_)
              refine wpList_append_built (B := w.heap.size + 3) (m := j) hpx.drew hb1 (by simp; omega) hf1 hl1 (by rw [numIL_length]; simp; omega) (by omega) rfl (.tmp 48) (.tmp 58) rfl rfl rfl ?_
              intro A2 c2 w2 hp2 hb2 hg2
              have q3 : Blk w2 (w.heap.size + 1 + 1) #[.int .i64 1, .int .i64 n, v] := (hB3x.below hx1 (by omega)).below hb2 (by omega)
              have q2 : Blk w2 (w.heap.size + 1) #[.int .i64 0, .int .i64 0, .slice none 0 0] := (hB2x.below hx1 (by omega)).below hb2 (by omega)
              have q1' : Blk w2 w.heap.size #[.int .i64 1, .int .i64 n, .slice (some ⟨b, off, none⟩) ks.length c] := (hB1x.below hx1 (by omega)).below hb2 (by omega)
              have c3 : w2.cell? ⟨w.heap.size + 1 + 1, 2, none⟩ = some v := q3.at_ rfl
              have z3 := q3.frozen 2
              have hbf : Below w.heap.size w w2 := (hbx.trans (hx1.mono (by omega))).trans (hb2.mono (by omega))
              clear x2 y0 y1 y2 b0 hpx hrx hB3x hB2x hbx
              go_wp2_with fail
              go_roundw
              case rel => exact ⟨j + 1, _, by omega, by go_num, by rw [numIL_take h 1 d hlt, H3.out, hn2'.out]; exact hp2.setCell (by simp) _, q3.set_ 2 _, q2.far (by simp) _, q1'.far (by simp; omega) _, hbf.setCell (by simp; omega) _⟩
              case measure => simp [intOf]; omega
            · have hjl : j = ks.length := by omega
              subst hjl
              rw [List.take_length] at hp
              obtain ⟨Ar, cr, rfl, hfr⟩ := hp.fresh
              have c0 : wr.cell? ⟨w.heap.size + 1 + 1, 0, none⟩ = some (.int .i64 1) := hB3.at_ rfl
              have c1 : wr.cell? ⟨w.heap.size + 1 + 1, 1, none⟩ = some (.int .i64 n) := hB3.at_ rfl
              have c2 : wr.cell? ⟨w.heap.size + 1 + 1, 2, none⟩ = some (.slice Ar (numIL h 1 d 0 ks).length cr) := hB3.at_ rfl
              have d0 : wr.cell? ⟨w.heap.size + 1, 0, none⟩ = some (.int .i64 0) := hB2.at_ rfl
              have d1 : wr.cell? ⟨w.heap.size + 1, 1, none⟩ = some (.int .i64 0) := hB2.at_ rfl
              have d2 : wr.cell? ⟨w.heap.size + 1, 2, none⟩ = some (.slice none 0 0) := hB2.at_ rfl
              have e0 := hB2.frozen 0
              have e1 := hB2.frozen 1
              have e2 := hB2.frozen 2
              go_wp2_with fail
              refine bodyPost_ret (v := .agg #[.int .i64 1, .int .i64 n, .slice Ar (numIL h 1 d 0 ks).length cr]) (by simp [results, Try.results28, go_sem, d0, d1, d2]) rfl ⟨Ar, cr, rfl, by rw [numIL_length]; omega, ?_, ?_⟩
              · exact (((hfr.setCell (by simp) _).setCell (by simp) _).setCell (by simp) _).mono (by omega)
              · exact ((hb.setCell (by simp) _).setCell (by simp) _).setCell (by simp) _
        · have q1 : (k == 1) = false := by simpa using hk1
          clear hk hv hk1
          go_enter Try.func28, Try.ntmps28
          go_wp2_with fail
          go_loopw [42] (fun i wr => ∃ (j : Nat) (v : Value), j ≤ ks.length ∧ i = .int .i64 j ∧ Part (w.heap.size + 3) wr v (numIL h k d 0 (ks.take j)) ∧ Blk wr (w.heap.size + 1 + 1) #[.int .i64 k, .int .i64 n, v] ∧ Blk wr (w.heap.size + 1) #[.int .i64 0, .int .i64 0, .slice none 0 0] ∧ Blk wr w.heap.size #[.int .i64 k, .int .i64 n, .slice A ks.length c] ∧ Below w.heap.size w wr)
            (fun i _ => ks.length - (intOf i).toNat)
          case atStart => exact ⟨0, _, Nat.zero_le _, rfl, Part.nil, Blk.new_ _ _ _ (by simp), (Blk.new_ _ _ _ (by simp)).alloc _, ((Blk.new_ _ _ _ rfl).alloc _).alloc _, (((Below.refl _ _).alloc (by simp) _).alloc (by simp) _).alloc (by simp; omega) _⟩
          case round =>
            obtain ⟨j, v, hj, rfl, hp, hB3, hB2, hB1, hb⟩ := hrel
            by_cases hlt : j < ks.length
            · obtain ⟨b, off, k', n', ks', A', c', rfl, hkj, hc1, hc2, hc3, hl', hr'⟩ := (hr.below hb).at_ hlt
              have hsz := sizes_le (List.getElem_mem hlt)
              have hsk := hkids'.out _ (List.getElem_mem hlt)
              rw [hkj] at hsz hsk
              simp only [Tm.size] at hsz
              have H3 := hide hkj
              have H4 := hide hsk
              clear hkj hsk
              have hz := hB3.lt
              have b1z := hB1.lt
              go_wp2_with fail
              refine name_world ?_
              intro wx hwx
              have hXB : Blk wx wr.heap.size #[.int .i64 k', .int .i64 n', .slice A' ks'.length c'] := by rw [hwx]; exact Blk.new_ _ _ _ rfl
              have hpx : Part (w.heap.size + 3) wx v (numIL h k d 0 (ks.take j)) := by rw [hwx]; exact hp.alloc _
              have hrx : Rd wx A' 0 ks' := by rw [hwx]; exact hr'.alloc _
              have hB3x : Blk wx (w.heap.size + 1 + 1) #[.int .i64 k, .int .i64 n, v] := by rw [hwx]; exact hB3.alloc _
              have hB2x : Blk wx (w.heap.size + 1) #[.int .i64 0, .int .i64 0, .slice none 0 0] := by rw [hwx]; exact hB2.alloc _
              have hB1x : Blk wx w.heap.size #[.int .i64 k, .int .i64 n, .slice (some ⟨b, off, none⟩) ks.length c] := by rw [hwx]; exact hB1.alloc _
              have hbx : Below w.heap.size w wx := by rw [hwx]; exact hb.alloc hb.size _
              have hs1 : wr.heap.size < wx.heap.size := by rw [hwx]; simp
              have hs2 : w.heap.size + 1 + 1 < wx.heap.size := by omega
              have x2 := hB3x.rule (i := 2) rfl
              have b0 := hB1x.rule (i := 0) rfl
              have y0 := hXB.rule (i := 0) rfl
              have y1 := hXB.rule (i := 1) rfl
              have y2 := hXB.rule (i := 2) rfl
              have hun := under_le k j
              clear hwx
              refine wp_region_firstY (fun w' => Below wx.heap.size wx w') [0, 1, 2, 3, 4, 5, 6, 7, 8, 9] [10, 11] [12, 13, 14] [_, _, _, _, _, _, _, _, _, _] [_, _] [_, _, _] (by kernel_rfl) (by kernel_rfl) rfl rfl rfl (fun _ _ d _ _ h => by cases d <;> exact h) (Below.refl _ _).drew ?_
              repeat (first | ((refine takeY_skip (a' := ?_) ?_ ?_ ?_); (rotate_left); (· (simp [Region.wanted, yielded]; done)); (· (simp only [List.getElem_toArray, List.getElem_cons_zero, List.getElem_cons_succ, Act.put, List.setIfInBounds_toArray, List.set_cons_zero, List.set_cons_succ]; exact rfl))) | ((refine takeY_step (v := ?_) (a' := ?_) ?_ ?_ ?_ ?_); (rotate_left 2); (· (simp [Region.wanted, yielded]; done)); (· (intro w' hS'; go_simp; try (with_reducible rfl))); (· (simp only [List.getElem_toArray, List.getElem_cons_zero, List.getElem_cons_succ, Act.put, List.setIfInBounds_toArray, List.set_cons_zero, List.set_cons_succ]; exact rfl))) | ((refine takeY_call (v := ?_) (a' := ?_) 55 ?_ ?_ ?_ ?_ ?_ ?_); (rotate_left 3); (· (simp [Region.wanted, yielded]; done)); (· (intro w' hS'; go_simp; try (with_reducible rfl))); (· (intro w' hS'; exact iUnder_any _ _ _)); (· (simp only [List.getElem_toArray, List.getElem_cons_zero, List.getElem_cons_succ, Act.put, List.setIfInBounds_toArray, List.set_cons_zero, List.set_cons_succ]; exact rfl))))
              refine takeY_nil (then_cons ?_)
              obtain ⟨k2, n2, ks2, hn2⟩ := tm_eta (numI h (d + under k j) (.mk k' n' ks'))
              have hn2' := hide hn2
              clear hn2
              go_wp2_with (go_at_call 28; refine (ih k' n' ks' A' c' (d + under k j) _ (by omega) H4.out (by omega) (by omega) hrx.drew).mono ?_; rw [hn2'.out]; rintro e w1 ⟨A1, c1, rfl, hl1, hf1, hb1⟩; simp only [Tm.k, Tm.n, Tm.ks] at hl1 hf1 ⊢)
              have hx1 : Below wx.heap.size wx w1 := (Below.refl wx.heap.size wx).drew.trans hb1
              refine mid_intro hx1 (then_cons ?_)
              go_wp2_with fail
              refine mid_intro (hx1.alloc hx1.size _) (then_nil ?_)
              refine wpList_append_built (B := w.heap.size + 3) (m := j) hpx.drew hb1 (by simp; omega) hf1 hl1 (by rw [numIL_length]; simp; omega) (by omega) rfl (.tmp 48) (.tmp 58) rfl rfl rfl ?_
              intro A2 c2 w2 hp2 hb2 hg2
              have q3 : Blk w2 (w.heap.size + 1 + 1) #[.int .i64 k, .int .i64 n, v] := (hB3x.below hx1 (by omega)).below hb2 (by omega)
              have q2 : Blk w2 (w.heap.size + 1) #[.int .i64 0, .int .i64 0, .slice none 0 0] := (hB2x.below hx1 (by omega)).below hb2 (by omega)
              have q1' : Blk w2 w.heap.size #[.int .i64 k, .int .i64 n, .slice (some ⟨b, off, none⟩) ks.length c] := (hB1x.below hx1 (by omega)).below hb2 (by omega)
              have c3 : w2.cell? ⟨w.heap.size + 1 + 1, 2, none⟩ = some v := q3.at_ rfl
              have z3 := q3.frozen 2
              have hbf : Below w.heap.size w w2 := (hbx.trans (hx1.mono (by omega))).trans (hb2.mono (by omega))
              clear x2 y0 y1 y2 b0 hpx hrx hB3x hB2x hbx
              go_wp2_with fail
              go_roundw
              case rel => exact ⟨j + 1, _, by omega, by go_num, by rw [numIL_take h k d hlt, H3.out, hn2'.out]; exact hp2.setCell (by simp) _, q3.set_ 2 _, q2.far (by simp) _, q1'.far (by simp; omega) _, hbf.setCell (by simp; omega) _⟩
              case measure => simp [intOf]; omega
            · have hjl : j = ks.length := by omega
              subst hjl
              rw [List.take_length] at hp
              obtain ⟨Ar, cr, rfl, hfr⟩ := hp.fresh
              have c0 : wr.cell? ⟨w.heap.size + 1 + 1, 0, none⟩ = some (.int .i64 k) := hB3.at_ rfl
              have c1 : wr.cell? ⟨w.heap.size + 1 + 1, 1, none⟩ = some (.int .i64 n) := hB3.at_ rfl
              have c2 : wr.cell? ⟨w.heap.size + 1 + 1, 2, none⟩ = some (.slice Ar (numIL h k d 0 ks).length cr) := hB3.at_ rfl
              have d0 : wr.cell? ⟨w.heap.size + 1, 0, none⟩ = some (.int .i64 0) := hB2.at_ rfl
              have d1 : wr.cell? ⟨w.heap.size + 1, 1, none⟩ = some (.int .i64 0) := hB2.at_ rfl
              have d2 : wr.cell? ⟨w.heap.size + 1, 2, none⟩ = some (.slice none 0 0) := hB2.at_ rfl
              have e0 := hB2.frozen 0
              have e1 := hB2.frozen 1
              have e2 := hB2.frozen 2
              go_wp2_with fail
              refine bodyPost_ret (v := .agg #[.int .i64 k, .int .i64 n, .slice Ar (numIL h k d 0 ks).length cr]) (by simp [results, Try.results28, go_sem, d0, d1, d2]) rfl ⟨Ar, cr, rfl, by rw [numIL_length]; omega, ?_, ?_⟩
              · exact (((hfr.setCell (by simp) _).setCell (by simp) _).setCell (by simp) _).mono (by omega)
              · exact ((hb.setCell (by simp) _).setCell (by simp) _).setCell (by simp) _
      exact enter trivial
end Go.Proofs.Ytgmljpmnfncceaa

namespace Go.Proofs.Ytgmljpmnfncceaa
open Go.RowKit
set_option linter.unusedSimpArgs false
set_option linter.unusedVariables false

theorem idx2_lt {x y : Tm} : ∀ {l r : List Tm} {i : Nat}, idx2 x y l r = some i → i < l.length
  | [], _, i, h => by simp [idx2] at h
  | a :: l, [], i, h => by simp [idx2] at h
  | a :: l, b :: r, i, h => by
    rw [idx2] at h
    split at h
    · injection h with h; subst h; simp
    · cases h2 : idx2 x y l r with
      | none => rw [h2] at h; cases h
      | some j =>
        rw [h2] at h
        simp only [Option.map_some, Option.some.injEq] at h
        subst h
        have := idx2_lt h2
        simpa using this
theorem most_le (k : Int) : mostN k ≤ 1000 := by unfold mostN; repeat' split
                                                 all_goals omega
theorem holeOf_good {H : Nat → Tm} (hH : ∀ i, i ≤ 100000 → nbd (H i) = true ∧ (H i).size = 1) {d : Int} {t u : Tm} {m : Nat} {st : Prs} {o : Tm} {st' : Prs} (hst : PrsOk m st) (hm : m ≤ 100000) (h : holeOf H d t u st = some (o, st')) : nbd o = true ∧ o.size = 1 := by
  unfold holeOf at h
  cases h1 : shiftI (-d) 0 t with
  | none => rw [h1] at h; cases h
  | some x =>
    cases h2 : shiftI (-d) 0 u with
    | none => rw [h1, h2] at h; cases h
    | some y =>
      rw [h1, h2] at h
      simp only at h
      cases hi : idx2 x y st.1 st.2 with
      | some i => rw [hi] at h; cases h; exact hH i (by have := idx2_lt hi; have := hst.2.1; omega)
      | none => rw [hi] at h; cases h; exact hH _ (by have := hst.2.1; omega)
theorem nbds_all {ks : List Tm} (h : ∀ t, t ∈ ks → nbd t = true) : nbd.nbds ks = true := by
  induction ks with
  | nil => rfl
  | cons a ts ih => rw [nbd.nbds, Bool.and_eq_true]; exact ⟨h a (by simp), ih fun t ht => h t (by simp [ht])⟩
theorem cm_good {H : Nat → Tm} (hH : ∀ i, i ≤ 100000 → nbd (H i) = true ∧ (H i).size = 1) (t : Tm) : ∀ (q : Nat) (d : Int) (u : Tm) (m : Nat) (st : Prs) (o : Tm) (st' : Prs), shape q t = true → PrsOk m st → m + t.size ≤ 100000 → cm H d t u st = some (o, st') → nbd o = true ∧ o.size ≤ t.size := by
  refine (Tm.ind2 (p := fun t => ∀ (q : Nat) (d : Int) (u : Tm) (m : Nat) (st : Prs) (o : Tm) (st' : Prs), shape q t = true → PrsOk m st → m + t.size ≤ 100000 → cm H d t u st = some (o, st') → nbd o = true ∧ o.size ≤ t.size)
    (q := fun ts => ∀ (q : Nat) (k d : Int) (i : Nat) (us : List Tm) (m : Nat) (st : Prs) (os : List Tm) (st' : Prs), (∀ t, t ∈ ts → shape q t = true) → PrsOk m st → m + sizes ts ≤ 100000 → cmL H k d i ts us st = some (os, st') → (∀ o, o ∈ os → nbd o = true) ∧ sizes os ≤ sizes ts) ?_ ?_ ?_).1 t
  · intro k n ks ih q d u m st o st' hs hst hm h
    obtain ⟨q, rfl, ha, hn0, hn1, hk⟩ := shape_pos hs
    rw [Tm.size] at hm ⊢
    have hole : holeOf H d (.mk k n ks) u st = some (o, st') → nbd o = true ∧ o.size ≤ sizes ks + 1 := fun hh => by have := holeOf_good hH hst (by omega) hh; exact ⟨this.1, by omega⟩
    rw [cm] at h
    split at h
    · cases hc : cmL H k d 0 ks u.kids st with
      | none => rw [hc] at h; exact hole h
      | some r =>
        obtain ⟨os, s⟩ := r
        rw [hc] at h
        cases h
        obtain ⟨h1, h2⟩ := ih q k d 0 u.kids m st os _ hk hst (by omega) hc
        refine ⟨?_, by rw [Tm.size]; omega⟩
        rw [nbd, Bool.and_eq_true, Bool.and_eq_true, decide_eq_true_eq, decide_eq_true_eq]
        exact ⟨⟨hn0, by have := most_le k; omega⟩, nbds_all h1⟩
    · exact hole h
  · intro q k d i us m st os st' _ _ _ h
    rw [cmL] at h
    · cases h; exact ⟨fun o ho => (by cases ho), Nat.le_refl _⟩
    · simp
  · intro t ts h1 h2 q k d i us m st os st' hk hst hm h
    rw [sizes] at hm ⊢
    cases us with
    | nil => rw [cmL] at h; cases h; exact ⟨fun o ho => (by cases ho), by simp [sizes]⟩; simp
    | cons u us =>
      rw [cmL] at h
      cases hc1 : cm H (d + under k (i : Nat)) t u st with
      | none => rw [hc1] at h; cases h
      | some r =>
        obtain ⟨o, s⟩ := r
        rw [hc1] at h
        simp only at h
        cases hc2 : cmL H k d (i + 1) ts us s with
        | none => rw [hc2] at h; cases h
        | some r2 =>
          obtain ⟨os2, s2⟩ := r2
          rw [hc2] at h
          cases h
          have a1 := h1 q _ u m st o s (hk t (by simp)) hst (by omega) hc1
          have a2 := h2 q k d (i + 1) us (m + t.size) s os2 _ (fun x hx => hk x (by simp [hx])) (cm_ok H t _ _ _ _ _ _ hst hc1) (by omega) hc2
          refine ⟨fun x hx => ?_, by rw [sizes]; omega⟩
          rcases List.mem_cons.1 hx with rfl | hx
          · exact a1.1
          · exact a2.1 x hx
theorem holeS_good : ∀ i, i ≤ 100000 → nbd (holeS i) = true ∧ (holeS i).size = 1 := fun i hi => ⟨by simp [holeS, nbd, nbd.nbds]; omega, by simp [holeS, Tm.size, sizes]⟩
theorem numS_size (h : Int) (t : Tm) : ∀ (d : Int), (numS h d t).size = t.size := by
  refine (Tm.ind2 (p := fun t => ∀ d : Int, (numS h d t).size = t.size) (q := fun ts => ∀ (k d : Int) (i : Nat), sizes (numSL h k d i ts) = sizes ts) ?_ ?_ ?_).1 t
  · intro k n ks ih d; rw [numS, Tm.size, Tm.size, ih]
  · intro k d i; rw [numSL]
  · intro t ts h1 h2 k d i; rw [numSL, sizes, sizes, h1, h2]
/-- what CommonPattern of the reference answers -/
def cpS (a b : Tm) : Option (Tm × Prs) :=
  if validT a = true ∧ validT b = true then
    match cm holeS 0 a b ([], []) with
    | none => none
    | some (t, st) => if st.1.length ≤ 6 ∧ validT (numS st.1.length 0 t) = true then some (numS st.1.length 0 t, st) else none
  else none
def CpS (w : World) (r : Option (Tm × Prs)) (e : Ending) (w' : World) : Prop :=
  match r with
  | none => (∃ X c, e = .returned (.tuple #[.agg #[.int .i64 0, .int .i64 0, .slice none 0 0], .slice X 0 c, .slice X 0 c, .bool false])) ∧ Below w.heap.size w w'
  | some (t, st) => ∃ A c L cl R cr, e = .returned (.tuple #[.agg #[.int .i64 t.k, .int .i64 t.n, .slice A t.ks.length c], .slice L st.1.length cl, .slice R st.1.length cr, .bool true]) ∧ t.ks.length ≤ 9223372036854775807 ∧ RdP (fun b => w.heap.size ≤ b) w' A 0 t.ks ∧ RdP (fun b => w.heap.size ≤ b) w' L 0 st.1 ∧ RdP (fun b => w.heap.size ≤ b) w' R 0 st.2 ∧ Below w.heap.size w w'
set_option maxHeartbeats 8000000 in
set_option maxRecDepth 100000 in
theorem sCommonPattern_any (k n : Int) (ks : List Tm) (A : Option Addr) (c : Nat) (ku nu : Int) (us : List Tm) (U : Option Addr) (cu : Nat) (w : World) (hM : sizes ks ≤ 1000000000) (hMu : sizes us ≤ 1000000000) (hr : Rd w A 0 ks) (hru : Rd w U 0 us) :
    Calls Try.prog 6 #[.agg #[.int .i64 k, .int .i64 n, .slice A ks.length c], .agg #[.int .i64 ku, .int .i64 nu, .slice U us.length cu]] w (CpS w (cpS (.mk k n ks) (.mk ku nu us))) := by
  have hlen := length_le_sizes ks
  have hlenu := length_le_sizes us
  go_enter Try.func6, Try.ntmps6
  go_upto_region 2 with fail
  refine name_world ?_
  intro w0 hw0
  have hF0 : Fr w k n ks A c ku nu us U cu w0 := by
    rw [hw0]
    exact Fr.alloc ⟨((Blk.new_ _ 28 _ rfl).alloc _).alloc _, (Blk.new_ _ 28 _ (by simp)).alloc _, Blk.new_ _ 28 _ (by simp), by_alloc (by_alloc (by_alloc (by_refl _) _) _) _⟩ _
  have hsz0 := hF0.size
  clear hw0
  obtain ⟨x0, x1, x2⟩ := hF0.h0.three
  obtain ⟨y0, y1, y2⟩ := hF0.h1.three
  cases hva : validT (.mk k n ks) with
  | false =>
    have hz : cpS (.mk k n ks) (.mk ku nu us) = none := by rw [cpS, hva, if_neg (by simp)]
    have hz' := hide hz
    have hva' := hide hva
    clear hz hva
    go_wp2_with (go_at_call 21; refine (sTermValid_any k n ks A c _ (by omega) (hr.below hF0.hb)).mono ?_; rw [hva'.out]; rintro e w1 ⟨rfl, hb1⟩; have hF1 := hF0.below hb1; obtain ⟨d0, d1, d2⟩ := hF1.h2.three; have e0 := hF1.h2.frozen 0; have e1 := hF1.h2.frozen 1; have e2 := hF1.h2.frozen 2)
    refine bodyPost_ret (v := .tuple #[.agg #[.int .i64 0, .int .i64 0, .slice none 0 0], .slice (some ⟨w.heap.size + 1 + 1 + 1, 0, none⟩) 0 0, .slice (some ⟨w.heap.size + 1 + 1 + 1, 0, none⟩) 0 0, .bool false]) ?_ rfl ?_
    · simp [results, Try.results6, go_sem, d0, d1, d2]
    · rw [hz'.out]
      exact ⟨⟨_, _, rfl⟩, by_set3 hF1.hb (by omega) _ _ _⟩
  | true =>
    cases hvb : validT (.mk ku nu us) with
    | false =>
      have hz : cpS (.mk k n ks) (.mk ku nu us) = none := by rw [cpS, hvb, if_neg (by simp)]
      have hz' := hide hz
      have hva' := hide hva
      have hvb' := hide hvb
      clear hz hva hvb
      go_wp2_with (first
        | (go_at_call 21; have _t := tok1; refine (sTermValid_any ku nu us U cu _ (by omega) (hru.below hF1.hb)).mono ?_; rw [hvb'.out]; rintro e w2 ⟨rfl, hb2⟩; have hF2 := hF1.below hb2; obtain ⟨d0, d1, d2⟩ := hF2.h2.three; have e0 := hF2.h2.frozen 0; have e1 := hF2.h2.frozen 1; have e2 := hF2.h2.frozen 2)
        | (go_at_call 21; refine (sTermValid_any k n ks A c _ (by omega) (hr.below hF0.hb)).mono ?_; rw [hva'.out]; rintro e w1 ⟨rfl, hb1⟩; have hF1 := hF0.below hb1; clear x0 x1 x2 y0 y1 y2; obtain ⟨x0, x1, x2⟩ := hF1.h0.three; obtain ⟨y0, y1, y2⟩ := hF1.h1.three; have tok1 := trivial))
      refine bodyPost_ret (v := .tuple #[.agg #[.int .i64 0, .int .i64 0, .slice none 0 0], .slice (some ⟨w.heap.size + 1 + 1 + 1, 0, none⟩) 0 0, .slice (some ⟨w.heap.size + 1 + 1 + 1, 0, none⟩) 0 0, .bool false]) ?_ rfl ?_
      · simp [results, Try.results6, go_sem, d0, d1, d2]
      · rw [hz'.out]
        exact ⟨⟨_, _, rfl⟩, by_set3 hF2.hb (by omega) _ _ _⟩
    | true =>
      have hzk := validT_size hva
      have hzu := validT_size hvb
      have hsa : shape 30 (.mk k n ks) = true := by simp only [validT, Bool.and_eq_true] at hva; exact hva.1
      have hsh := hide hsa
      clear hsa
      rw [Tm.size] at hzk hzu
      have prs0 : PrsOk 0 ([], []) := ⟨rfl, Nat.le_refl _, fun x hx => (by cases hx), fun x hx => (by cases hx)⟩
      cases hcm : cm holeS 0 (.mk k n ks) (.mk ku nu us) ([], []) with
      | none =>
        have hz : cpS (.mk k n ks) (.mk ku nu us) = none := by rw [cpS, if_pos ⟨hva, hvb⟩, hcm]
        have hz' := hide hz
        have hva' := hide hva
        have hvb' := hide hvb
        have hcm' := hide hcm
        clear hz hva hvb hcm
        go_upto_region 5 with (first
          | (go_at_call 22; have _t := tok2; refine (sCommon_any _ (fun _ => False) k n ks A c ku nu us U cu 0 [] [] none none 0 0 0 _ (Nat.lt_succ_self _) hva'.out hvb'.out (Int.le_refl 0) (by omega) prs0 (by omega) (hr.below hF2.hb) (hru.below hF2.hb) (fun b hb => hb.elim) RdP.nil RdP.nil).mono ?_; rw [hcm'.out]; intro e w3 hcs; obtain ⟨⟨xv, yv, rfl⟩, hb3⟩ := cmS_none hcs; have hF3 := hF2.below hb3)
          | (go_at_call 21; have _t := tok1; refine (sTermValid_any ku nu us U cu _ (by omega) (hru.below hF1.hb)).mono ?_; rw [hvb'.out]; rintro e w2 ⟨rfl, hb2⟩; have hF2 := hF1.below hb2; clear x0 x1 x2 y0 y1 y2; obtain ⟨x0, x1, x2⟩ := hF2.h0.three; obtain ⟨y0, y1, y2⟩ := hF2.h1.three; have tok2 := trivial)
          | (go_at_call 21; refine (sTermValid_any k n ks A c _ (by omega) (hr.below hF0.hb)).mono ?_; rw [hva'.out]; rintro e w1 ⟨rfl, hb1⟩; have hF1 := hF0.below hb1; clear x0 x1 x2 y0 y1 y2; obtain ⟨x0, x1, x2⟩ := hF1.h0.three; obtain ⟨y0, y1, y2⟩ := hF1.h1.three; have tok1 := trivial))
        refine name_world ?_
        intro wq hwq
        have hFq : Fr w k n ks A c ku nu us U cu wq := by rw [hwq]; exact hF3.alloc _
        clear hwq
        obtain ⟨d0, d1, d2⟩ := hFq.h2.three
        have e0 := hFq.h2.frozen 0
        have e1 := hFq.h2.frozen 1
        have e2 := hFq.h2.frozen 2
        go_wp2_with fail
        refine bodyPost_ret (v := .tuple #[.agg #[.int .i64 0, .int .i64 0, .slice none 0 0], .slice (some ⟨w.heap.size + 1 + 1 + 1, 0, none⟩) 0 0, .slice (some ⟨w.heap.size + 1 + 1 + 1, 0, none⟩) 0 0, .bool false]) ?_ rfl ?_
        · simp [results, Try.results6, go_sem, d0, d1, d2]
        · rw [hz'.out]
          exact ⟨⟨_, _, rfl⟩, by_set3 hFq.hb (by omega) _ _ _⟩
      | some res =>
        obtain ⟨⟨ko, no, kso⟩, l, r⟩ := res
        have hg := cm_good holeS_good _ 30 _ _ 0 _ _ _ hsh.out prs0 (by rw [Tm.size]; omega) hcm
        have hok := cm_ok holeS _ _ _ _ _ _ _ prs0 hcm
        rw [Tm.size, Tm.size] at hg
        rw [Tm.size] at hok
        have hrl := hide hok.1
        have hll : l.length ≤ 400 := by have := hok.2.1; simp only at this; omega
        have hnb := hide hg.1
        have hso : sizes kso ≤ 399 := by have := hg.2; omega
        have hva' := hide hva
        have hvb' := hide hvb
        have hcm' := hide hcm
        by_cases h6 : l.length ≤ 6
        · have hsn := numS_size (l.length : Int) (.mk ko no kso) 0
          rw [numS] at hsn
          obtain ⟨nn, hnn⟩ : ∃ nn, (if ko = 1 ∧ 100 ≤ no then no - 100 + 0 else if ko = 1 ∧ 0 ≤ no then no + (l.length : Int) else no) = nn := ⟨_, rfl⟩
          obtain ⟨K, hnk⟩ : ∃ K, numSL (l.length : Int) ko 0 0 kso = K := ⟨_, rfl⟩
          have hkk : numS (l.length : Int) 0 (.mk ko no kso) = .mk ko nn K := by rw [numS, hnn, hnk]
          rw [hnn, hnk, Tm.size, Tm.size] at hsn
          have hsK : sizes K ≤ 399 := by omega
          have hKl := length_le_sizes K
          have hnn' := hide hnn
          have hnk' := hide hnk
          cases hvo : validT (.mk ko nn K) with
          | false =>
            have hz : cpS (.mk k n ks) (.mk ku nu us) = none := by
              rw [cpS, if_pos ⟨hva, hvb⟩, hcm]
              refine if_neg (fun h => ?_)
              have h2 := h.2
              simp only at h2
              rw [hkk, hvo] at h2
              cases h2
            have hz' := hide hz
            have hvo' := hide hvo
            clear hz hva hvb hcm hg hok hnn hnk hkk hsn hvo
            go_wp2_with (first
              | (go_at_call 21; have _t := tok4; refine (sTermValid_any ko nn K A4 c4 _ (by omega) (r4.alloc _).rd).mono ?_; rw [hvo'.out]; rintro e w5 ⟨rfl, hb5⟩; have hF5 := (hF4.alloc (.cells #[.int .i64 ko, .int .i64 nn, .slice A4 K.length c4] 28)).below hb5; replace hX4 := hX4.keep hb5; obtain ⟨z0, z1, z2⟩ := hX4.three; have rL5 := (rL4.alloc (.cells #[.int .i64 ko, .int .i64 nn, .slice A4 K.length c4] 28)).below hb5; have rR5 := (rR4.alloc (.cells #[.int .i64 ko, .int .i64 nn, .slice A4 K.length c4] 28)).below hb5; have r5 := (r4.alloc (.cells #[.int .i64 ko, .int .i64 nn, .slice A4 K.length c4] 28)).below hb5; obtain ⟨d0, d1, d2⟩ := hF5.h2.three; have e0 := hF5.h2.frozen 0; have e1 := hF5.h2.frozen 1; have e2 := hF5.h2.frozen 2)
              | (go_at_call 23; have _t := tok3; refine (sNumber_any (l.length : Int) (by omega) _ ko no kso Ao co 0 _ (Nat.lt_succ_self _) hnb.out (Int.le_refl 0) (by omega) rd3).mono ?_; rw [hnn'.out, hnk'.out]; rintro e w4 ⟨A4, c4, rfl, hl4, hf4, hb4⟩; have hF4 := hF3.below hb4; have rL4 := rL3.below hb4; have rR4 := rR3.below hb4; have r4 := (Fresh.rdp hf4); have hX4 := Blk.new_ w4 28 #[.int .i64 ko, .int .i64 nn, .slice A4 K.length c4] rfl; have tok4 := trivial)
              | (go_at_call 22; have _t := tok2; refine (sCommon_any _ (fun _ => False) k n ks A c ku nu us U cu 0 [] [] none none 0 0 0 _ (Nat.lt_succ_self _) hva'.out hvb'.out (Int.le_refl 0) (by omega) prs0 (by omega) (hr.below hF2.hb) (hru.below hF2.hb) (fun b hb => hb.elim) RdP.nil RdP.nil).mono ?_; rw [hcm'.out]; intro e w3 hcs; obtain ⟨Ao, co, L2, cl2, R2, cr2, rfl, hlo, hko, hL2, hR2, hb3⟩ := cmS_someK hcs; have hs3 := hF2.size; have hF3 := (hF2.below hb3).alloc (.cells #[.int .i64 ko, .int .i64 no, .slice Ao kso.length co] 28); have rL3 : RdP (fun b => w.heap.size + 3 ≤ b) (w3.alloc (.cells #[.int .i64 ko, .int .i64 no, .slice Ao kso.length co] 28)) L2 0 l := ((hL2.alloc _).mono (fun b hb => hb.elim False.elim (fun h => by omega))); have rR3 : RdP (fun b => w.heap.size + 3 ≤ b) (w3.alloc (.cells #[.int .i64 ko, .int .i64 no, .slice Ao kso.length co] 28)) R2 0 r := ((hR2.alloc _).mono (fun b hb => hb.elim False.elim (fun h => by omega))); have rd3 := (hko.alloc (.cells #[.int .i64 ko, .int .i64 no, .slice Ao kso.length co] 28)).rd; have tok3 := trivial)
              | (go_at_call 21; have _t := tok1; refine (sTermValid_any ku nu us U cu _ (by omega) (hru.below hF1.hb)).mono ?_; rw [hvb'.out]; rintro e w2 ⟨rfl, hb2⟩; have hF2 := hF1.below hb2; clear x0 x1 x2 y0 y1 y2; obtain ⟨x0, x1, x2⟩ := hF2.h0.three; obtain ⟨y0, y1, y2⟩ := hF2.h1.three; have tok2 := trivial)
              | (go_at_call 21; refine (sTermValid_any k n ks A c _ (by omega) (hr.below hF0.hb)).mono ?_; rw [hva'.out]; rintro e w1 ⟨rfl, hb1⟩; have hF1 := hF0.below hb1; clear x0 x1 x2 y0 y1 y2; obtain ⟨x0, x1, x2⟩ := hF1.h0.three; obtain ⟨y0, y1, y2⟩ := hF1.h1.three; have tok1 := trivial))
            refine bodyPost_ret (v := .tuple #[.agg #[.int .i64 0, .int .i64 0, .slice none 0 0], .slice (some ⟨w.heap.size + 1 + 1 + 1, 0, none⟩) 0 0, .slice (some ⟨w.heap.size + 1 + 1 + 1, 0, none⟩) 0 0, .bool false]) ?_ rfl ?_
            · simp [results, Try.results6, go_sem, d0, d1, d2]
            · rw [hz'.out]
              exact ⟨⟨_, _, rfl⟩, by_set3 hF5.hb (by omega) _ _ _⟩
          | true =>
            have hz : cpS (.mk k n ks) (.mk ku nu us) = some (.mk ko nn K, (l, r)) := by
              rw [cpS, if_pos ⟨hva, hvb⟩, hcm]
              simp only
              rw [hkk, if_pos ⟨h6, hvo⟩]
            have hz' := hide hz
            have hvo' := hide hvo
            clear hz hva hvb hcm hg hok hnn hnk hkk hsn hvo
            go_wp2_with (first
              | (go_at_call 21; have _t := tok4; refine (sTermValid_any ko nn K A4 c4 _ (by omega) (r4.alloc _).rd).mono ?_; rw [hvo'.out]; rintro e w5 ⟨rfl, hb5⟩; have hF5 := (hF4.alloc (.cells #[.int .i64 ko, .int .i64 nn, .slice A4 K.length c4] 28)).below hb5; replace hX4 := hX4.keep hb5; obtain ⟨z0, z1, z2⟩ := hX4.three; have rL5 := (rL4.alloc (.cells #[.int .i64 ko, .int .i64 nn, .slice A4 K.length c4] 28)).below hb5; have rR5 := (rR4.alloc (.cells #[.int .i64 ko, .int .i64 nn, .slice A4 K.length c4] 28)).below hb5; have r5 := (r4.alloc (.cells #[.int .i64 ko, .int .i64 nn, .slice A4 K.length c4] 28)).below hb5; obtain ⟨d0, d1, d2⟩ := hF5.h2.three; have e0 := hF5.h2.frozen 0; have e1 := hF5.h2.frozen 1; have e2 := hF5.h2.frozen 2)
              | (go_at_call 23; have _t := tok3; refine (sNumber_any (l.length : Int) (by omega) _ ko no kso Ao co 0 _ (Nat.lt_succ_self _) hnb.out (Int.le_refl 0) (by omega) rd3).mono ?_; rw [hnn'.out, hnk'.out]; rintro e w4 ⟨A4, c4, rfl, hl4, hf4, hb4⟩; have hF4 := hF3.below hb4; have rL4 := rL3.below hb4; have rR4 := rR3.below hb4; have r4 := (Fresh.rdp hf4); have hX4 := Blk.new_ w4 28 #[.int .i64 ko, .int .i64 nn, .slice A4 K.length c4] rfl; have tok4 := trivial)
              | (go_at_call 22; have _t := tok2; refine (sCommon_any _ (fun _ => False) k n ks A c ku nu us U cu 0 [] [] none none 0 0 0 _ (Nat.lt_succ_self _) hva'.out hvb'.out (Int.le_refl 0) (by omega) prs0 (by omega) (hr.below hF2.hb) (hru.below hF2.hb) (fun b hb => hb.elim) RdP.nil RdP.nil).mono ?_; rw [hcm'.out]; intro e w3 hcs; obtain ⟨Ao, co, L2, cl2, R2, cr2, rfl, hlo, hko, hL2, hR2, hb3⟩ := cmS_someK hcs; have hs3 := hF2.size; have hF3 := (hF2.below hb3).alloc (.cells #[.int .i64 ko, .int .i64 no, .slice Ao kso.length co] 28); have rL3 : RdP (fun b => w.heap.size + 3 ≤ b) (w3.alloc (.cells #[.int .i64 ko, .int .i64 no, .slice Ao kso.length co] 28)) L2 0 l := ((hL2.alloc _).mono (fun b hb => hb.elim False.elim (fun h => by omega))); have rR3 : RdP (fun b => w.heap.size + 3 ≤ b) (w3.alloc (.cells #[.int .i64 ko, .int .i64 no, .slice Ao kso.length co] 28)) R2 0 r := ((hR2.alloc _).mono (fun b hb => hb.elim False.elim (fun h => by omega))); have rd3 := (hko.alloc (.cells #[.int .i64 ko, .int .i64 no, .slice Ao kso.length co] 28)).rd; have tok3 := trivial)
              | (go_at_call 21; have _t := tok1; refine (sTermValid_any ku nu us U cu _ (by omega) (hru.below hF1.hb)).mono ?_; rw [hvb'.out]; rintro e w2 ⟨rfl, hb2⟩; have hF2 := hF1.below hb2; clear x0 x1 x2 y0 y1 y2; obtain ⟨x0, x1, x2⟩ := hF2.h0.three; obtain ⟨y0, y1, y2⟩ := hF2.h1.three; have tok2 := trivial)
              | (go_at_call 21; refine (sTermValid_any k n ks A c _ (by omega) (hr.below hF0.hb)).mono ?_; rw [hva'.out]; rintro e w1 ⟨rfl, hb1⟩; have hF1 := hF0.below hb1; clear x0 x1 x2 y0 y1 y2; obtain ⟨x0, x1, x2⟩ := hF1.h0.three; obtain ⟨y0, y1, y2⟩ := hF1.h1.three; have tok1 := trivial))
            refine bodyPost_ret (v := .tuple #[.agg #[.int .i64 ko, .int .i64 nn, .slice A4 K.length c4], .slice L2 l.length cl2, .slice R2 l.length cr2, .bool true]) ?_ rfl ?_
            · simp [results, Try.results6, go_sem, d0, d1, d2]
            · rw [hz'.out]
              have hs4 := hF4.size
              have hs3' := hF3.size
              refine ⟨A4, c4, L2, cl2, R2, cr2, rfl, by show K.length ≤ _; omega, (r5.set3 (fun h => by have := h.1; omega) _ _ _).mono (fun b h => by have := h.1; omega), (rL5.set3 (fun h => by have h : w.heap.size + 3 ≤ w.heap.size + 1 + 1 := h; omega) _ _ _).mono (fun b h => by have h : w.heap.size + 3 ≤ b := h; omega), (rR5.set3 (fun h => by have h : w.heap.size + 3 ≤ w.heap.size + 1 + 1 := h; omega) _ _ _).mono (fun b h => by have h : w.heap.size + 3 ≤ b := h; omega), by_set3 hF5.hb (by omega) _ _ _⟩
        · have hz : cpS (.mk k n ks) (.mk ku nu us) = none := by rw [cpS, if_pos ⟨hva, hvb⟩, hcm]; exact if_neg (fun h => h6 h.1)
          have hz' := hide hz
          clear hz hva hvb hcm hg hok
          go_upto_region 5 with (first
            | (go_at_call 22; have _t := tok2; refine (sCommon_any _ (fun _ => False) k n ks A c ku nu us U cu 0 [] [] none none 0 0 0 _ (Nat.lt_succ_self _) hva'.out hvb'.out (Int.le_refl 0) (by omega) prs0 (by omega) (hr.below hF2.hb) (hru.below hF2.hb) (fun b hb => hb.elim) RdP.nil RdP.nil).mono ?_; rw [hcm'.out]; intro e w3 hcs; obtain ⟨Ao, co, L2, cl2, R2, cr2, rfl, hlo, hko, hL2, hR2, hb3⟩ := cmS_someK hcs; have hF3 := hF2.below hb3)
            | (go_at_call 21; have _t := tok1; refine (sTermValid_any ku nu us U cu _ (by omega) (hru.below hF1.hb)).mono ?_; rw [hvb'.out]; rintro e w2 ⟨rfl, hb2⟩; have hF2 := hF1.below hb2; clear x0 x1 x2 y0 y1 y2; obtain ⟨x0, x1, x2⟩ := hF2.h0.three; obtain ⟨y0, y1, y2⟩ := hF2.h1.three; have tok2 := trivial)
            | (go_at_call 21; refine (sTermValid_any k n ks A c _ (by omega) (hr.below hF0.hb)).mono ?_; rw [hva'.out]; rintro e w1 ⟨rfl, hb1⟩; have hF1 := hF0.below hb1; clear x0 x1 x2 y0 y1 y2; obtain ⟨x0, x1, x2⟩ := hF1.h0.three; obtain ⟨y0, y1, y2⟩ := hF1.h1.three; have tok1 := trivial))
          refine name_world ?_
          intro wq hwq
          have hFq : Fr w k n ks A c ku nu us U cu wq := by rw [hwq]; exact hF3.alloc _
          clear hwq
          obtain ⟨d0, d1, d2⟩ := hFq.h2.three
          have e0 := hFq.h2.frozen 0
          have e1 := hFq.h2.frozen 1
          have e2 := hFq.h2.frozen 2
          go_wp2_with fail
          refine bodyPost_ret (v := .tuple #[.agg #[.int .i64 0, .int .i64 0, .slice none 0 0], .slice (some ⟨w.heap.size + 1 + 1 + 1, 0, none⟩) 0 0, .slice (some ⟨w.heap.size + 1 + 1 + 1, 0, none⟩) 0 0, .bool false]) ?_ rfl ?_
          · simp [results, Try.results6, go_sem, d0, d1, d2]
          · rw [hz'.out]
            exact ⟨⟨_, _, rfl⟩, by_set3 hFq.hb (by omega) _ _ _⟩
end Go.Proofs.Ytgmljpmnfncceaa
