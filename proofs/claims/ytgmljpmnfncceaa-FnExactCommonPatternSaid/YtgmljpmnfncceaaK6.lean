/-
  Texts that are common to the laws: Keeps, Tab. No condition.
-/
import Derived.Test.YtgmljpmnfncceaaK2
import Derived.Test.YtgmljpmnfncceaaK3
import Derived.Test.YtgmljpmnfncceaaK4
import Derived.Test.YtgmljpmnfncceaaK5

namespace Go.Proofs.Ytgmljpmnfncceaa
open Go.RowKit
set_option linter.unusedSimpArgs false
set_option linter.unusedVariables false

mutual
/-- no variable that lies between cut and cut + by -/
def kpS (by_ : Int) : Int → Tm → Bool | d, .mk k n ks => if k = 1 ∧ d ≤ n ∧ n < d + by_ then false else kpSL by_ k d 0 ks
def kpSL (by_ : Int) : Int → Int → Nat → List Tm → Bool | _, _, _, [] => true | k, d, i, t :: ts => kpS by_ (d + under k i) t && kpSL by_ k d (i + 1) ts
end
theorem kpSL_append (by_ k d : Int) (us : List Tm) : ∀ (ts : List Tm) (i : Nat), kpSL by_ k d i (ts ++ us) = (kpSL by_ k d i ts && kpSL by_ k d (i + ts.length) us)
  | [], i => by simp [kpSL]
  | t :: ts, i => by rw [List.cons_append, kpSL, kpSL, kpSL_append by_ k d us ts (i + 1), List.length_cons, show i + 1 + ts.length = i + (ts.length + 1) from by omega, Bool.and_assoc]
theorem kpSL_take (by_ k d : Int) {ks : List Tm} {j : Nat} (hj : j < ks.length) : kpSL by_ k d 0 (ks.take (j + 1)) = (kpSL by_ k d 0 (ks.take j) && kpS by_ (d + under k j) ks[j]) := by
  rw [List.take_succ_eq_append_getElem hj, kpSL_append, List.length_take, Nat.min_eq_left (Nat.le_of_lt hj), Nat.zero_add, kpSL, kpSL, Bool.and_true]
theorem kpSL_no (by_ k d : Int) {ks : List Tm} {j : Nat} (hj : j < ks.length) (h : kpS by_ (d + under k j) ks[j] = false) : kpSL by_ k d 0 ks = false := by
  have h1 : kpSL by_ k d 0 (ks.take (j + 1)) = false := by rw [kpSL_take by_ k d hj, h, Bool.and_false]
  have h2 : ks = ks.take (j + 1) ++ ks.drop (j + 1) := (List.take_append_drop _ _).symm
  rw [h2, kpSL_append, h1, Bool.false_and]

set_option maxHeartbeats 2000000 in
set_option maxRecDepth 100000 in
theorem sKeeps_any (N : Nat) : ∀ (k n : Int) (ks : List Tm) (A : Option Addr) (c : Nat) (cut by_ : Int) (q : Nat) (w : World), sizes ks < N → sizes ks ≤ 1000000000 → shape q (.mk k n ks) = true → 0 ≤ by_ ∧ by_ ≤ 1000 → 0 ≤ cut → cut + q ≤ 1000 → Rd w A 0 ks →
    Calls Try.prog 76 #[.agg #[.int .i64 k, .int .i64 n, .slice A ks.length c], .int .i64 cut, .int .i64 by_] w fun e w' => e = .returned (.bool (kpS by_ cut (.mk k n ks))) ∧ Below w.heap.size w w' := by
  induction N with
  | zero => intro k n ks A c cut by_ q w hN; exact absurd hN (Nat.not_lt_zero _)
  | succ N ih =>
  intro k n ks A c cut by_ q w hN hM hsh hby hc0 hcq hr
  have hlen := length_le_sizes ks
  obtain ⟨q, rfl, ha, hm1, hm2, hkids⟩ := shape_pos hsh
  have hkids' := hide hkids
  rw [kpS]
  by_cases hk : k = 1 ∧ cut ≤ n ∧ n < cut + by_
  · rw [if_pos hk]
    obtain ⟨rfl, h1, h2⟩ := hk
    have q1 : decide (cut ≤ n) = true := decide_eq_true h1
    have q2 : decide (n < cut + by_) = true := decide_eq_true h2
    have hn2 : n ≤ 20 := by simpa [mostN] using hm2
    clear h1 h2 hkids hsh ha hm2
    go_enter Try.func76, Try.ntmps76
    go_wp2_with fail
    go_ret
    exact ⟨rfl, (Below.refl _ _).alloc (Nat.le_refl _) _⟩
  · rw [if_neg hk]
    have hgo : Calls Try.prog 76 #[.agg #[.int .i64 k, .int .i64 n, .slice A ks.length c], .int .i64 cut, .int .i64 by_] w (fun e w' => e = .returned (.bool (kpSL by_ k cut 0 ks)) ∧ Below w.heap.size w w') := by
      have hk' := hide hk
      have hm2' := hide hm2
      clear hk hkids hsh ha hm2
      by_cases h1 : k = 1
      · subst h1
        have q0 : ((1 : Int) == 1) = true := rfl
        have hn2 : n ≤ 20 := by simpa [mostN] using hm2'.out
        by_cases h2 : cut ≤ n
        · have q1 : decide (cut ≤ n) = true := decide_eq_true h2
          have q2 : decide (n < cut + by_) = false := decide_eq_false (fun h => hk'.out ⟨rfl, h2, h⟩)
          clear h2
          go_enter Try.func76, Try.ntmps76
          go_wp2_with fail
          go_loopw [7] (fun i wr => ∃ (j : Nat), j ≤ ks.length ∧ i = .int .i64 j ∧ Hid (kpSL by_ 1 cut 0 (ks.take j) = true) ∧ Blk wr w.heap.size #[.int .i64 1, .int .i64 n, .slice A ks.length c] ∧ Below w.heap.size w wr) (fun i _ => ks.length - (intOf i).toNat)
          case atStart => exact ⟨0, Nat.zero_le _, rfl, hide rfl, Blk.new_ _ _ _ rfl, (Below.refl _ _).alloc (Nat.le_refl _) _⟩
          case round =>
            obtain ⟨j, hj, rfl, hall, hB1, hb⟩ := hrel
            have b2 := hB1.at_ (i := 2) rfl
            by_cases hlt : j < ks.length
            · obtain ⟨b, off, k1, n1, ks1, A1, c1, rfl, hkj, hc1, hc2, hc3, hl1, hr1⟩ := (hr.below hb).at_ hlt
              have hsz := sizes_le (List.getElem_mem hlt)
              have hsk := hkids'.out _ (List.getElem_mem hlt)
              rw [hkj] at hsz hsk
              simp only [Tm.size] at hsz
              have H3 := hide hkj
              have H4 := hide hsk
              clear hkj hsk
              go_wp2_with fail
              have r1 := rule_of hc1
              have r2 := rule_of hc2
              have r3 := rule_of hc3
              have r7 := hB1.rule (i := 2) rfl
              have r8 := hB1.rule (i := 0) rfl
              have hun := under_le 1 j
              refine wp_region_firstY (fun w' => Below wr.heap.size wr w') [0, 1, 2, 3, 4, 5, 6, 7, 8, 9, 10, 11] [] [12, 13] [_, _, _, _, _, _, _, _, _, _, _, _] [] [_, _] (by kernel_rfl) (by kernel_rfl) rfl rfl rfl (fun _ _ d _ _ h => by cases d <;> exact h) (Below.refl _ _).drew ?_
              repeat (first | ((refine takeY_skip (a' := ?_) ?_ ?_ ?_); (rotate_left); (· (simp [Region.wanted, yielded]; done)); (· (simp only [List.getElem_toArray, List.getElem_cons_zero, List.getElem_cons_succ, Act.put, List.setIfInBounds_toArray, List.set_cons_zero, List.set_cons_succ]; exact rfl))) | ((refine takeY_step (v := ?_) (a' := ?_) ?_ ?_ ?_ ?_); (rotate_left 2); (· (simp [Region.wanted, yielded]; done)); (· (intro w' hS'; go_simp; try (with_reducible rfl))); (· (simp only [List.getElem_toArray, List.getElem_cons_zero, List.getElem_cons_succ, Act.put, List.setIfInBounds_toArray, List.set_cons_zero, List.set_cons_succ]; exact rfl))) | ((refine takeY_call (v := ?_) (a' := ?_) 50 ?_ ?_ ?_ ?_ ?_ ?_); (rotate_left 3); (· (simp [Region.wanted, yielded]; done)); (· (intro w' hS'; go_simp; try (with_reducible rfl))); (· (intro w' hS'; exact sUnder_any _ _ _)); (· (simp only [List.getElem_toArray, List.getElem_cons_zero, List.getElem_cons_succ, Act.put, List.setIfInBounds_toArray, List.set_cons_zero, List.set_cons_succ]; exact rfl))))
              refine takeY_nil (then_nil ?_)
              clear r1 r2 r3 r7 r8
              cases hte : kpS by_ (cut + under 1 j) (.mk k1 n1 ks1) with
              | false =>
                have hte' := hide hte
                clear hte
                go_wp2_with (go_at_call 76; refine (ih k1 n1 ks1 A1 c1 (cut + under 1 j) by_ q _ (by omega) (by omega) H4.out hby (by omega) (by omega) hr1.drew).mono ?_; rw [hte'.out]; rintro e w1 ⟨rfl, hb1⟩)
                go_ret
                exact ⟨ret_bool (kpSL_no by_ 1 cut hlt (by rw [H3.out]; exact hte'.out)).symm, hb.drew.trans (hb1.mono (by simpa using hb.size))⟩
              | true =>
                have hte' := hide hte
                clear hte
                go_wp2_with (go_at_call 76; refine (ih k1 n1 ks1 A1 c1 (cut + under 1 j) by_ q _ (by omega) (by omega) H4.out hby (by omega) (by omega) hr1.drew).mono ?_; rw [hte'.out]; rintro e w1 ⟨rfl, hb1⟩)
                replace hb1 : Below wr.heap.size wr w1 := (Below.refl _ _).drew.trans hb1
                go_roundw
                case rel => exact ⟨j + 1, by omega, by go_num, hide (by rw [kpSL_take by_ 1 cut hlt, hall.out, H3.out, hte'.out]; rfl), hB1.keep hb1, hb.trans (hb1.mono hb.size)⟩
                case measure => simp [intOf]; omega
            · go_wp2_with fail
              go_ret
              have hjl : j = ks.length := by omega
              have h5 := hall.out
              rw [hjl, List.take_length] at h5
              exact ⟨ret_bool h5.symm, hb⟩
        · have q1 : decide (cut ≤ n) = false := decide_eq_false h2
          clear h2
          go_enter Try.func76, Try.ntmps76
          go_wp2_with fail
          go_loopw [7] (fun i wr => ∃ (j : Nat), j ≤ ks.length ∧ i = .int .i64 j ∧ Hid (kpSL by_ 1 cut 0 (ks.take j) = true) ∧ Blk wr w.heap.size #[.int .i64 1, .int .i64 n, .slice A ks.length c] ∧ Below w.heap.size w wr) (fun i _ => ks.length - (intOf i).toNat)
          case atStart => exact ⟨0, Nat.zero_le _, rfl, hide rfl, Blk.new_ _ _ _ rfl, (Below.refl _ _).alloc (Nat.le_refl _) _⟩
          case round =>
            obtain ⟨j, hj, rfl, hall, hB1, hb⟩ := hrel
            have b2 := hB1.at_ (i := 2) rfl
            by_cases hlt : j < ks.length
            · obtain ⟨b, off, k1, n1, ks1, A1, c1, rfl, hkj, hc1, hc2, hc3, hl1, hr1⟩ := (hr.below hb).at_ hlt
              have hsz := sizes_le (List.getElem_mem hlt)
              have hsk := hkids'.out _ (List.getElem_mem hlt)
              rw [hkj] at hsz hsk
              simp only [Tm.size] at hsz
              have H3 := hide hkj
              have H4 := hide hsk
              clear hkj hsk
              go_wp2_with fail
              have r1 := rule_of hc1
              have r2 := rule_of hc2
              have r3 := rule_of hc3
              have r7 := hB1.rule (i := 2) rfl
              have r8 := hB1.rule (i := 0) rfl
              have hun := under_le 1 j
              refine wp_region_firstY (fun w' => Below wr.heap.size wr w') [0, 1, 2, 3, 4, 5, 6, 7, 8, 9, 10, 11] [] [12, 13] [_, _, _, _, _, _, _, _, _, _, _, _] [] [_, _] (by kernel_rfl) (by kernel_rfl) rfl rfl rfl (fun _ _ d _ _ h => by cases d <;> exact h) (Below.refl _ _).drew ?_
              repeat (first | ((refine takeY_skip (a' := ?_) ?_ ?_ ?_); (rotate_left); (· (simp [Region.wanted, yielded]; done)); (· (simp only [List.getElem_toArray, List.getElem_cons_zero, List.getElem_cons_succ, Act.put, List.setIfInBounds_toArray, List.set_cons_zero, List.set_cons_succ]; exact rfl))) | ((refine takeY_step (v := ?_) (a' := ?_) ?_ ?_ ?_ ?_); (rotate_left 2); (· (simp [Region.wanted, yielded]; done)); (· (intro w' hS'; go_simp; try (with_reducible rfl))); (· (simp only [List.getElem_toArray, List.getElem_cons_zero, List.getElem_cons_succ, Act.put, List.setIfInBounds_toArray, List.set_cons_zero, List.set_cons_succ]; exact rfl))) | ((refine takeY_call (v := ?_) (a' := ?_) 50 ?_ ?_ ?_ ?_ ?_ ?_); (rotate_left 3); (· (simp [Region.wanted, yielded]; done)); (· (intro w' hS'; go_simp; try (with_reducible rfl))); (· (intro w' hS'; exact sUnder_any _ _ _)); (· (simp only [List.getElem_toArray, List.getElem_cons_zero, List.getElem_cons_succ, Act.put, List.setIfInBounds_toArray, List.set_cons_zero, List.set_cons_succ]; exact rfl))))
              refine takeY_nil (then_nil ?_)
              clear r1 r2 r3 r7 r8
              cases hte : kpS by_ (cut + under 1 j) (.mk k1 n1 ks1) with
              | false =>
                have hte' := hide hte
                clear hte
                go_wp2_with (go_at_call 76; refine (ih k1 n1 ks1 A1 c1 (cut + under 1 j) by_ q _ (by omega) (by omega) H4.out hby (by omega) (by omega) hr1.drew).mono ?_; rw [hte'.out]; rintro e w1 ⟨rfl, hb1⟩)
                go_ret
                exact ⟨ret_bool (kpSL_no by_ 1 cut hlt (by rw [H3.out]; exact hte'.out)).symm, hb.drew.trans (hb1.mono (by simpa using hb.size))⟩
              | true =>
                have hte' := hide hte
                clear hte
                go_wp2_with (go_at_call 76; refine (ih k1 n1 ks1 A1 c1 (cut + under 1 j) by_ q _ (by omega) (by omega) H4.out hby (by omega) (by omega) hr1.drew).mono ?_; rw [hte'.out]; rintro e w1 ⟨rfl, hb1⟩)
                replace hb1 : Below wr.heap.size wr w1 := (Below.refl _ _).drew.trans hb1
                go_roundw
                case rel => exact ⟨j + 1, by omega, by go_num, hide (by rw [kpSL_take by_ 1 cut hlt, hall.out, H3.out, hte'.out]; rfl), hB1.keep hb1, hb.trans (hb1.mono hb.size)⟩
                case measure => simp [intOf]; omega
            · go_wp2_with fail
              go_ret
              have hjl : j = ks.length := by omega
              have h5 := hall.out
              rw [hjl, List.take_length] at h5
              exact ⟨ret_bool h5.symm, hb⟩
      · have q0 : (k == 1) = false := by simpa using h1
        clear h1
        go_enter Try.func76, Try.ntmps76
        go_wp2_with fail
        go_loopw [7] (fun i wr => ∃ (j : Nat), j ≤ ks.length ∧ i = .int .i64 j ∧ Hid (kpSL by_ k cut 0 (ks.take j) = true) ∧ Blk wr w.heap.size #[.int .i64 k, .int .i64 n, .slice A ks.length c] ∧ Below w.heap.size w wr) (fun i _ => ks.length - (intOf i).toNat)
        case atStart => exact ⟨0, Nat.zero_le _, rfl, hide rfl, Blk.new_ _ _ _ rfl, (Below.refl _ _).alloc (Nat.le_refl _) _⟩
        case round =>
          obtain ⟨j, hj, rfl, hall, hB1, hb⟩ := hrel
          have b2 := hB1.at_ (i := 2) rfl
          by_cases hlt : j < ks.length
          · obtain ⟨b, off, k1, n1, ks1, A1, c1, rfl, hkj, hc1, hc2, hc3, hl1, hr1⟩ := (hr.below hb).at_ hlt
            have hsz := sizes_le (List.getElem_mem hlt)
            have hsk := hkids'.out _ (List.getElem_mem hlt)
            rw [hkj] at hsz hsk
            simp only [Tm.size] at hsz
            have H3 := hide hkj
            have H4 := hide hsk
            clear hkj hsk
            go_wp2_with fail
            have r1 := rule_of hc1
            have r2 := rule_of hc2
            have r3 := rule_of hc3
            have r7 := hB1.rule (i := 2) rfl
            have r8 := hB1.rule (i := 0) rfl
            have hun := under_le k j
            refine wp_region_firstY (fun w' => Below wr.heap.size wr w') [0, 1, 2, 3, 4, 5, 6, 7, 8, 9, 10, 11] [] [12, 13] [_, _, _, _, _, _, _, _, _, _, _, _] [] [_, _] (by kernel_rfl) (by kernel_rfl) rfl rfl rfl (fun _ _ d _ _ h => by cases d <;> exact h) (Below.refl _ _).drew ?_
            repeat (first | ((refine takeY_skip (a' := ?_) ?_ ?_ ?_); (rotate_left); (· (simp [Region.wanted, yielded]; done)); (· (simp only [List.getElem_toArray, List.getElem_cons_zero, List.getElem_cons_succ, Act.put, List.setIfInBounds_toArray, List.set_cons_zero, List.set_cons_succ]; exact rfl))) | ((refine takeY_step (v := ?_) (a' := ?_) ?_ ?_ ?_ ?_); (rotate_left 2); (· (simp [Region.wanted, yielded]; done)); (· (intro w' hS'; go_simp; try (with_reducible rfl))); (· (simp only [List.getElem_toArray, List.getElem_cons_zero, List.getElem_cons_succ, Act.put, List.setIfInBounds_toArray, List.set_cons_zero, List.set_cons_succ]; exact rfl))) | ((refine takeY_call (v := ?_) (a' := ?_) 50 ?_ ?_ ?_ ?_ ?_ ?_); (rotate_left 3); (· (simp [Region.wanted, yielded]; done)); (· (intro w' hS'; go_simp; try (with_reducible rfl))); (· (intro w' hS'; exact sUnder_any _ _ _)); (· (simp only [List.getElem_toArray, List.getElem_cons_zero, List.getElem_cons_succ, Act.put, List.setIfInBounds_toArray, List.set_cons_zero, List.set_cons_succ]; exact rfl))))
            refine takeY_nil (then_nil ?_)
            clear r1 r2 r3 r7 r8
            cases hte : kpS by_ (cut + under k j) (.mk k1 n1 ks1) with
            | false =>
              have hte' := hide hte
              clear hte
              go_wp2_with (go_at_call 76; refine (ih k1 n1 ks1 A1 c1 (cut + under k j) by_ q _ (by omega) (by omega) H4.out hby (by omega) (by omega) hr1.drew).mono ?_; rw [hte'.out]; rintro e w1 ⟨rfl, hb1⟩)
              go_ret
              exact ⟨ret_bool (kpSL_no by_ k cut hlt (by rw [H3.out]; exact hte'.out)).symm, hb.drew.trans (hb1.mono (by simpa using hb.size))⟩
            | true =>
              have hte' := hide hte
              clear hte
              go_wp2_with (go_at_call 76; refine (ih k1 n1 ks1 A1 c1 (cut + under k j) by_ q _ (by omega) (by omega) H4.out hby (by omega) (by omega) hr1.drew).mono ?_; rw [hte'.out]; rintro e w1 ⟨rfl, hb1⟩)
              replace hb1 : Below wr.heap.size wr w1 := (Below.refl _ _).drew.trans hb1
              go_roundw
              case rel => exact ⟨j + 1, by omega, by go_num, hide (by rw [kpSL_take by_ k cut hlt, hall.out, H3.out, hte'.out]; rfl), hB1.keep hb1, hb.trans (hb1.mono hb.size)⟩
              case measure => simp [intOf]; omega
          · go_wp2_with fail
            go_ret
            have hjl : j = ks.length := by omega
            have h5 := hall.out
            rw [hjl, List.take_length] at h5
            exact ⟨ret_bool h5.symm, hb⟩
    exact hgo


/-- the two tests of a shift down are one -/
theorem kp_ok {dp : Int} (h0 : 0 ≤ dp) (t : Tm) : ∀ (q : Nat) (d : Int), 0 ≤ d → shape q t = true → chgOk (shOk (-dp) 0) d t = kpS dp d t := by
  refine Tm.rec (motive_1 := fun t => ∀ (q : Nat) (d : Int), 0 ≤ d → shape q t = true → chgOk (shOk (-dp) 0) d t = kpS dp d t)
    (motive_2 := fun ts => ∀ (q : Nat) (k d : Int) (i : Nat), 0 ≤ d → (∀ t, t ∈ ts → shape q t = true) → chgsOk (shOk (-dp) 0) k d i ts = kpSL dp k d i ts) ?_ ?_ ?_ t
  · intro k n ks ih q d hd h
    obtain ⟨q', rfl, ha, h0, h1, hk⟩ := shape_pos h
    rw [chgOk, kpS]
    by_cases h1 : k = 1
    · subst h1
      have h20 : n ≤ 20 := by simpa [mostN] using h1
      have := var_nil ha
      subst this
      rw [if_pos rfl, shOk, kpSL]
      by_cases h2 : d ≤ n
      · rw [if_pos (by omega), decide_eq_true (show n + -dp ≤ 20 by omega), Bool.and_true]
        by_cases h3 : n < d + dp
        · rw [if_pos ⟨rfl, h2, h3⟩, decide_eq_false (by omega)]
        · rw [if_neg (by rintro ⟨-, -, h⟩; exact h3 h), decide_eq_true (by omega)]
      · rw [if_neg (by omega), if_neg (by rintro ⟨-, h, -⟩; exact h2 h)]
    · rw [if_neg h1, if_neg (by rintro ⟨h, -⟩; exact h1 h), ih q' k d 0 hd hk]
  · intro q k d i _ _; rfl
  · intro t ts h1 h2 q k d i hd hk
    rw [chgsOk, kpSL, h1 q _ (by have := under_le k i; omega) (hk t List.mem_cons_self), h2 q k d (i + 1) hd (fun t ht => hk t (List.mem_cons_of_mem _ ht))]
theorem shS_shape {dp : Int} (h0 : 0 ≤ dp) (t : Tm) : ∀ (q : Nat) (d : Int), 0 ≤ d → shape q t = true → kpS dp d t = true → shape q (shS (-dp) d t) = true := by
  refine Tm.rec (motive_1 := fun t => ∀ (q : Nat) (d : Int), 0 ≤ d → shape q t = true → kpS dp d t = true → shape q (shS (-dp) d t) = true)
    (motive_2 := fun ts => ∀ (q : Nat) (k d : Int) (i : Nat), 0 ≤ d → (∀ t, t ∈ ts → shape q t = true) → kpSL dp k d i ts = true → ∀ t, t ∈ shSL (-dp) k d i ts → shape q t = true) ?_ ?_ ?_ t
  · intro k n ks ih q d hd h hkp
    obtain ⟨q', rfl, ha, hn0, hn1, hk⟩ := shape_pos h
    rw [kpS] at hkp
    rw [shS]
    by_cases h1 : k = 1 ∧ d ≤ n ∧ n < d + dp
    · rw [if_pos h1] at hkp; cases hkp
    · rw [if_neg h1] at hkp
      refine (shape_split _ _ _ _).2 ⟨by rw [shSL_length]; exact ha, ?_, ?_, ih q' k d 0 hd hk hkp⟩
      · split
        · rename_i h2
          have : ¬ n < d + dp := fun h => h1 ⟨h2.1, h2.2, h⟩
          omega
        · exact hn0
      · split
        · omega
        · exact hn1
  · intro q k d i _ _ _ t ht; rw [shSL] at ht; cases ht
  · intro t ts h1 h2 q k d i hd hk hkp u hu
    rw [kpSL, Bool.and_eq_true] at hkp
    rw [shSL] at hu
    rcases List.mem_cons.1 hu with rfl | hu
    · exact h1 q _ (by have := under_le k i; omega) (hk t List.mem_cons_self) hkp.1
    · exact h2 q k d (i + 1) hd (fun t ht => hk t (List.mem_cons_of_mem _ ht)) hkp.2 u hu
/-- a shift down of a valid term goes well just where no variable is lost, and is the reference's -/
theorem shiftI_down {dp : Int} (h0 : 0 ≤ dp) {u : Tm} (hv : validT u = true) : shiftI (-dp) 0 u = if kpS dp 0 u = true then some (shS (-dp) 0 u) else none := by
  have hs : shape 30 u = true := by simp only [validT, Bool.and_eq_true] at hv; exact hv.1
  unfold shiftI
  rw [kp_ok h0 u 30 0 (Int.le_refl 0) hs]
  split
  · rename_i hk
    rw [shS_chg (-dp) 0 u 30 0 hs, Int.zero_add, if_pos]
    rw [validT, shS_shape h0 u 30 0 (Int.le_refl 0) hs hk, shS_size, decide_eq_true (validT_size hv)]; rfl
  · rfl
end Go.Proofs.Ytgmljpmnfncceaa

namespace Go.Proofs.Ytgmljpmnfncceaa
open Go.RowKit
set_option linter.unusedSimpArgs false
set_option linter.unusedVariables false

/-- a row of terms at a block, whose terms lie in blocks of their own from lo on -/
def Tab (w : World) (lo g : Nat) (G : List Tm) : Prop :=
  g < lo ∧ ∃ cur f, w.heap[g]? = some (.cells cur 28 (0, 0)) ∧ cur.size = G.length * 3 ∧ OwX w G cur.toList f ∧ f.Nodup ∧ ∀ b, b ∈ f → lo ≤ b
variable {w w' w0 : World} {lo g : Nat} {G : List Tm}
theorem Tab.only {fp : List Nat} (h : Tab w lo g G) (ho : OnlyIn fp w w') (hfp : ∀ b, b ∈ fp → b ≠ g ∧ b < lo) : Tab w' lo g G := by
  obtain ⟨h0, cur, f, h1, h2, h3, h4, h5⟩ := h
  refine ⟨h0, cur, f, (ho.block g (Array.getElem?_eq_some_iff.1 h1).1 (fun hm => (hfp g hm).1 rfl)).trans h1, h2, h3.frame fun b hb => ho.block b (h3.lt b hb) fun hm => ?_, h4, h5⟩
  have := (hfp b hm).2; have := h5 b hb; omega
theorem Tab.keep (h : Tab w lo g G) (hb : Below w.heap.size w w') : Tab w' lo g G := by
  obtain ⟨h0, cur, f, h1, h2, h3, h4, h5⟩ := h
  exact ⟨h0, cur, f, (hb.block g (Array.getElem?_eq_some_iff.1 h1).1).trans h1, h2, h3.frame fun b hm => hb.block b (h3.lt b hm), h4, h5⟩
theorem Tab.alloc (h : Tab w lo g G) (o : Obj) : Tab (w.alloc o) lo g G := h.keep ((Below.refl _ _).alloc (Nat.le_refl _) _)
theorem Tab.drew (h : Tab w lo g G) : Tab w.drew lo g G := h.keep (Below.refl _ _).drew
theorem Tab.setCell (h : Tab w lo g G) {p : Addr} (hp : p.block ≠ g) (hl : p.block < lo) (u : Value) : Tab (w.setCell p u) lo g G := by
  obtain ⟨h0, cur, f, h1, h2, h3, h4, h5⟩ := h
  exact ⟨h0, cur, f, (Below.heap_setCell w p u g (fun e => hp e.symm)).trans h1, h2, h3.frame fun b hb => Below.heap_setCell w p u b (fun e => by have := h5 b hb; omega), h4, h5⟩
theorem Tab.lt (h : Tab w lo g G) : g < w.heap.size := by
  obtain ⟨h0, cur, f, h1, _⟩ := h
  exact (Array.getElem?_eq_some_iff.1 h1).1
theorem Tab.glo (h : Tab w lo g G) : g < lo := h.1
theorem Tab.frozen (h : Tab w lo g G) (j : Nat) : w.frozen? ⟨g, j, none⟩ = false := by
  obtain ⟨h0, cur, f, h1, h2, _⟩ := h
  simp [World.frozen?, h1]
theorem Tab.rd (h : Tab w lo g G) : Rd w (some ⟨g, 0, none⟩) 0 G := by
  obtain ⟨h0, cur, f, h1, h2, h3, h4, h5⟩ := h
  refine own_rd.2 _ _ _ h3 g 0 0 fun j u hu => ?_
  rw [show 0 + 0 * 3 + j = j by omega, cell_of_row w g j cur 28 (0, 0) h1]
  simpa using hu
/-- one place is laid anew -/
theorem Tab.put (h : Tab w0 lo g G) (hb : Below w0.heap.size w0 w) (hlo : lo ≤ w0.heap.size) {k m : Int} {ks : List Tm} {A : Option Addr} {c j : Nat} (hfr : Fresh w0.heap.size w A ks) (hl : ks.length ≤ 9223372036854775807) (hj : j < G.length) :
    Tab (((w.setCell ⟨g, j * 3, none⟩ (.int .i64 k)).setCell ⟨g, j * 3 + 1, none⟩ (.int .i64 m)).setCell ⟨g, j * 3 + 2, none⟩ (.slice A ks.length c)) lo g (G.set j (.mk k m ks)) := by
  obtain ⟨h0, cur, f, h1, h2, h3, h4, h5⟩ := h
  obtain ⟨fp, k1, k2, k3⟩ := hfr
  have hg0 := (Array.getElem?_eq_some_iff.1 h1).1
  have hg : w.heap[g]? = some (.cells cur 28 (0, 0)) := (hb.block g hg0).trans h1
  have far : ∀ b, b ≠ g → (((w.setCell ⟨g, j * 3, none⟩ (.int .i64 k)).setCell ⟨g, j * 3 + 1, none⟩ (.int .i64 m)).setCell ⟨g, j * 3 + 2, none⟩ (.slice A ks.length c)).heap[b]? = w.heap[b]? := fun b hbg => by
    rw [Below.heap_setCell _ _ _ _ hbg, Below.heap_setCell _ _ _ _ hbg, Below.heap_setCell _ _ _ _ hbg]
  have hsp : G = G.take j ++ G[j] :: G.drop (j + 1) := by rw [← List.drop_eq_getElem_cons hj, List.take_append_drop]
  have hsp2 : G.set j (.mk k m ks) = G.take j ++ Tm.mk k m ks :: G.drop (j + 1) := by rw [List.set_eq_take_append_cons_drop, if_pos hj]
  have h3' := h3
  rw [hsp] at h3'
  obtain ⟨x0, x1, x2, f0, f1, f2, hx, hf, o0, o1, o2⟩ := OwX.split h3'
  have l0 : x0.length = j * 3 := by rw [o0.length, List.length_take, Nat.min_eq_left (Nat.le_of_lt hj)]
  have l1 := o1.length
  obtain ⟨p, q, r, rfl⟩ : ∃ p q r, x1 = [p, q, r] := by
    match x1, l1 with
    | [p, q, r], _ => exact ⟨p, q, r, rfl⟩
  subst hf
  have lt0 : ∀ b, b ∈ f0 ++ (f1 ++ f2) → b < w0.heap.size := fun b hb => h3.lt b hb
  have nd := List.nodup_append.1 h4
  have nd2 := List.nodup_append.1 nd.2.1
  refine ⟨h0, ((cur.setIfInBounds (j * 3) (.int .i64 k)).setIfInBounds (j * 3 + 1) (.int .i64 m)).setIfInBounds (j * 3 + 2) (.slice A ks.length c), f0 ++ (fp ++ f2), ?_, by simpa using h2, ?_, ?_, ?_⟩
  · simp [World.setCell, Array.getElem?_modify, hg]
  · have e : (((cur.setIfInBounds (j * 3) (.int .i64 k)).setIfInBounds (j * 3 + 1) (.int .i64 m)).setIfInBounds (j * 3 + 2) (.slice A ks.length c)).toList = x0 ++ ([.int .i64 k, .int .i64 m, .slice A ks.length c] ++ x2) := by
      simp only [Array.toList_setIfInBounds, hx, ← l0]
      simp [List.set_append]
    rw [e, hsp2]
    have keep : ∀ b, b ∈ f0 ++ (f1 ++ f2) → (((w.setCell ⟨g, j * 3, none⟩ (.int .i64 k)).setCell ⟨g, j * 3 + 1, none⟩ (.int .i64 m)).setCell ⟨g, j * 3 + 2, none⟩ (.slice A ks.length c)).heap[b]? = w0.heap[b]? := fun b hm => by
      rw [far b (by have := h5 b hm; omega)]; exact hb.block b (lt0 b hm)
    exact OwX.join (o0.frame fun b hm => keep b (by simp [hm])) (OwT.iff.2 ⟨A, c, rfl, hl, k1.frame fun b hm => far b (by have := k3 b hm; omega)⟩) (o2.frame fun b hm => keep b (by simp [hm]))
  · refine List.nodup_append.2 ⟨nd.1, List.nodup_append.2 ⟨k2, nd2.2.1, fun x hx y hy e => ?_⟩, fun x hx y hy e => ?_⟩
    · have := k3 x hx; have := lt0 y (by simp [hy]); omega
    · rcases List.mem_append.1 hy with hy | hy
      · have := k3 y hy; have := lt0 x (by simp [hx]); omega
      · exact nd.2.2 x hx y (List.mem_append.2 (.inr hy)) e
  · intro b hm
    rcases List.mem_append.1 hm with hm | hm
    · exact h5 b (by simp [hm])
    · rcases List.mem_append.1 hm with hm | hm
      · have := k3 b hm; omega
      · exact h5 b (by simp [hm])
theorem Tab.fresh (h : Tab w lo g G) {B : Nat} (hB : B ≤ g) : Fresh B w (some ⟨g, 0, none⟩) G := by
  obtain ⟨h0, cur, f, h1, h2, h3, h4, h5⟩ := h
  by_cases hts : G = []
  · subst hts; exact Fresh.nil
  · refine ⟨g :: f, .inr ⟨g, cur, _, f, hts, rfl, h1, rfl, by rw [List.take_of_length_le (by simp [h2])]; exact h3⟩, List.nodup_cons.2 ⟨fun hm => by have := h5 g hm; omega, h4⟩, fun b hb => ?_⟩
    rcases List.mem_cons.1 hb with rfl | hb
    · exact hB
    · have := h5 b hb; omega

abbrev St := List Tm × List Bool
def zeroT : Tm := .mk 0 0 []
def Tm.kids : Tm → List Tm | .mk _ _ ks => ks
mutual
/-- what matching answers, and the places behind it -/
def mt (m : Nat) (add : Int) : Int → Tm → Tm → St → Bool × St
  | d, .mk k n ks, u, st =>
    if k = 1 ∧ d ≤ n then
      (if n < d + m then
        (match shiftI (-d) 0 u with
          | none => (false, st)
          | some low => if st.2.getD (n - d).toNat false = true then (tmEq (st.1.getD (n - d).toNat zeroT) low, st) else (true, (st.1.set (n - d).toNat low, st.2.set (n - d).toNat true)))
      else (u.k == 1 && u.n == n - m + add, st))
    else if u.k = k ∧ u.n = n ∧ u.kids.length = ks.length then mtL m add k d 0 ks u.kids st else (false, st)
def mtL (m : Nat) (add : Int) : Int → Int → Nat → List Tm → List Tm → St → Bool × St
  | k, d, i, t :: ts, u :: us, st => if (mt m add (d + under k i) t u st).1 = true then mtL m add k d (i + 1) ts us (mt m add (d + under k i) t u st).2 else (false, (mt m add (d + under k i) t u st).2)
  | _, _, _, _, _, st => (true, st)
end
theorem mtL_append (m : Nat) (add k d : Int) : ∀ (ts us ts' us' : List Tm) (i : Nat) (st : St), ts.length = us.length → mtL m add k d i (ts ++ ts') (us ++ us') st = if (mtL m add k d i ts us st).1 = true then mtL m add k d (i + ts.length) ts' us' (mtL m add k d i ts us st).2 else (false, (mtL m add k d i ts us st).2)
  | [], [], ts', us', i, st, _ => by simp [mtL]
  | t :: ts, u :: us, ts', us', i, st, h => by
    rw [List.cons_append, List.cons_append, mtL, mtL]
    split
    · rw [mtL_append m add k d ts us ts' us' (i + 1) _ (by simpa using h), List.length_cons, show i + 1 + ts.length = i + (ts.length + 1) from by omega]
    · simp
  | [], _ :: _, _, _, _, _, h => by simp at h
  | _ :: _, [], _, _, _, _, h => by simp at h
theorem mtL_take (m : Nat) (add k d : Int) {ks us : List Tm} {j : Nat} (hj : j < ks.length) (hl : ks.length = us.length) {st st1 : St} (h : mtL m add k d 0 (ks.take j) (us.take j) st = (true, st1)) :
    mtL m add k d 0 (ks.take (j + 1)) (us.take (j + 1)) st = mt m add (d + under k j) ks[j] (us[j]'(by omega)) st1 := by
  rw [List.take_succ_eq_append_getElem hj, List.take_succ_eq_append_getElem (by omega : j < us.length), mtL_append m add k d _ _ _ _ _ _ (by simp; omega), h]
  simp only [if_true, List.length_take, Nat.min_eq_left (Nat.le_of_lt hj), Nat.zero_add]
  rw [mtL, show ∀ (i : Nat) (s : St), mtL m add k d i [] [] s = (true, s) from fun i s => by simp [mtL]]
  cases e : mt m add (d + under k j) ks[j] (us[j]'(by omega)) st1 with
  | mk b s => cases b <;> simp
theorem mtL_no (m : Nat) (add k d : Int) {ks us : List Tm} {j : Nat} (hj : j < ks.length) (hl : ks.length = us.length) {st st1 : St} (h : mtL m add k d 0 (ks.take (j + 1)) (us.take (j + 1)) st = (false, st1)) :
    mtL m add k d 0 ks us st = (false, st1) := by
  have h1 := List.take_append_drop (j + 1) ks
  have h2 := List.take_append_drop (j + 1) us
  rw [← h1, ← h2, mtL_append m add k d _ _ _ _ _ _ (by simp; omega), h]
  simp
theorem mt_length (m : Nat) (add : Int) (t : Tm) : ∀ (d : Int) (u : Tm) (st : St), (mt m add d t u st).2.1.length = st.1.length ∧ (mt m add d t u st).2.2.length = st.2.length := by
  refine Tm.rec (motive_1 := fun t => ∀ (d : Int) (u : Tm) (st : St), (mt m add d t u st).2.1.length = st.1.length ∧ (mt m add d t u st).2.2.length = st.2.length)
    (motive_2 := fun ts => ∀ (k d : Int) (i : Nat) (us : List Tm) (st : St), (mtL m add k d i ts us st).2.1.length = st.1.length ∧ (mtL m add k d i ts us st).2.2.length = st.2.length) ?_ ?_ ?_ t
  · intro k n ks ih d u st
    rw [mt]
    split
    · split
      · split
        · exact ⟨rfl, rfl⟩
        · split <;> simp
      · exact ⟨rfl, rfl⟩
    · split
      · exact ih k d 0 _ _
      · exact ⟨rfl, rfl⟩
  · intro k d i us st; simp [mtL]
  · intro t ts h1 h2 k d i us st
    cases us with
    | nil => simp [mtL]
    | cons u us =>
      rw [mtL]
      split
      · have := h2 k d (i + 1) us (mt m add (d + under k i) t u st).2
        have := h1 (d + under k i) u st
        omega
      · exact h1 _ _ _
theorem validT_kid {k n : Int} {ks : List Tm} (h : validT (.mk k n ks) = true) {t : Tm} (ht : t ∈ ks) : validT t = true := by
  simp only [validT, Bool.and_eq_true, decide_eq_true_eq] at h ⊢
  obtain ⟨q, hq, _, _, _, hk⟩ := shape_pos h.1
  refine ⟨shape_up (by omega) t (hk t ht), ?_⟩
  have := sizes_le ht
  rw [Tm.size] at h
  omega

/-- the cells of a row of truth values -/
def bools (S : List Bool) : Array Value := (S.map Value.bool).toArray
theorem bools_set (S : List Bool) (j : Nat) (b : Bool) : (bools S).setIfInBounds j (.bool b) = bools (S.set j b) := by simp [bools, List.map_set]
theorem bools_get {S : List Bool} {j : Nat} (h : j < S.length) : (bools S)[j]? = some (.bool (S.getD j false)) := by simp [bools, List.getElem?_eq_getElem h]
end Go.Proofs.Ytgmljpmnfncceaa
