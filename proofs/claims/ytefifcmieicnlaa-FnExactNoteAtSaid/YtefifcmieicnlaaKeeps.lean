/-
  l2Keeps of the reference; countVar of the implementation. No condition.
-/
import Derived.Test.YtefifcmieicnlaaUnder
import Derived.Test.YtefifcmieicnlaaShift2
import Derived.Test.YtefifcmieicnlaaFillLaw
namespace Go.Proofs.Ytefifcmieicnlaa
open Go.RowKit
set_option linter.unusedSimpArgs false
set_option linter.unusedVariables false

mutual
/-- no variable that lies between cut and cut + by -/
def kpS (by_ : Int) : Int → Tm → Bool | d, .mk k n ks => if k = 1 ∧ d ≤ n ∧ n < d + by_ then false else kpSL by_ k d 0 ks
def kpSL (by_ : Int) : Int → Int → Nat → List Tm → Bool | _, _, _, [] => true | k, d, i, t :: ts => kpS by_ (d + under k i) t && kpSL by_ k d (i + 1) ts
end
theorem kpSL_append (by_ k d : Int) (us : List Tm) : ∀ (ts : List Tm) (i : Nat), kpSL by_ k d i (ts ++ us) = (kpSL by_ k d i ts && kpSL by_ k d (i + ts.length) us)
  | [], i => by simp [kpSL]
  | t :: ts, i => by rw [List.cons_append, kpSL, kpSL, kpSL_append by_ k d us ts (i + 1), List.length_cons, show i + 1 + ts.length = i + (ts.length + 1) from by omega, Bool.and_assoc]
theorem kpSL_take (by_ k d : Int) {ks : List Tm} {j : Nat} (hj : j < ks.length) : kpSL by_ k d 0 (ks.take (j + 1)) = (kpSL by_ k d 0 (ks.take j) && kpS by_ (d + under k j) ks[j]) := by
  rw [List.take_succ_eq_append_getElem hj, kpSL_append, List.length_take, Nat.min_eq_left (Nat.le_of_lt hj), Nat.zero_add, kpSL, kpSL, Bool.and_true]
theorem kpSL_no (by_ k d : Int) {ks : List Tm} {j : Nat} (hj : j < ks.length) (h : kpS by_ (d + under k j) ks[j] = false) : kpSL by_ k d 0 ks = false := by
  have h1 : kpSL by_ k d 0 (ks.take (j + 1)) = false := by rw [kpSL_take by_ k d hj, h, Bool.and_false]
  have h2 : ks = ks.take (j + 1) ++ ks.drop (j + 1) := (List.take_append_drop _ _).symm
  rw [h2, kpSL_append, h1, Bool.false_and]

set_option maxHeartbeats 2000000 in
set_option maxRecDepth 100000 in
theorem sKeeps_any (N : Nat) : ∀ (k n : Int) (ks : List Tm) (A : Option Addr) (c : Nat) (cut by_ : Int) (q : Nat) (w : World), sizes ks < N → sizes ks ≤ 1000000000 → shape q (.mk k n ks) = true → 0 ≤ by_ ∧ by_ ≤ 1000 → 0 ≤ cut → cut + q ≤ 1000 → Rd w A 0 ks →
    Calls Try.prog 140 #[.agg #[.int .i64 k, .int .i64 n, .slice A ks.length c], .int .i64 cut, .int .i64 by_] w fun e w' => e = .returned (.bool (kpS by_ cut (.mk k n ks))) ∧ Below w.heap.size w w' := by
  induction N with
  | zero => intro k n ks A c cut by_ q w hN; exact absurd hN (Nat.not_lt_zero _)
  | succ N ih =>
  intro k n ks A c cut by_ q w hN hM hsh hby hc0 hcq hr
  have hlen := length_le_sizes ks
  obtain ⟨q, rfl, ha, hm1, hm2, hkids⟩ := shape_pos hsh
  have hkids' := hide hkids
  rw [kpS]
  by_cases hk : k = 1 ∧ cut ≤ n ∧ n < cut + by_
  · rw [if_pos hk]
    obtain ⟨rfl, h1, h2⟩ := hk
    have q1 : decide (cut ≤ n) = true := decide_eq_true h1
    have q2 : decide (n < cut + by_) = true := decide_eq_true h2
    have hn2 : n ≤ 20 := by simpa [mostN] using hm2
    clear h1 h2 hkids hsh ha hm2
    go_enter Try.func140, Try.ntmps140
    go_wp2_with fail
    go_ret
    exact ⟨rfl, (Below.refl _ _).alloc (Nat.le_refl _) _⟩
  · rw [if_neg hk]
    have hgo : Calls Try.prog 140 #[.agg #[.int .i64 k, .int .i64 n, .slice A ks.length c], .int .i64 cut, .int .i64 by_] w (fun e w' => e = .returned (.bool (kpSL by_ k cut 0 ks)) ∧ Below w.heap.size w w') := by
      have hk' := hide hk
      have hm2' := hide hm2
      clear hk hkids hsh ha hm2
      by_cases h1 : k = 1
      · subst h1
        have q0 : ((1 : Int) == 1) = true := rfl
        have hn2 : n ≤ 20 := by simpa [mostN] using hm2'.out
        by_cases h2 : cut ≤ n
        · have q1 : decide (cut ≤ n) = true := decide_eq_true h2
          have q2 : decide (n < cut + by_) = false := decide_eq_false (fun h => hk'.out ⟨rfl, h2, h⟩)
          clear h2
          go_enter Try.func140, Try.ntmps140
          go_wp2_with fail
          go_loopw [7] (fun i wr => ∃ (j : Nat), j ≤ ks.length ∧ i = .int .i64 j ∧ Hid (kpSL by_ 1 cut 0 (ks.take j) = true) ∧ Blk wr w.heap.size #[.int .i64 1, .int .i64 n, .slice A ks.length c] ∧ Below w.heap.size w wr) (fun i _ => ks.length - (intOf i).toNat)
          case atStart => exact ⟨0, Nat.zero_le _, rfl, hide rfl, Blk.new_ _ _ _ rfl, (Below.refl _ _).alloc (Nat.le_refl _) _⟩
          case round =>
            obtain ⟨j, hj, rfl, hall, hB1, hb⟩ := hrel
            have b2 := hB1.at_ (i := 2) rfl
            by_cases hlt : j < ks.length
            · obtain ⟨b, off, k1, n1, ks1, A1, c1, rfl, hkj, hc1, hc2, hc3, hl1, hr1⟩ := (hr.below hb).at_ hlt
              have hsz := sizes_le (List.getElem_mem hlt)
              have hsk := hkids'.out _ (List.getElem_mem hlt)
              rw [hkj] at hsz hsk
              simp only [Tm.size] at hsz
              have H3 := hide hkj
              have H4 := hide hsk
              clear hkj hsk
              go_wp2_with fail
              have r1 := rule_of hc1
              have r2 := rule_of hc2
              have r3 := rule_of hc3
              have r7 := hB1.rule (i := 2) rfl
              have r8 := hB1.rule (i := 0) rfl
              have hun := under_le 1 j
              refine wp_region_firstY (fun w' => Below wr.heap.size wr w') [0, 1, 2, 3, 4, 5, 6, 7, 8, 9, 10, 11] [] [12, 13] [_, _, _, _, _, _, _, _, _, _, _, _] [] [_, _] (by kernel_rfl) (by kernel_rfl) rfl rfl rfl (fun _ _ d _ _ h => by cases d <;> exact h) (Below.refl _ _).drew ?_
              repeat (first | ((refine takeY_skip (a' := ?_) ?_ ?_ ?_); (rotate_left); (· (simp [Region.wanted, yielded]; done)); (· (simp only [List.getElem_toArray, List.getElem_cons_zero, List.getElem_cons_succ, Act.put, List.setIfInBounds_toArray, List.set_cons_zero, List.set_cons_succ]; exact rfl))) | ((refine takeY_step (v := ?_) (a' := ?_) ?_ ?_ ?_ ?_); (rotate_left 2); (· (simp [Region.wanted, yielded]; done)); (· (intro w' hS'; go_simp; try (with_reducible rfl))); (· (simp only [List.getElem_toArray, List.getElem_cons_zero, List.getElem_cons_succ, Act.put, List.setIfInBounds_toArray, List.set_cons_zero, List.set_cons_succ]; exact rfl))) | ((refine takeY_call (v := ?_) (a' := ?_) 105 ?_ ?_ ?_ ?_ ?_ ?_); (rotate_left 3); (· (simp [Region.wanted, yielded]; done)); (· (intro w' hS'; go_simp; try (with_reducible rfl))); (· (intro w' hS'; exact sUnder_any _ _ _)); (· (simp only [List.getElem_toArray, List.getElem_cons_zero, List.getElem_cons_succ, Act.put, List.setIfInBounds_toArray, List.set_cons_zero, List.set_cons_succ]; exact rfl))))
              refine takeY_nil (then_nil ?_)
              clear r1 r2 r3 r7 r8
              cases hte : kpS by_ (cut + under 1 j) (.mk k1 n1 ks1) with
              | false =>
                have hte' := hide hte
                clear hte
                go_wp2_with (go_at_call 140; refine (ih k1 n1 ks1 A1 c1 (cut + under 1 j) by_ q _ (by omega) (by omega) H4.out hby (by omega) (by omega) hr1.drew).mono ?_; rw [hte'.out]; rintro e w1 ⟨rfl, hb1⟩)
                go_ret
                exact ⟨ret_bool (kpSL_no by_ 1 cut hlt (by rw [H3.out]; exact hte'.out)).symm, hb.drew.trans (hb1.mono (by simpa using hb.size))⟩
              | true =>
                have hte' := hide hte
                clear hte
                go_wp2_with (go_at_call 140; refine (ih k1 n1 ks1 A1 c1 (cut + under 1 j) by_ q _ (by omega) (by omega) H4.out hby (by omega) (by omega) hr1.drew).mono ?_; rw [hte'.out]; rintro e w1 ⟨rfl, hb1⟩)
                replace hb1 : Below wr.heap.size wr w1 := (Below.refl _ _).drew.trans hb1
                go_roundw
                case rel => exact ⟨j + 1, by omega, by go_num, hide (by rw [kpSL_take by_ 1 cut hlt, hall.out, H3.out, hte'.out]; rfl), hB1.keep hb1, hb.trans (hb1.mono hb.size)⟩
                case measure => simp [intOf]; omega
            · go_wp2_with fail
              go_ret
              have hjl : j = ks.length := by omega
              have h5 := hall.out
              rw [hjl, List.take_length] at h5
              exact ⟨ret_bool h5.symm, hb⟩
        · have q1 : decide (cut ≤ n) = false := decide_eq_false h2
          clear h2
          go_enter Try.func140, Try.ntmps140
          go_wp2_with fail
          go_loopw [7] (fun i wr => ∃ (j : Nat), j ≤ ks.length ∧ i = .int .i64 j ∧ Hid (kpSL by_ 1 cut 0 (ks.take j) = true) ∧ Blk wr w.heap.size #[.int .i64 1, .int .i64 n, .slice A ks.length c] ∧ Below w.heap.size w wr) (fun i _ => ks.length - (intOf i).toNat)
          case atStart => exact ⟨0, Nat.zero_le _, rfl, hide rfl, Blk.new_ _ _ _ rfl, (Below.refl _ _).alloc (Nat.le_refl _) _⟩
          case round =>
            obtain ⟨j, hj, rfl, hall, hB1, hb⟩ := hrel
            have b2 := hB1.at_ (i := 2) rfl
            by_cases hlt : j < ks.length
            · obtain ⟨b, off, k1, n1, ks1, A1, c1, rfl, hkj, hc1, hc2, hc3, hl1, hr1⟩ := (hr.below hb).at_ hlt
              have hsz := sizes_le (List.getElem_mem hlt)
              have hsk := hkids'.out _ (List.getElem_mem hlt)
              rw [hkj] at hsz hsk
              simp only [Tm.size] at hsz
              have H3 := hide hkj
              have H4 := hide hsk
              clear hkj hsk
              go_wp2_with fail
              have r1 := rule_of hc1
              have r2 := rule_of hc2
              have r3 := rule_of hc3
              have r7 := hB1.rule (i := 2) rfl
              have r8 := hB1.rule (i := 0) rfl
              have hun := under_le 1 j
              refine wp_region_firstY (fun w' => Below wr.heap.size wr w') [0, 1, 2, 3, 4, 5, 6, 7, 8, 9, 10, 11] [] [12, 13] [_, _, _, _, _, _, _, _, _, _, _, _] [] [_, _] (by kernel_rfl) (by kernel_rfl) rfl rfl rfl (fun _ _ d _ _ h => by cases d <;> exact h) (Below.refl _ _).drew ?_
              repeat (first | ((refine takeY_skip (a' := ?_) ?_ ?_ ?_); (rotate_left); (· (simp [Region.wanted, yielded]; done)); (· (simp only [List.getElem_toArray, List.getElem_cons_zero, List.getElem_cons_succ, Act.put, List.setIfInBounds_toArray, List.set_cons_zero, List.set_cons_succ]; exact rfl))) | ((refine takeY_step (v := ?_) (a' := ?_) ?_ ?_ ?_ ?_); (rotate_left 2); (· (simp [Region.wanted, yielded]; done)); (· (intro w' hS'; go_simp; try (with_reducible rfl))); (· (simp only [List.getElem_toArray, List.getElem_cons_zero, List.getElem_cons_succ, Act.put, List.setIfInBounds_toArray, List.set_cons_zero, List.set_cons_succ]; exact rfl))) | ((refine takeY_call (v := ?_) (a' := ?_) 105 ?_ ?_ ?_ ?_ ?_ ?_); (rotate_left 3); (· (simp [Region.wanted, yielded]; done)); (· (intro w' hS'; go_simp; try (with_reducible rfl))); (· (intro w' hS'; exact sUnder_any _ _ _)); (· (simp only [List.getElem_toArray, List.getElem_cons_zero, List.getElem_cons_succ, Act.put, List.setIfInBounds_toArray, List.set_cons_zero, List.set_cons_succ]; exact rfl))))
              refine takeY_nil (then_nil ?_)
              clear r1 r2 r3 r7 r8
              cases hte : kpS by_ (cut + under 1 j) (.mk k1 n1 ks1) with
              | false =>
                have hte' := hide hte
                clear hte
                go_wp2_with (go_at_call 140; refine (ih k1 n1 ks1 A1 c1 (cut + under 1 j) by_ q _ (by omega) (by omega) H4.out hby (by omega) (by omega) hr1.drew).mono ?_; rw [hte'.out]; rintro e w1 ⟨rfl, hb1⟩)
                go_ret
                exact ⟨ret_bool (kpSL_no by_ 1 cut hlt (by rw [H3.out]; exact hte'.out)).symm, hb.drew.trans (hb1.mono (by simpa using hb.size))⟩
              | true =>
                have hte' := hide hte
                clear hte
                go_wp2_with (go_at_call 140; refine (ih k1 n1 ks1 A1 c1 (cut + under 1 j) by_ q _ (by omega) (by omega) H4.out hby (by omega) (by omega) hr1.drew).mono ?_; rw [hte'.out]; rintro e w1 ⟨rfl, hb1⟩)
                replace hb1 : Below wr.heap.size wr w1 := (Below.refl _ _).drew.trans hb1
                go_roundw
                case rel => exact ⟨j + 1, by omega, by go_num, hide (by rw [kpSL_take by_ 1 cut hlt, hall.out, H3.out, hte'.out]; rfl), hB1.keep hb1, hb.trans (hb1.mono hb.size)⟩
                case measure => simp [intOf]; omega
            · go_wp2_with fail
              go_ret
              have hjl : j = ks.length := by omega
              have h5 := hall.out
              rw [hjl, List.take_length] at h5
              exact ⟨ret_bool h5.symm, hb⟩
      · have q0 : (k == 1) = false := by simpa using h1
        clear h1
        go_enter Try.func140, Try.ntmps140
        go_wp2_with fail
        go_loopw [7] (fun i wr => ∃ (j : Nat), j ≤ ks.length ∧ i = .int .i64 j ∧ Hid (kpSL by_ k cut 0 (ks.take j) = true) ∧ Blk wr w.heap.size #[.int .i64 k, .int .i64 n, .slice A ks.length c] ∧ Below w.heap.size w wr) (fun i _ => ks.length - (intOf i).toNat)
        case atStart => exact ⟨0, Nat.zero_le _, rfl, hide rfl, Blk.new_ _ _ _ rfl, (Below.refl _ _).alloc (Nat.le_refl _) _⟩
        case round =>
          obtain ⟨j, hj, rfl, hall, hB1, hb⟩ := hrel
          have b2 := hB1.at_ (i := 2) rfl
          by_cases hlt : j < ks.length
          · obtain ⟨b, off, k1, n1, ks1, A1, c1, rfl, hkj, hc1, hc2, hc3, hl1, hr1⟩ := (hr.below hb).at_ hlt
            have hsz := sizes_le (List.getElem_mem hlt)
            have hsk := hkids'.out _ (List.getElem_mem hlt)
            rw [hkj] at hsz hsk
            simp only [Tm.size] at hsz
            have H3 := hide hkj
            have H4 := hide hsk
            clear hkj hsk
            go_wp2_with fail
            have r1 := rule_of hc1
            have r2 := rule_of hc2
            have r3 := rule_of hc3
            have r7 := hB1.rule (i := 2) rfl
            have r8 := hB1.rule (i := 0) rfl
            have hun := under_le k j
            refine wp_region_firstY (fun w' => Below wr.heap.size wr w') [0, 1, 2, 3, 4, 5, 6, 7, 8, 9, 10, 11] [] [12, 13] [_, _, _, _, _, _, _, _, _, _, _, _] [] [_, _] (by kernel_rfl) (by kernel_rfl) rfl rfl rfl (fun _ _ d _ _ h => by cases d <;> exact h) (Below.refl _ _).drew ?_
            repeat (first | ((refine takeY_skip (a' := ?_) ?_ ?_ ?_); (rotate_left); (· (simp [Region.wanted, yielded]; done)); (· (simp only [List.getElem_toArray, List.getElem_cons_zero, List.getElem_cons_succ, Act.put, List.setIfInBounds_toArray, List.set_cons_zero, List.set_cons_succ]; exact rfl))) | ((refine takeY_step (v := ?_) (a' := ?_) ?_ ?_ ?_ ?_); (rotate_left 2); (· (simp [Region.wanted, yielded]; done)); (· (intro w' hS'; go_simp; try (with_reducible rfl))); (· (simp only [List.getElem_toArray, List.getElem_cons_zero, List.getElem_cons_succ, Act.put, List.setIfInBounds_toArray, List.set_cons_zero, List.set_cons_succ]; exact rfl))) | ((refine takeY_call (v := ?_) (a' := ?_) 105 ?_ ?_ ?_ ?_ ?_ ?_); (rotate_left 3); (· (simp [Region.wanted, yielded]; done)); (· (intro w' hS'; go_simp; try (with_reducible rfl))); (· (intro w' hS'; exact sUnder_any _ _ _)); (· (simp only [List.getElem_toArray, List.getElem_cons_zero, List.getElem_cons_succ, Act.put, List.setIfInBounds_toArray, List.set_cons_zero, List.set_cons_succ]; exact rfl))))
            refine takeY_nil (then_nil ?_)
            clear r1 r2 r3 r7 r8
            cases hte : kpS by_ (cut + under k j) (.mk k1 n1 ks1) with
            | false =>
              have hte' := hide hte
              clear hte
              go_wp2_with (go_at_call 140; refine (ih k1 n1 ks1 A1 c1 (cut + under k j) by_ q _ (by omega) (by omega) H4.out hby (by omega) (by omega) hr1.drew).mono ?_; rw [hte'.out]; rintro e w1 ⟨rfl, hb1⟩)
              go_ret
              exact ⟨ret_bool (kpSL_no by_ k cut hlt (by rw [H3.out]; exact hte'.out)).symm, hb.drew.trans (hb1.mono (by simpa using hb.size))⟩
            | true =>
              have hte' := hide hte
              clear hte
              go_wp2_with (go_at_call 140; refine (ih k1 n1 ks1 A1 c1 (cut + under k j) by_ q _ (by omega) (by omega) H4.out hby (by omega) (by omega) hr1.drew).mono ?_; rw [hte'.out]; rintro e w1 ⟨rfl, hb1⟩)
              replace hb1 : Below wr.heap.size wr w1 := (Below.refl _ _).drew.trans hb1
              go_roundw
              case rel => exact ⟨j + 1, by omega, by go_num, hide (by rw [kpSL_take by_ k cut hlt, hall.out, H3.out, hte'.out]; rfl), hB1.keep hb1, hb.trans (hb1.mono hb.size)⟩
              case measure => simp [intOf]; omega
          · go_wp2_with fail
            go_ret
            have hjl : j = ks.length := by omega
            have h5 := hall.out
            rw [hjl, List.take_length] at h5
            exact ⟨ret_bool h5.symm, hb⟩
    exact hgo


/-- the two tests of a shift down are one -/
theorem kp_ok {dp : Int} (h0 : 0 ≤ dp) (t : Tm) : ∀ (q : Nat) (d : Int), 0 ≤ d → shape q t = true → chgOk (shOk (-dp) 0) d t = kpS dp d t := by
  refine Tm.rec (motive_1 := fun t => ∀ (q : Nat) (d : Int), 0 ≤ d → shape q t = true → chgOk (shOk (-dp) 0) d t = kpS dp d t)
    (motive_2 := fun ts => ∀ (q : Nat) (k d : Int) (i : Nat), 0 ≤ d → (∀ t, t ∈ ts → shape q t = true) → chgsOk (shOk (-dp) 0) k d i ts = kpSL dp k d i ts) ?_ ?_ ?_ t
  · intro k n ks ih q d hd h
    obtain ⟨q', rfl, ha, h0, h1, hk⟩ := shape_pos h
    rw [chgOk, kpS]
    by_cases h1 : k = 1
    · subst h1
      have h20 : n ≤ 20 := by simpa [mostN] using h1
      have := var_nil ha
      subst this
      rw [if_pos rfl, shOk, kpSL]
      by_cases h2 : d ≤ n
      · rw [if_pos (by omega), decide_eq_true (show n + -dp ≤ 20 by omega), Bool.and_true]
        by_cases h3 : n < d + dp
        · rw [if_pos ⟨rfl, h2, h3⟩, decide_eq_false (by omega)]
        · rw [if_neg (by rintro ⟨-, -, h⟩; exact h3 h), decide_eq_true (by omega)]
      · rw [if_neg (by omega), if_neg (by rintro ⟨-, h, -⟩; exact h2 h)]
    · rw [if_neg h1, if_neg (by rintro ⟨h, -⟩; exact h1 h), ih q' k d 0 hd hk]
  · intro q k d i _ _; rfl
  · intro t ts h1 h2 q k d i hd hk
    rw [chgsOk, kpSL, h1 q _ (by have := under_le k i; omega) (hk t List.mem_cons_self), h2 q k d (i + 1) hd (fun t ht => hk t (List.mem_cons_of_mem _ ht))]
theorem shS_shape {dp : Int} (h0 : 0 ≤ dp) (t : Tm) : ∀ (q : Nat) (d : Int), 0 ≤ d → shape q t = true → kpS dp d t = true → shape q (shS (-dp) d t) = true := by
  refine Tm.rec (motive_1 := fun t => ∀ (q : Nat) (d : Int), 0 ≤ d → shape q t = true → kpS dp d t = true → shape q (shS (-dp) d t) = true)
    (motive_2 := fun ts => ∀ (q : Nat) (k d : Int) (i : Nat), 0 ≤ d → (∀ t, t ∈ ts → shape q t = true) → kpSL dp k d i ts = true → ∀ t, t ∈ shSL (-dp) k d i ts → shape q t = true) ?_ ?_ ?_ t
  · intro k n ks ih q d hd h hkp
    obtain ⟨q', rfl, ha, hn0, hn1, hk⟩ := shape_pos h
    rw [kpS] at hkp
    rw [shS]
    by_cases h1 : k = 1 ∧ d ≤ n ∧ n < d + dp
    · rw [if_pos h1] at hkp; cases hkp
    · rw [if_neg h1] at hkp
      refine (shape_split _ _ _ _).2 ⟨by rw [shSL_length]; exact ha, ?_, ?_, ih q' k d 0 hd hk hkp⟩
      · split
        · rename_i h2
          have : ¬ n < d + dp := fun h => h1 ⟨h2.1, h2.2, h⟩
          omega
        · exact hn0
      · split
        · omega
        · exact hn1
  · intro q k d i _ _ _ t ht; rw [shSL] at ht; cases ht
  · intro t ts h1 h2 q k d i hd hk hkp u hu
    rw [kpSL, Bool.and_eq_true] at hkp
    rw [shSL] at hu
    rcases List.mem_cons.1 hu with rfl | hu
    · exact h1 q _ (by have := under_le k i; omega) (hk t List.mem_cons_self) hkp.1
    · exact h2 q k d (i + 1) hd (fun t ht => hk t (List.mem_cons_of_mem _ ht)) hkp.2 u hu
/-- a shift down of a valid term goes well just where no variable is lost, and is the reference's -/
theorem shiftI_down {dp : Int} (h0 : 0 ≤ dp) {u : Tm} (hv : validT u = true) : shiftI (-dp) 0 u = if kpS dp 0 u = true then some (shS (-dp) 0 u) else none := by
  have hs : shape 30 u = true := by simp only [validT, Bool.and_eq_true] at hv; exact hv.1
  unfold shiftI
  rw [kp_ok h0 u 30 0 (Int.le_refl 0) hs]
  split
  · rename_i hk
    rw [shS_chg (-dp) 0 u 30 0 hs, Int.zero_add, if_pos]
    rw [validT, shS_shape h0 u 30 0 (Int.le_refl 0) hs hk, shS_size, decide_eq_true (validT_size hv)]; rfl
  · rfl
end Go.Proofs.Ytefifcmieicnlaa
