/-
  Slices of integers: whether two are one (slices.Equal, the laws' own eqIntS). No condition.
-/
import Derived.Test.YtefifcmieicnlaaAt
namespace Go.Proofs.Ytefifcmieicnlaa
open Go.RowKit
set_option linter.unusedSimpArgs false
set_option linter.unusedVariables false

set_option maxHeartbeats 2000000 in
set_option maxRecDepth 100000 in
theorem iEqual_any (xs ys : List Int) (A B : Option Addr) (c d : Nat) (w : World) (hx : xs.length ≤ 9223372036854775807) (hy : ys.length ≤ 9223372036854775807) (hr : RdI w A xs) (hr' : RdI w B ys) :
    Calls Try.prog 72 #[.slice A xs.length c, .slice B ys.length d] w fun e w' => e = .returned (.bool (decide (xs = ys))) ∧ Below w.heap.size w w' := by
  by_cases hlen : xs.length = ys.length
  · have hq : ((xs.length : Int) != (ys.length : Int)) = false := by simp [hlen]
    have hH := hide hlen
    have hle : ys.length ≤ xs.length := by omega
    have hge : xs.length ≤ ys.length := by omega
    clear hlen
    generalize hdd : decide (xs = ys) = dd
    have hdd' := hide hdd
    clear hdd
    go_enter Try.func72, Try.ntmps72
    go_wp2_with fail
    go_loopw [13] (fun i wr => ∃ j : Nat, j ≤ xs.length ∧ i = .int .i64 j ∧ Hid (xs.take j = ys.take j) ∧ Below w.heap.size w wr) (fun i _ => xs.length - (intOf i).toNat)
    case atStart => exact ⟨0, Nat.zero_le _, rfl, hide (by simp), Below.refl _ _⟩
    case round =>
      obtain ⟨j, hj, rfl, heq, hb⟩ := hrel
      by_cases hlt : j < xs.length
      · have hlt' : j < ys.length := by omega
        obtain ⟨b, off, rfl, hc⟩ := hr.below hb j hlt
        obtain ⟨b2, off2, rfl, hd⟩ := hr'.below hb j hlt'
        generalize hxj : xs[j] = x at hc
        generalize hyj : ys[j] = y at hd
        have hxj' := hide hxj
        have hyj' := hide hyj
        clear hxj hyj
        go_wp2_with fail
        have r1 := rule_of hc
        have r2 := rule_of hd
        refine wp_region_firstY (fun w' => Below wr.heap.size wr w') [0, 1, 2, 3, 4, 5, 6, 7, 8] [] [] [_, _, _, _, _, _, _, _, _] [] [] (by kernel_rfl) (by kernel_rfl) rfl rfl rfl (fun _ _ d _ _ h => by cases d <;> exact h) (Below.refl _ _).drew ?_
        repeat (first | ((refine takeY_skip (a' := ?_) ?_ ?_ ?_); (rotate_left); (· (simp [Region.wanted, yielded]; done)); (· (simp only [List.getElem_toArray, List.getElem_cons_zero, List.getElem_cons_succ, Act.put, List.setIfInBounds_toArray, List.set_cons_zero, List.set_cons_succ]; exact rfl))) | ((refine takeY_step (v := ?_) (a' := ?_) ?_ ?_ ?_ ?_); (rotate_left 2); (· (simp [Region.wanted, yielded]; done)); (· (intro w' hS'; go_simp; try (with_reducible rfl))); (· (simp only [List.getElem_toArray, List.getElem_cons_zero, List.getElem_cons_succ, Act.put, List.setIfInBounds_toArray, List.set_cons_zero, List.set_cons_succ]; exact rfl))))
        refine takeY_nil (then_nil ?_)
        clear r1 r2
        by_cases hne : x = y
        · have q : (x != y) = false := by simpa using hne
          have hne' := hide hne
          clear hne
          go_wp2_with fail
          go_roundw
          case rel => exact ⟨j + 1, by omega, by go_num, hide (by rw [List.take_succ_eq_append_getElem hlt, List.take_succ_eq_append_getElem hlt', heq.out, hxj'.out, hyj'.out, hne'.out]), hb.drew⟩
          case measure => simp [intOf]; omega
        · have q : (x != y) = true := by simpa using hne
          have hdf : dd = false := by
            rw [← hdd'.out]
            refine decide_eq_false fun e => hne ?_
            rw [← hxj'.out, ← hyj'.out]
            subst e; rfl
          subst hdf
          clear hne
          go_wp2_with fail
          go_ret
          exact ⟨rfl, hb.drew⟩
      · have hjl : j = xs.length := by omega
        have hdt : dd = true := by
          rw [← hdd'.out]
          have h5 := heq.out
          rw [hjl, List.take_length, hH.out, List.take_length] at h5
          exact decide_eq_true h5
        subst hdt
        go_wp2_with fail
        go_ret
        exact ⟨rfl, hb⟩
  · have hq : ((xs.length : Int) != (ys.length : Int)) = true := by simp; omega
    rw [decide_eq_false (fun e => hlen (by rw [e]))]
    clear hlen
    go_enter Try.func72, Try.ntmps72
    go_wp2_with fail
    go_ret
    exact ⟨rfl, Below.refl _ _⟩

set_option maxHeartbeats 2000000 in
set_option maxRecDepth 100000 in
theorem eqIntS_any (xs ys : List Int) (A B : Option Addr) (c d : Nat) (w : World) (hx : xs.length ≤ 9223372036854775807) (hy : ys.length ≤ 9223372036854775807) (hr : RdI w A xs) (hr' : RdI w B ys) :
    Calls Try.prog 36 #[.slice A xs.length c, .slice B ys.length d] w fun e w' => e = .returned (.bool (decide (xs = ys))) ∧ Below w.heap.size w w' := by
  by_cases hlen : xs.length = ys.length
  · have hq : ((xs.length : Int) != (ys.length : Int)) = false := by simp [hlen]
    have hH := hide hlen
    have hle : ys.length ≤ xs.length := by omega
    have hge : xs.length ≤ ys.length := by omega
    clear hlen
    generalize hdd : decide (xs = ys) = dd
    have hdd' := hide hdd
    clear hdd
    go_enter Try.func36, Try.ntmps36
    go_wp2_with fail
    go_loopw [5] (fun i wr => ∃ j : Nat, j ≤ xs.length ∧ i = .int .i64 j ∧ Hid (xs.take j = ys.take j) ∧ Below w.heap.size w wr) (fun i _ => xs.length - (intOf i).toNat)
    case atStart => exact ⟨0, Nat.zero_le _, rfl, hide (by simp), Below.refl _ _⟩
    case round =>
      obtain ⟨j, hj, rfl, heq, hb⟩ := hrel
      by_cases hlt : j < xs.length
      · have hlt' : j < ys.length := by omega
        obtain ⟨b, off, rfl, hc⟩ := hr.below hb j hlt
        obtain ⟨b2, off2, rfl, hd⟩ := hr'.below hb j hlt'
        generalize hxj : xs[j] = x at hc
        generalize hyj : ys[j] = y at hd
        have hxj' := hide hxj
        have hyj' := hide hyj
        clear hxj hyj
        go_wp2_with fail
        have r1 := rule_of hc
        have r2 := rule_of hd
        refine wp_region_firstY (fun w' => Below wr.heap.size wr w') [0, 1, 2, 3, 4, 5, 6, 7, 8] [] [] [_, _, _, _, _, _, _, _, _] [] [] (by kernel_rfl) (by kernel_rfl) rfl rfl rfl (fun _ _ d _ _ h => by cases d <;> exact h) (Below.refl _ _).drew ?_
        repeat (first | ((refine takeY_skip (a' := ?_) ?_ ?_ ?_); (rotate_left); (· (simp [Region.wanted, yielded]; done)); (· (simp only [List.getElem_toArray, List.getElem_cons_zero, List.getElem_cons_succ, Act.put, List.setIfInBounds_toArray, List.set_cons_zero, List.set_cons_succ]; exact rfl))) | ((refine takeY_step (v := ?_) (a' := ?_) ?_ ?_ ?_ ?_); (rotate_left 2); (· (simp [Region.wanted, yielded]; done)); (· (intro w' hS'; go_simp; try (with_reducible rfl))); (· (simp only [List.getElem_toArray, List.getElem_cons_zero, List.getElem_cons_succ, Act.put, List.setIfInBounds_toArray, List.set_cons_zero, List.set_cons_succ]; exact rfl))))
        refine takeY_nil (then_nil ?_)
        clear r1 r2
        by_cases hne : x = y
        · have q : (x != y) = false := by simpa using hne
          have hne' := hide hne
          clear hne
          go_wp2_with fail
          go_roundw
          case rel => exact ⟨j + 1, by omega, by go_num, hide (by rw [List.take_succ_eq_append_getElem hlt, List.take_succ_eq_append_getElem hlt', heq.out, hxj'.out, hyj'.out, hne'.out]), hb.drew⟩
          case measure => simp [intOf]; omega
        · have q : (x != y) = true := by simpa using hne
          have hdf : dd = false := by
            rw [← hdd'.out]
            refine decide_eq_false fun e => hne ?_
            rw [← hxj'.out, ← hyj'.out]
            subst e; rfl
          subst hdf
          clear hne
          go_wp2_with fail
          go_ret
          exact ⟨rfl, hb.drew⟩
      · have hjl : j = xs.length := by omega
        have hdt : dd = true := by
          rw [← hdd'.out]
          have h5 := heq.out
          rw [hjl, List.take_length, hH.out, List.take_length] at h5
          exact decide_eq_true h5
        subst hdt
        go_wp2_with fail
        go_ret
        exact ⟨rfl, hb⟩
  · have hq : ((xs.length : Int) != (ys.length : Int)) = true := by simp; omega
    rw [decide_eq_false (fun e => hlen (by rw [e]))]
    clear hlen
    go_enter Try.func36, Try.ntmps36
    go_wp2_with fail
    go_ret
    exact ⟨rfl, Below.refl _ _⟩

end Go.Proofs.Ytefifcmieicnlaa
