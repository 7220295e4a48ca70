/-
  Contracts of the functions that the law reaches, and plain lemmas. No condition.
-/
import Derived.Test.YtodkenpmhhbppaaK1
import Derived.Test.YtodkenpmhhbppaaK4
import Derived.Test.YtodkenpmhhbppaaK5
import Derived.Maps.AppendAt
import Derived.OwnWalk
namespace Go.Proofs.Ytodkenpmhhbppaa
set_option linter.unusedSimpArgs false
set_option linter.unusedVariables false
open Go.RowKit
/-- what a scan answers -/
def scanB (d : Nat) (c0 : Int) (k n : Int) (ks : List Tm) : Bool := shape d (.mk k n ks) && decide (c0 + 1 + sizes ks ≤ 400)
theorem scan_no {d : Nat} {c0 k n : Int} {ks : List Tm} (h : ¬ (0 < d ∧ arity k = (ks.length : Int) ∧ 0 ≤ n ∧ n ≤ mostN k ∧ c0 + 1 ≤ 400)) : false = scanB d c0 k n ks := by
  cases e : scanB d c0 k n ks with
  | false => rfl
  | true =>
    simp only [scanB, Bool.and_eq_true, decide_eq_true_eq] at e
    cases d with
    | zero => simp [shape] at e
    | succ d =>
      have := (shape_split d k n ks).1 e.1
      exact absurd ⟨by omega, this.1, this.2.1, this.2.2.1, by omega⟩ h
theorem scan_yes {d : Nat} {c0 k n : Int} {ks : List Tm} (h : shape d (.mk k n ks) = true) (h2 : c0 + 1 + (sizes ks : Int) ≤ 400) : true = scanB d c0 k n ks := by
  simp only [scanB, h, decide_eq_true h2, Bool.and_self]
theorem scan_child_yes {d : Nat} {c0 k1 n1 : Int} {ks ks1 : List Tm} {j : Nat} (hj : j < ks.length) (hk : ks[j] = .mk k1 n1 ks1) (hst : sizes (ks.take (j + 1)) = sizes (ks.take j) + (sizes ks1 + 1))
    (hb : true = scanB d (c0 + 1 + (sizes (ks.take j) : Int)) k1 n1 ks1) : shape d ks[j] = true ∧ c0 + 1 + (sizes (ks.take (j + 1)) : Int) ≤ 400 := by
  simp only [scanB] at hb
  have hb := hb.symm
  rw [Bool.and_eq_true, decide_eq_true_eq] at hb
  rw [hk]
  refine ⟨hb.1, ?_⟩
  have := hb.2
  rw [hst]
  push_cast
  omega
theorem scan_child_no {d : Nat} {c0 k n k1 n1 : Int} {ks ks1 : List Tm} {j : Nat} (hj : j < ks.length) (hk : ks[j] = .mk k1 n1 ks1) (hst : sizes (ks.take (j + 1)) = sizes (ks.take j) + (sizes ks1 + 1))
    (hb : false = scanB d (c0 + 1 + (sizes (ks.take j) : Int)) k1 n1 ks1) : false = scanB (d + 1) c0 k n ks := by
  cases e : scanB (d + 1) c0 k n ks with
  | false => rfl
  | true =>
    simp only [scanB, Bool.and_eq_true, decide_eq_true_eq] at e
    have h1 := (shape_split d k n ks).1 e.1
    have h2 := h1.2.2.2 _ (List.getElem_mem hj)
    have h3 := sizes_take_le ks (j + 1)
    rw [hk] at h2
    simp only [scanB, h2, Bool.true_and] at hb
    have := of_decide_eq_false hb.symm
    omega
theorem all_take {ks : List Tm} {j : Nat} {p : Tm → Prop} (hj : j < ks.length) (h : ∀ t, t ∈ ks.take j → p t) (h1 : p ks[j]) : ∀ t, t ∈ ks.take (j + 1) → p t := by
  intro t ht
  rw [List.take_succ_eq_append_getElem hj, List.mem_append] at ht
  rcases ht with ht | ht
  · exact h t ht
  · simp at ht; rw [ht]; exact h1
theorem only_alloc_drop {w w' : World} {o : Obj} {m : Option Nat} (h : (w.alloc o).grownBy w' m) : w.grownBy w' m := only_trans (only_alloc (World.grownBy.refl _ _) o) h
def ScanPost (d : Nat) (c0 : Int) (k n : Int) (ks : List Tm) (g : Nat) (w : World) (e : Ending) (w' : World) : Prop :=
  ∃ (b : Bool) (c1 : Int), e = .returned (.bool b) ∧ b = scanB d c0 k n ks ∧ (b = true → c1 = c0 + 1 + sizes ks) ∧ 0 ≤ c1 ∧ c1 ≤ 1000 ∧ Blk w' g #[.int .i64 c1] ∧ w.grownBy w' (some g)
set_option maxRecDepth 100000 in
set_option maxHeartbeats 2000000 in
theorem scan_any (N : Nat) : ∀ (k n : Int) (ks : List Tm) (A : Option Addr) (c : Nat) (deep : Int) (d : Nat) (c0 : Int) (g : Nat) (w : World), sizes ks < N → ks.length ≤ 9223372036854775807 → 1 ≤ deep → deep + d ≤ 31 → 31 ≤ deep + d → 0 ≤ c0 → c0 ≤ 900 →
    Blk w g #[.int .i64 c0] → RdP (· ≠ g) w A 0 ks →
    Calls Try.prog 77 #[.agg #[.int .i64 k, .int .i64 n, .slice A ks.length c], .int .i64 deep, .pointer (some ⟨g, 0, none⟩)] w (ScanPost d c0 k n ks g w) := by
  induction N with
  | zero => intro k n ks A c deep d c0 g w hN; exact absurd hN (Nat.not_lt_zero _)
  | succ N ih =>
  intro k n ks A c deep d c0 g w hN hl hd1 hd2 hd3 hc1 hc2 hcb hr
  have hgl := hcb.lt
  have hgc := hcb.at_ (i := 0) rfl
  have hgf := hcb.frozen 0
  by_cases h0 : c0 + 1 ≤ 400
  · by_cases h1 : deep ≤ 30
    · by_cases h2 : arity k = (ks.length : Int)
      · have q2 : (arity k != (ks.length : Int)) = false := by simpa using h2
        by_cases h3 : 0 ≤ n ∧ n ≤ mostN k
        · have q0 : decide (400 < c0 + 1) = false := by simp; omega
          have q1 : decide (30 < deep) = false := by simp; omega
          have q3 : (decide (0 ≤ n) && decide (n ≤ mostN k)) = true := by simp [h3.1, h3.2]
          have H := hide (And.intro h2 h3)
          clear h2 h3
          go_enter Try.func77, Try.ntmps77
          go_wp2_with fail
          refine name_world ?_
          intro wx hwx
          have hg0 : w.grownBy wx (some g) := by rw [hwx]; exact only_alloc (only_setCell (World.grownBy.refl _ _) (.inl rfl) _) _
          have hB : Blk wx w.heap.size #[.int .i64 k, .int .i64 n, .slice A ks.length c] := by rw [hwx]; exact Blk.new_ _ _ _ (by simp)
          have hG : Blk wx g #[.int .i64 (c0 + 1)] := by rw [hwx]; exact (hcb.set_ 0 _).alloc _
          have hrx : RdP (· ≠ g) wx A 0 ks := hr.grown hg0 (fun b hb e => hb (by injection e))
          have hsx : w.heap.size < wx.heap.size := by rw [hwx]; simp
          have r0 := hB.rule (i := 0) rfl
          have r1 := hB.rule (i := 1) rfl
          have r2 := hB.rule (i := 2) rfl
          have r3 := hG.rule (i := 0) rfl
          clear hwx
          refine wp_region_class (fun w' => Below wx.heap.size wx w') (by kernel_rfl) (by kernel_rfl) (Below.refl _ _).drew ?_
          repeat (first | ((refine quiet_skip (a' := ?_) ?_ ?_ ?_); (rotate_left); (· (simp [Region.wanted, yielded]; done)); (· (simp only [Act.put, List.setIfInBounds_toArray, List.set_cons_zero, List.set_cons_succ]; exact rfl))) | ((refine quiet_one (v := ?_) (a' := ?_) ?_ ?_ ?_ ?_); (rotate_left 2); (· (simp [Region.wanted, yielded]; done)); (· (intro w' hS'; go_simp; try (with_reducible rfl))); (· (simp only [Act.put, List.setIfInBounds_toArray, List.set_cons_zero, List.set_cons_succ]; exact rfl))) | ((refine quiet_below (v := ?_) (a' := ?_) 120 ?_ ?_ ?_ ?_ ?_ ?_); (rotate_left 3); (· (simp [Region.wanted, yielded]; done)); (· (intro w' hS'; go_simp; try (with_reducible rfl))); (· (intro w' hS'; exact operands_any _ _)); (· (simp only [Act.put, List.setIfInBounds_toArray, List.set_cons_zero, List.set_cons_succ]; exact rfl))) | ((refine quiet_same (v := ?_) (a' := ?_) 121 ?_ ?_ ?_ ?_ ?_ ?_); (rotate_left 3); (· (simp [Region.wanted, yielded]; done)); (· (intro w' hS'; go_simp; try (with_reducible rfl))); (· (intro w' hS'; exact most_any _ _)); (· (simp only [Act.put, List.setIfInBounds_toArray, List.set_cons_zero, List.set_cons_succ]; exact rfl))) | ((refine quiet_same (v := ?_) (a' := ?_) 69 ?_ ?_ ?_ ?_ ?_ ?_); (rotate_left 3); (· (simp [Region.wanted, yielded]; done)); (· (intro w' hS'; go_simp; try (with_reducible rfl))); (· (intro w' hS'; exact within_any _ _ _ _)); (· (simp only [Act.put, List.setIfInBounds_toArray, List.set_cons_zero, List.set_cons_succ]; exact rfl))))
          refine quiet_nil ?_
          intro w2 hb2
          replace hB := hB.keep hb2
          replace hG := hG.keep hb2
          replace hrx := hrx.below hb2
          replace hg0 := only_below hg0 hb2
          clear r0 r1 r2 r3 hb2
          obtain ⟨d, rfl⟩ : ∃ d', d = d' + 1 := ⟨d - 1, by omega⟩
          have hz := hide (shape_split d k n ks)
          have c2 := hB.at_ (i := 2) rfl
          go_wp2_with fail
          go_loopw [43] (fun i wr => ∃ j : Nat, j ≤ ks.length ∧ i = .int .i64 j ∧ Hid (∀ t, t ∈ ks.take j → shape d t = true) ∧ c0 + 1 + sizes (ks.take j) ≤ 400 ∧ Blk wr g #[.int .i64 (c0 + 1 + sizes (ks.take j))] ∧ w.grownBy wr (some g)) (fun i _ => ks.length - (intOf i).toNat)
          case atStart => exact ⟨0, Nat.zero_le _, rfl, hide (by simp), by simp [sizes]; omega, by simpa [sizes] using hG, hg0⟩
          case round =>
            obtain ⟨j, hj, rfl, hall, hle, hGr, hgr⟩ := hrel
            by_cases hlt : j < ks.length
            · obtain ⟨b, off, k1, n1, ks1, A1, c1, rfl, hkj, hc1, hc2, hc3, hl1, hr1⟩ := (hr.grown hgr (fun b hb e => hb (by injection e))).at_ hlt
              have hst := sizes_take ks j hlt
              have hsz := sizes_le (List.getElem_mem hlt)
              rw [hkj] at hsz hst
              simp only [Tm.size] at hsz hst
              have H3 := hide hkj
              have H4 := hide hst
              clear hkj hst
              go_wp2_with (go_at_call 77; refine (ih k1 n1 ks1 A1 c1 (deep + 1) d (c0 + 1 + sizes (ks.take j)) g _ (by omega) hl1 (by omega) (by omega) (by omega) (by omega) (by omega) (hGr.alloc _) (hr1.alloc _)).mono ?_; rintro e w3 ⟨b, cx, rfl, hbe, hcx, hx0, hx1, hG3, hg3⟩; have hbe' := hide hbe; have hcx' := hide hcx; clear hbe hcx)
              · rename_i hbx
                cases b with
                | true => simp at hbx
                | false =>
                go_ret
                exact ⟨false, cx, rfl, scan_child_no hlt H3.out H4.out hbe'.out, (fun h => (by cases h)), hx0, hx1, hG3, only_trans hgr (only_alloc_drop hg3)⟩
              · rename_i hbx
                cases b with
                | false => simp at hbx
                | true =>
                have hcx2 := hcx'.out rfl
                obtain ⟨hs1, hs2⟩ := scan_child_yes hlt H3.out H4.out hbe'.out
                have h4 := H4.out
                refine ⟨?_, by simp [intOf]; omega⟩
                repeat apply Exists.intro
                refine ⟨⟨j + 1, hlt, by rfl, hide (all_take hlt hall.out hs1), hs2, ?_, only_trans hgr (only_alloc_drop hg3)⟩, by rw [q3]; rfl⟩
                rw [show c0 + 1 + (sizes (ks.take (j+1)) : Int) = cx from by rw [hcx2, h4]; push_cast; omega]
                exact hG3
            · go_wp2_with fail
              go_ret
              have hje : j = ks.length := by omega
              have ha := hall.out
              rw [hje, List.take_length] at ha hle hGr
              exact ⟨true, _, rfl, scan_yes (hz.out.2 ⟨H.out.1, H.out.2.1, H.out.2.2, ha⟩) hle, (fun _ => rfl), by omega, by omega, hGr, hgr⟩
        · have q0 : decide (400 < c0 + 1) = false := by simp; omega
          have q1 : decide (30 < deep) = false := by simp; omega
          have q3 : (decide (0 ≤ n) && decide (n ≤ mostN k)) = false := by
            rw [Bool.and_eq_false_iff, decide_eq_false_iff_not, decide_eq_false_iff_not]; omega
          have H := hide h3
          clear h2 h3
          go_enter Try.func77, Try.ntmps77
          go_wp2_with fail
          refine name_world ?_
          intro wx hwx
          have hg0 : w.grownBy wx (some g) := by rw [hwx]; exact only_alloc (only_setCell (World.grownBy.refl _ _) (.inl rfl) _) _
          have hB : Blk wx w.heap.size #[.int .i64 k, .int .i64 n, .slice A ks.length c] := by rw [hwx]; exact Blk.new_ _ _ _ (by simp)
          have hG : Blk wx g #[.int .i64 (c0 + 1)] := by rw [hwx]; exact (hcb.set_ 0 _).alloc _
          have hrx : RdP (· ≠ g) wx A 0 ks := hr.grown hg0 (fun b hb e => hb (by injection e))
          have hsx : w.heap.size < wx.heap.size := by rw [hwx]; simp
          have r0 := hB.rule (i := 0) rfl
          have r1 := hB.rule (i := 1) rfl
          have r2 := hB.rule (i := 2) rfl
          have r3 := hG.rule (i := 0) rfl
          clear hwx
          refine wp_region_class (fun w' => Below wx.heap.size wx w') (by kernel_rfl) (by kernel_rfl) (Below.refl _ _).drew ?_
          repeat (first | ((refine quiet_skip (a' := ?_) ?_ ?_ ?_); (rotate_left); (· (simp [Region.wanted, yielded]; done)); (· (simp only [Act.put, List.setIfInBounds_toArray, List.set_cons_zero, List.set_cons_succ]; exact rfl))) | ((refine quiet_one (v := ?_) (a' := ?_) ?_ ?_ ?_ ?_); (rotate_left 2); (· (simp [Region.wanted, yielded]; done)); (· (intro w' hS'; go_simp; try (with_reducible rfl))); (· (simp only [Act.put, List.setIfInBounds_toArray, List.set_cons_zero, List.set_cons_succ]; exact rfl))) | ((refine quiet_below (v := ?_) (a' := ?_) 120 ?_ ?_ ?_ ?_ ?_ ?_); (rotate_left 3); (· (simp [Region.wanted, yielded]; done)); (· (intro w' hS'; go_simp; try (with_reducible rfl))); (· (intro w' hS'; exact operands_any _ _)); (· (simp only [Act.put, List.setIfInBounds_toArray, List.set_cons_zero, List.set_cons_succ]; exact rfl))) | ((refine quiet_same (v := ?_) (a' := ?_) 121 ?_ ?_ ?_ ?_ ?_ ?_); (rotate_left 3); (· (simp [Region.wanted, yielded]; done)); (· (intro w' hS'; go_simp; try (with_reducible rfl))); (· (intro w' hS'; exact most_any _ _)); (· (simp only [Act.put, List.setIfInBounds_toArray, List.set_cons_zero, List.set_cons_succ]; exact rfl))) | ((refine quiet_same (v := ?_) (a' := ?_) 69 ?_ ?_ ?_ ?_ ?_ ?_); (rotate_left 3); (· (simp [Region.wanted, yielded]; done)); (· (intro w' hS'; go_simp; try (with_reducible rfl))); (· (intro w' hS'; exact within_any _ _ _ _)); (· (simp only [Act.put, List.setIfInBounds_toArray, List.set_cons_zero, List.set_cons_succ]; exact rfl))))
          refine quiet_nil ?_
          intro w2 hb2
          replace hB := hB.keep hb2
          replace hG := hG.keep hb2
          replace hrx := hrx.below hb2
          replace hg0 := only_below hg0 hb2
          clear r0 r1 r2 r3 hb2
          go_wp2_with fail
          go_ret
          exact ⟨_, c0 + 1, rfl, scan_no (by have := H.out; omega), (fun h => (by cases h)), by omega, by omega, hG, hg0⟩
      · have q0 : decide (400 < c0 + 1) = false := by simp; omega
        have q1 : decide (30 < deep) = false := by simp; omega
        have q2 : (arity k != (ks.length : Int)) = true := by simpa using h2
        have H := hide h2
        clear h2
        go_enter Try.func77, Try.ntmps77
        go_wp2_with fail
        refine name_world ?_
        intro wx hwx
        have hg0 : w.grownBy wx (some g) := by rw [hwx]; exact only_alloc (only_setCell (World.grownBy.refl _ _) (.inl rfl) _) _
        have hB : Blk wx w.heap.size #[.int .i64 k, .int .i64 n, .slice A ks.length c] := by rw [hwx]; exact Blk.new_ _ _ _ (by simp)
        have hG : Blk wx g #[.int .i64 (c0 + 1)] := by rw [hwx]; exact (hcb.set_ 0 _).alloc _
        have hrx : RdP (· ≠ g) wx A 0 ks := hr.grown hg0 (fun b hb e => hb (by injection e))
        have hsx : w.heap.size < wx.heap.size := by rw [hwx]; simp
        have r0 := hB.rule (i := 0) rfl
        have r1 := hB.rule (i := 1) rfl
        have r2 := hB.rule (i := 2) rfl
        have r3 := hG.rule (i := 0) rfl
        clear hwx
        refine wp_region_class (fun w' => Below wx.heap.size wx w') (by kernel_rfl) (by kernel_rfl) (Below.refl _ _).drew ?_
        repeat (first | ((refine quiet_skip (a' := ?_) ?_ ?_ ?_); (rotate_left); (· (simp [Region.wanted, yielded]; done)); (· (simp only [Act.put, List.setIfInBounds_toArray, List.set_cons_zero, List.set_cons_succ]; exact rfl))) | ((refine quiet_one (v := ?_) (a' := ?_) ?_ ?_ ?_ ?_); (rotate_left 2); (· (simp [Region.wanted, yielded]; done)); (· (intro w' hS'; go_simp; try (with_reducible rfl))); (· (simp only [Act.put, List.setIfInBounds_toArray, List.set_cons_zero, List.set_cons_succ]; exact rfl))) | ((refine quiet_below (v := ?_) (a' := ?_) 120 ?_ ?_ ?_ ?_ ?_ ?_); (rotate_left 3); (· (simp [Region.wanted, yielded]; done)); (· (intro w' hS'; go_simp; try (with_reducible rfl))); (· (intro w' hS'; exact operands_any _ _)); (· (simp only [Act.put, List.setIfInBounds_toArray, List.set_cons_zero, List.set_cons_succ]; exact rfl))) | ((refine quiet_same (v := ?_) (a' := ?_) 121 ?_ ?_ ?_ ?_ ?_ ?_); (rotate_left 3); (· (simp [Region.wanted, yielded]; done)); (· (intro w' hS'; go_simp; try (with_reducible rfl))); (· (intro w' hS'; exact most_any _ _)); (· (simp only [Act.put, List.setIfInBounds_toArray, List.set_cons_zero, List.set_cons_succ]; exact rfl))) | ((refine quiet_same (v := ?_) (a' := ?_) 69 ?_ ?_ ?_ ?_ ?_ ?_); (rotate_left 3); (· (simp [Region.wanted, yielded]; done)); (· (intro w' hS'; go_simp; try (with_reducible rfl))); (· (intro w' hS'; exact within_any _ _ _ _)); (· (simp only [Act.put, List.setIfInBounds_toArray, List.set_cons_zero, List.set_cons_succ]; exact rfl))))
        refine quiet_nil ?_
        intro w2 hb2
        replace hB := hB.keep hb2
        replace hG := hG.keep hb2
        replace hrx := hrx.below hb2
        replace hg0 := only_below hg0 hb2
        clear r0 r1 r2 r3 hb2
        go_wp2_with fail
        go_ret
        exact ⟨_, c0 + 1, rfl, scan_no (by have := H.out; omega), (fun h => (by cases h)), by omega, by omega, hG, hg0⟩
    · have q0 : decide (400 < c0 + 1) = false := by simp; omega
      have q1 : decide (30 < deep) = true := by simp; omega
      have H := hide h1
      go_enter Try.func77, Try.ntmps77
      go_wp2_with fail
      refine name_world ?_
      intro wx hwx
      have hg0 : w.grownBy wx (some g) := by rw [hwx]; exact only_alloc (only_setCell (World.grownBy.refl _ _) (.inl rfl) _) _
      have hB : Blk wx w.heap.size #[.int .i64 k, .int .i64 n, .slice A ks.length c] := by rw [hwx]; exact Blk.new_ _ _ _ (by simp)
      have hG : Blk wx g #[.int .i64 (c0 + 1)] := by rw [hwx]; exact (hcb.set_ 0 _).alloc _
      have hrx : RdP (· ≠ g) wx A 0 ks := hr.grown hg0 (fun b hb e => hb (by injection e))
      have hsx : w.heap.size < wx.heap.size := by rw [hwx]; simp
      have r0 := hB.rule (i := 0) rfl
      have r1 := hB.rule (i := 1) rfl
      have r2 := hB.rule (i := 2) rfl
      have r3 := hG.rule (i := 0) rfl
      clear hwx
      refine wp_region_class (fun w' => Below wx.heap.size wx w') (by kernel_rfl) (by kernel_rfl) (Below.refl _ _).drew ?_
      repeat (first | ((refine quiet_skip (a' := ?_) ?_ ?_ ?_); (rotate_left); (· (simp [Region.wanted, yielded]; done)); (· (simp only [Act.put, List.setIfInBounds_toArray, List.set_cons_zero, List.set_cons_succ]; exact rfl))) | ((refine quiet_one (v := ?_) (a' := ?_) ?_ ?_ ?_ ?_); (rotate_left 2); (· (simp [Region.wanted, yielded]; done)); (· (intro w' hS'; go_simp; try (with_reducible rfl))); (· (simp only [Act.put, List.setIfInBounds_toArray, List.set_cons_zero, List.set_cons_succ]; exact rfl))) | ((refine quiet_below (v := ?_) (a' := ?_) 120 ?_ ?_ ?_ ?_ ?_ ?_); (rotate_left 3); (· (simp [Region.wanted, yielded]; done)); (· (intro w' hS'; go_simp; try (with_reducible rfl))); (· (intro w' hS'; exact operands_any _ _)); (· (simp only [Act.put, List.setIfInBounds_toArray, List.set_cons_zero, List.set_cons_succ]; exact rfl))) | ((refine quiet_same (v := ?_) (a' := ?_) 121 ?_ ?_ ?_ ?_ ?_ ?_); (rotate_left 3); (· (simp [Region.wanted, yielded]; done)); (· (intro w' hS'; go_simp; try (with_reducible rfl))); (· (intro w' hS'; exact most_any _ _)); (· (simp only [Act.put, List.setIfInBounds_toArray, List.set_cons_zero, List.set_cons_succ]; exact rfl))) | ((refine quiet_same (v := ?_) (a' := ?_) 69 ?_ ?_ ?_ ?_ ?_ ?_); (rotate_left 3); (· (simp [Region.wanted, yielded]; done)); (· (intro w' hS'; go_simp; try (with_reducible rfl))); (· (intro w' hS'; exact within_any _ _ _ _)); (· (simp only [Act.put, List.setIfInBounds_toArray, List.set_cons_zero, List.set_cons_succ]; exact rfl))))
      refine quiet_nil ?_
      intro w2 hb2
      replace hB := hB.keep hb2
      replace hG := hG.keep hb2
      replace hrx := hrx.below hb2
      replace hg0 := only_below hg0 hb2
      clear r0 r1 r2 r3 hb2
      go_wp2_with fail
      go_ret
      exact ⟨_, c0 + 1, rfl, scan_no (by have := H.out; omega), (fun h => (by cases h)), by omega, by omega, hG, hg0⟩
  · have q0 : decide (400 < c0 + 1) = true := by simp; omega
    have H := hide h0
    go_enter Try.func77, Try.ntmps77
    go_wp2_with fail
    refine name_world ?_
    intro wx hwx
    have hg0 : w.grownBy wx (some g) := by rw [hwx]; exact only_alloc (only_setCell (World.grownBy.refl _ _) (.inl rfl) _) _
    have hB : Blk wx w.heap.size #[.int .i64 k, .int .i64 n, .slice A ks.length c] := by rw [hwx]; exact Blk.new_ _ _ _ (by simp)
    have hG : Blk wx g #[.int .i64 (c0 + 1)] := by rw [hwx]; exact (hcb.set_ 0 _).alloc _
    have hrx : RdP (· ≠ g) wx A 0 ks := hr.grown hg0 (fun b hb e => hb (by injection e))
    have hsx : w.heap.size < wx.heap.size := by rw [hwx]; simp
    have r0 := hB.rule (i := 0) rfl
    have r1 := hB.rule (i := 1) rfl
    have r2 := hB.rule (i := 2) rfl
    have r3 := hG.rule (i := 0) rfl
    clear hwx
    refine wp_region_class (fun w' => Below wx.heap.size wx w') (by kernel_rfl) (by kernel_rfl) (Below.refl _ _).drew ?_
    repeat (first | ((refine quiet_skip (a' := ?_) ?_ ?_ ?_); (rotate_left); (· (simp [Region.wanted, yielded]; done)); (· (simp only [Act.put, List.setIfInBounds_toArray, List.set_cons_zero, List.set_cons_succ]; exact rfl))) | ((refine quiet_one (v := ?_) (a' := ?_) ?_ ?_ ?_ ?_); (rotate_left 2); (· (simp [Region.wanted, yielded]; done)); (· (intro w' hS'; go_simp; try (with_reducible rfl))); (· (simp only [Act.put, List.setIfInBounds_toArray, List.set_cons_zero, List.set_cons_succ]; exact rfl))) | ((refine quiet_below (v := ?_) (a' := ?_) 120 ?_ ?_ ?_ ?_ ?_ ?_); (rotate_left 3); (· (simp [Region.wanted, yielded]; done)); (· (intro w' hS'; go_simp; try (with_reducible rfl))); (· (intro w' hS'; exact operands_any _ _)); (· (simp only [Act.put, List.setIfInBounds_toArray, List.set_cons_zero, List.set_cons_succ]; exact rfl))) | ((refine quiet_same (v := ?_) (a' := ?_) 121 ?_ ?_ ?_ ?_ ?_ ?_); (rotate_left 3); (· (simp [Region.wanted, yielded]; done)); (· (intro w' hS'; go_simp; try (with_reducible rfl))); (· (intro w' hS'; exact most_any _ _)); (· (simp only [Act.put, List.setIfInBounds_toArray, List.set_cons_zero, List.set_cons_succ]; exact rfl))) | ((refine quiet_same (v := ?_) (a' := ?_) 69 ?_ ?_ ?_ ?_ ?_ ?_); (rotate_left 3); (· (simp [Region.wanted, yielded]; done)); (· (intro w' hS'; go_simp; try (with_reducible rfl))); (· (intro w' hS'; exact within_any _ _ _ _)); (· (simp only [Act.put, List.setIfInBounds_toArray, List.set_cons_zero, List.set_cons_succ]; exact rfl))))
    refine quiet_nil ?_
    intro w2 hb2
    replace hB := hB.keep hb2
    replace hG := hG.keep hb2
    replace hrx := hrx.below hb2
    replace hg0 := only_below hg0 hb2
    clear r0 r1 r2 r3 hb2
    go_wp2_with fail
    go_ret
    exact ⟨_, c0 + 1, rfl, scan_no (by have := H.out; omega), (fun h => (by cases h)), by omega, by omega, hG, hg0⟩
open Go.RowKit
set_option maxRecDepth 100000 in
set_option maxHeartbeats 1000000 in
theorem iTermValid_any (k n : Int) (ks : List Tm) (A : Option Addr) (c : Nat) (w : World) (hM : sizes ks ≤ 1099511627775) (hr : Rd w A 0 ks) :
    Calls Try.prog 34 #[.agg #[.int .i64 k, .int .i64 n, .slice A ks.length c]] w fun e w' => e = .returned (.bool (validT (.mk k n ks))) ∧ Below w.heap.size w w' := by
  have hlen := length_le_sizes ks
  have hrp : RdP (· ≠ w.heap.size + 1) w A 0 ks := hr.rdp.mono (fun b hb => by have hb : b < w.heap.size := hb; show b ≠ _; omega)
  go_enter Try.func34, Try.ntmps34
  go_wp2_with (go_at_call 77; refine (scan_any (sizes ks + 1) k n ks A c 1 30 0 (w.heap.size + 1) _ (by omega) (by omega) (by omega) (by omega) (by omega) (by omega) (by omega) (Blk.new_ _ _ _ (by simp)) ((hrp.alloc _).alloc _)).mono ?_; rintro e w3 ⟨b, cx, rfl, hbe, hcx, hx0, hx1, hG3, hg3⟩; clear hcx hG3)
  go_ret
  refine ⟨ret_bool ?_, (((Below.refl _ _).alloc (Nat.le_refl _) _).alloc (by simp) _).grown hg3 (by simp; omega) (fun k e => by cases e; omega)⟩
  show scanB 30 0 k n ks = _
  unfold scanB validT
  rw [Tm.size]
  by_cases h : sizes ks + 1 ≤ 400
  · rw [decide_eq_true h, decide_eq_true (by omega)]
  · rw [decide_eq_false h, decide_eq_false (by omega)]
open Go.RowKit
open Go.RowKit
open Go.RowKit
theorem Blk.three {w : World} {g : Nat} {x y z : Value} (h : Blk w g #[x, y, z]) : w.cell? ⟨g, 0, none⟩ = some x ∧ w.cell? ⟨g, 1, none⟩ = some y ∧ w.cell? ⟨g, 2, none⟩ = some z :=
  ⟨h.at_ (i := 0) rfl, h.at_ (i := 1) rfl, h.at_ (i := 2) rfl⟩
open Go.RowKit
/-- a path of numbers that memory holds -/
def Path (w : World) (A : Option Addr) (m : Nat) : Prop :=
  ∃ xs : List Int, xs.length = m ∧ (0 < m → ∃ b off, A = some ⟨b, off, none⟩ ∧ ∀ (i : Nat) (u : Value), (xs.map (Value.int .i64))[i]? = some u → w.cell? ⟨b, off + i, none⟩ = some u)
theorem Path.nil {w : World} {A : Option Addr} : Path w A 0 := ⟨[], rfl, fun h => absurd h (Nat.lt_irrefl _)⟩
theorem Path.alloc {w : World} {A : Option Addr} {m : Nat} (h : Path w A m) (o : Obj) : Path (w.alloc o) A m := by
  obtain ⟨xs, h1, h2⟩ := h
  refine ⟨xs, h1, fun hm => ?_⟩
  obtain ⟨b, off, h3, h4⟩ := h2 hm
  exact ⟨b, off, h3, fun i u hu => Keeps.alloc w o _ _ (h4 i u hu)⟩
open Go.RowKit
set_option maxHeartbeats 2000000 in
set_option maxRecDepth 100000 in
theorem variable_any (n : Int) (w : World) : Calls Try.prog 104 #[.int .i64 n] w fun e w' => e = .returned (.agg #[.int .i64 1, .int .i64 n, .slice none 0 0]) ∧ Below w.heap.size w w' := by
  go_enter Try.func104, Try.ntmps104
  go_wp2_with fail
  exact bodyPost_ret (v := .agg #[.int .i64 1, .int .i64 n, .slice none 0 0]) (by simp [results, Try.results104, go_sem]) rfl ⟨rfl, (Below.refl _ _).alloc (Nat.le_refl _) _⟩
/-- the empty term that stands for a failure -/
def zeroV : Value := .agg #[.int .i64 0, .int .i64 0, .slice none 0 0]
set_option maxHeartbeats 2000000 in
set_option maxRecDepth 100000 in
theorem valid_yes (k n : Int) (ks : List Tm) (A : Option Addr) (c : Nat) (w : World) (hM : sizes ks ≤ 1099511627775) (hr : Rd w A 0 ks) (hv : validT (.mk k n ks) = true) :
    Calls Try.prog 82 #[(.agg #[.int .i64 k, .int .i64 n, .slice A ks.length c])] w fun e w' => e = .returned (.tuple #[(.agg #[.int .i64 k, .int .i64 n, .slice A ks.length c]), .bool true]) ∧ Below w.heap.size w w' := by
  go_enter Try.func82, Try.ntmps82
  go_wp2_with (go_at_call 34; refine (iTermValid_any k n ks A c _ hM ((hr.alloc _).alloc _)).mono ?_; rw [hv]; rintro e w1 ⟨rfl, hb1⟩; have hB : Blk w1 w.heap.size #[.int .i64 k, .int .i64 n, .slice A ks.length c] := ((Blk.new_ w 25 #[.int .i64 k, .int .i64 n, .slice A ks.length c] rfl).alloc _).keep hb1; have hT : Blk w1 (w.heap.size + 1) #[.int .i64 0, .int .i64 0, .slice none 0 0] := (Blk.new_ _ 25 _ (by simp)).keep hb1; obtain ⟨p0, p1, p2⟩ := hB.three; obtain ⟨d0, d1, d2⟩ := hT.three; have e0 := hT.frozen 0; have e1 := hT.frozen 1; have e2 := hT.frozen 2; replace hb1 : Below w.heap.size w w1 := (((Below.refl _ _).alloc (Nat.le_refl _) _).alloc (by simp) _).trans (hb1.mono (by simp; omega)))
  refine bodyPost_ret (v := .tuple #[(.agg #[.int .i64 k, .int .i64 n, .slice A ks.length c]), .bool true]) (by simp [results, Try.results82, go_sem, d0, d1, d2]) rfl ⟨rfl, ?_⟩
  exact ((hb1.setCell (by simp) _).setCell (by simp) _).setCell (by simp) _
set_option maxHeartbeats 2000000 in
set_option maxRecDepth 100000 in
theorem valid_no (k n : Int) (ks : List Tm) (A : Option Addr) (c : Nat) (w : World) (hM : sizes ks ≤ 1099511627775) (hr : Rd w A 0 ks) (hv : validT (.mk k n ks) = false) :
    Calls Try.prog 82 #[(.agg #[.int .i64 k, .int .i64 n, .slice A ks.length c])] w fun e w' => e = .returned (.tuple #[zeroV, .bool false]) ∧ Below w.heap.size w w' := by
  go_enter Try.func82, Try.ntmps82
  go_wp2_with (go_at_call 34; refine (iTermValid_any k n ks A c _ hM ((hr.alloc _).alloc _)).mono ?_; rw [hv]; rintro e w1 ⟨rfl, hb1⟩; have hT : Blk w1 (w.heap.size + 1) #[.int .i64 0, .int .i64 0, .slice none 0 0] := (Blk.new_ _ 25 _ (by simp)).keep hb1; obtain ⟨d0, d1, d2⟩ := hT.three; have e0 := hT.frozen 0; have e1 := hT.frozen 1; have e2 := hT.frozen 2; replace hb1 : Below w.heap.size w w1 := (((Below.refl _ _).alloc (Nat.le_refl _) _).alloc (by simp) _).trans (hb1.mono (by simp; omega)))
  refine bodyPost_ret (v := .tuple #[zeroV, .bool false]) (by simp [results, Try.results82, go_sem, d0, d1, d2, zeroV]) rfl ⟨rfl, ?_⟩
  exact ((hb1.setCell (by simp) _).setCell (by simp) _).setCell (by simp) _
/-- a variable shifted -/
def shF (by_ cut : Int) (n d : Int) : Tm := .mk 1 (if cut ≤ n - d then n + by_ else n) []
def shOk (by_ cut : Int) (n d : Int) : Bool := if cut ≤ n - d then decide (cut ≤ n + by_ - d) && decide (n + by_ ≤ 20) else true
set_option maxHeartbeats 2000000 in
set_option maxRecDepth 100000 in
theorem shift1_ok {by_ cut : Int} {bc bb g : Nat} {W0 : World} (hb1 : -1000 ≤ by_ ∧ by_ ≤ 1000) (hc : -1000 ≤ cut ∧ cut ≤ 1000) (hC : Blk W0 bc #[.int .i64 cut]) (hB : Blk W0 bb #[.int .i64 by_]) (hcg : bc ≠ g) (hbg : bb ≠ g) :
    FunOk 137 [.pointer (some ⟨bc, 0, none⟩), .pointer (some ⟨bb, 0, none⟩), .pointer (some ⟨g, 0, none⟩)] W0 g (shF by_ cut) (shOk by_ cut) := by
  intro n d w b hn0 hn1 hd0 hd1 hW hg
  have hCw := hC.grown hW (by simpa using hcg)
  have hBw := hB.grown hW (by simpa using hbg)
  have x0 := hCw.at_ (i := 0) rfl
  have x1 := hBw.at_ (i := 0) rfl
  have x2 := hg.at_ (i := 0) rfl
  have z2 := hg.frozen 0
  have l0 := hCw.lt
  have l1 := hBw.lt
  have l2 := hg.lt
  by_cases h1 : cut ≤ n - d
  · have hz : shF by_ cut n d = .mk 1 (n + by_) [] := by rw [shF, if_pos h1]
    have hzo : shOk by_ cut n d = (decide (cut ≤ n + by_ - d) && decide (n + by_ ≤ 20)) := by rw [shOk, if_pos h1]
    rw [hz, hzo]
    have q1 : decide (cut ≤ n - d) = true := decide_eq_true h1
    have H := hide h1
    clear h1 hz hzo
    cases b with
    | false =>
      rw [Bool.false_and]
      go_enter Try.func137, Try.ntmps137
      go_wp2_with (go_at_call 104; refine (variable_any _ _).mono ?_; rintro e w1 ⟨rfl, hv1⟩; have hT : Blk w1 w.heap.size #[.int .i64 0, .int .i64 0, .slice none 0 0] := (Blk.new_ _ 25 _ (by simp)).keep hv1; obtain ⟨d0, d1, d2⟩ := hT.three; have e0 := hT.frozen 0; have e1 := hT.frozen 1; have e2 := hT.frozen 2; have hG1 : Blk w1 g #[.bool (false)] := ((hg.set_ 0 (.bool (false))).alloc (.cells #[.int .i64 0, .int .i64 0, .slice none 0 0] 25)).keep hv1; replace hv1 : w.grownBy w1 (some g) := only_below (only_alloc (only_setCell (World.grownBy.refl _ _) (.inl rfl) _) _) hv1)
      refine bodyPost_ret (v := .agg #[.int .i64 1, .int .i64 (n + by_), .slice none 0 0]) (by simp [results, Try.results137, go_sem, d0, d1, d2]) rfl ⟨none, 0, rfl, by simp [Tm.ks], Fresh.nil, ?_, ?_⟩
      · exact ((hG1.far (by simp; omega) _).far (by simp; omega) _).far (by simp; omega) _
      · exact only_setCell (only_setCell (only_setCell hv1 (.inr (by simp)) _) (.inr (by simp)) _) (.inr (by simp)) _
    | true =>
      by_cases h2 : cut ≤ n + by_ - d
      · have q2 : decide (cut ≤ n + by_ - d) = true := decide_eq_true h2
        rw [q2, Bool.true_and, Bool.true_and]
        have H2 := hide h2
        clear h2
        cases q3 : decide (n + by_ ≤ 20) with
        | false =>
          go_enter Try.func137, Try.ntmps137
          go_wp2_with (go_at_call 104; refine (variable_any _ _).mono ?_; rintro e w1 ⟨rfl, hv1⟩; have hT : Blk w1 w.heap.size #[.int .i64 0, .int .i64 0, .slice none 0 0] := (Blk.new_ _ 25 _ (by simp)).keep hv1; obtain ⟨d0, d1, d2⟩ := hT.three; have e0 := hT.frozen 0; have e1 := hT.frozen 1; have e2 := hT.frozen 2; have hG1 : Blk w1 g #[.bool (false)] := ((hg.set_ 0 (.bool (false))).alloc (.cells #[.int .i64 0, .int .i64 0, .slice none 0 0] 25)).keep hv1; replace hv1 : w.grownBy w1 (some g) := only_below (only_alloc (only_setCell (World.grownBy.refl _ _) (.inl rfl) _) _) hv1)
          refine bodyPost_ret (v := .agg #[.int .i64 1, .int .i64 (n + by_), .slice none 0 0]) (by simp [results, Try.results137, go_sem, d0, d1, d2]) rfl ⟨none, 0, rfl, by simp [Tm.ks], Fresh.nil, ?_, ?_⟩
          · exact ((hG1.far (by simp; omega) _).far (by simp; omega) _).far (by simp; omega) _
          · exact only_setCell (only_setCell (only_setCell hv1 (.inr (by simp)) _) (.inr (by simp)) _) (.inr (by simp)) _
        | true =>
          go_enter Try.func137, Try.ntmps137
          go_wp2_with (go_at_call 104; refine (variable_any _ _).mono ?_; rintro e w1 ⟨rfl, hv1⟩; have hT : Blk w1 w.heap.size #[.int .i64 0, .int .i64 0, .slice none 0 0] := (Blk.new_ _ 25 _ (by simp)).keep hv1; obtain ⟨d0, d1, d2⟩ := hT.three; have e0 := hT.frozen 0; have e1 := hT.frozen 1; have e2 := hT.frozen 2; have hG1 : Blk w1 g #[.bool (true)] := ((hg.set_ 0 (.bool (true))).alloc (.cells #[.int .i64 0, .int .i64 0, .slice none 0 0] 25)).keep hv1; replace hv1 : w.grownBy w1 (some g) := only_below (only_alloc (only_setCell (World.grownBy.refl _ _) (.inl rfl) _) _) hv1)
          refine bodyPost_ret (v := .agg #[.int .i64 1, .int .i64 (n + by_), .slice none 0 0]) (by simp [results, Try.results137, go_sem, d0, d1, d2]) rfl ⟨none, 0, rfl, by simp [Tm.ks], Fresh.nil, ?_, ?_⟩
          · exact ((hG1.far (by simp; omega) _).far (by simp; omega) _).far (by simp; omega) _
          · exact only_setCell (only_setCell (only_setCell hv1 (.inr (by simp)) _) (.inr (by simp)) _) (.inr (by simp)) _
      · have q2 : decide (cut ≤ n + by_ - d) = false := decide_eq_false h2
        rw [q2, Bool.false_and, Bool.true_and]
        have H2 := hide h2
        clear h2
        go_enter Try.func137, Try.ntmps137
        go_wp2_with (go_at_call 104; refine (variable_any _ _).mono ?_; rintro e w1 ⟨rfl, hv1⟩; have hT : Blk w1 w.heap.size #[.int .i64 0, .int .i64 0, .slice none 0 0] := (Blk.new_ _ 25 _ (by simp)).keep hv1; obtain ⟨d0, d1, d2⟩ := hT.three; have e0 := hT.frozen 0; have e1 := hT.frozen 1; have e2 := hT.frozen 2; have hG1 : Blk w1 g #[.bool (false)] := ((hg.set_ 0 (.bool (false))).alloc (.cells #[.int .i64 0, .int .i64 0, .slice none 0 0] 25)).keep hv1; replace hv1 : w.grownBy w1 (some g) := only_below (only_alloc (only_setCell (World.grownBy.refl _ _) (.inl rfl) _) _) hv1)
        refine bodyPost_ret (v := .agg #[.int .i64 1, .int .i64 (n + by_), .slice none 0 0]) (by simp [results, Try.results137, go_sem, d0, d1, d2]) rfl ⟨none, 0, rfl, by simp [Tm.ks], Fresh.nil, ?_, ?_⟩
        · exact ((hG1.far (by simp; omega) _).far (by simp; omega) _).far (by simp; omega) _
        · exact only_setCell (only_setCell (only_setCell hv1 (.inr (by simp)) _) (.inr (by simp)) _) (.inr (by simp)) _
  · have hz : shF by_ cut n d = .mk 1 n [] := by rw [shF, if_neg h1]
    have hzo : shOk by_ cut n d = true := by rw [shOk, if_neg h1]
    rw [hz, hzo, Bool.and_true]
    have q1 : decide (cut ≤ n - d) = false := decide_eq_false h1
    have H := hide h1
    clear h1 hz hzo
    go_enter Try.func137, Try.ntmps137
    go_wp2_with (go_at_call 104; refine (variable_any _ _).mono ?_; rintro e w1 ⟨rfl, hv1⟩; have hT : Blk w1 w.heap.size #[.int .i64 0, .int .i64 0, .slice none 0 0] := (Blk.new_ _ 25 _ rfl).keep hv1; obtain ⟨d0, d1, d2⟩ := hT.three; have e0 := hT.frozen 0; have e1 := hT.frozen 1; have e2 := hT.frozen 2; have hG1 := (hg.alloc (.cells #[.int .i64 0, .int .i64 0, .slice none 0 0] 25)).keep hv1; replace hv1 : w.grownBy w1 (some g) := only_below (only_alloc (World.grownBy.refl _ _) _) hv1)
    refine bodyPost_ret (v := .agg #[.int .i64 1, .int .i64 n, .slice none 0 0]) (by simp [results, Try.results137, go_sem, d0, d1, d2]) rfl ⟨none, 0, rfl, by simp [Tm.ks], Fresh.nil, ?_, ?_⟩
    · exact ((hG1.far (by simp; omega) _).far (by simp; omega) _).far (by simp; omega) _
    · exact only_setCell (only_setCell (only_setCell hv1 (.inr (by simp)) _) (.inr (by simp)) _) (.inr (by simp)) _
end Go.Proofs.Ytodkenpmhhbppaa
