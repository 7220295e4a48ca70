/-
 Contracts of the functions that the law reaches, and plain lemmas. No condition.
-/
import Derived.Test.YtddkehjdjfmhmaaK1
import Derived.Test.YtddkehjdjfmhmaaK2
import Derived.Test.YtddkehjdjfmhmaaK3
import Derived.Maps.AppendAt
import Derived.OwnWalk
namespace Go.Proofs.Ytddkehjdjfmhmaa
set_option linter.unusedSimpArgs false
set_option linter.unusedVariables false
open Go.RowKit
def scanB (d : Nat) (c0 : Int) (k n : Int) (ks : List Tm) : Bool := shape d (.mk k n ks) && decide (c0 + 1 + sizes ks ≤ 400)
theorem scan_no {d : Nat} {c0 k n : Int} {ks : List Tm} (h : ¬ (0 < d ∧ arity k = (ks.length : Int) ∧ 0 ≤ n ∧ n ≤ mostN k ∧ c0 + 1 ≤ 400)) : false = scanB d c0 k n ks := by
 cases e : scanB d c0 k n ks with
 | false => rfl
 | true =>
  simp only [scanB, Bool.and_eq_true, decide_eq_true_eq] at e
  cases d with
  | zero => simp [shape] at e
  | succ d =>
   have := (shape_split d k n ks).1 e.1
   exact absurd ⟨by omega, this.1, this.2.1, this.2.2.1, by omega⟩ h
theorem scan_yes {d : Nat} {c0 k n : Int} {ks : List Tm} (h : shape d (.mk k n ks) = true) (h2 : c0 + 1 + (sizes ks : Int) ≤ 400) : true = scanB d c0 k n ks := by
 simp only [scanB, h, decide_eq_true h2, Bool.and_self]
theorem scan_child_yes {d : Nat} {c0 k1 n1 : Int} {ks ks1 : List Tm} {j : Nat} (hj : j < ks.length) (hk : ks[j] = .mk k1 n1 ks1) (hst : sizes (ks.take (j + 1)) = sizes (ks.take j) + (sizes ks1 + 1))
  (hb : true = scanB d (c0 + 1 + (sizes (ks.take j) : Int)) k1 n1 ks1) : shape d ks[j] = true ∧ c0 + 1 + (sizes (ks.take (j + 1)) : Int) ≤ 400 := by
 simp only [scanB] at hb
 have hb := hb.symm
 rw [Bool.and_eq_true, decide_eq_true_eq] at hb
 rw [hk]
 refine ⟨hb.1, ?_⟩
 have := hb.2
 rw [hst]
 push_cast
 omega
theorem scan_child_no {d : Nat} {c0 k n k1 n1 : Int} {ks ks1 : List Tm} {j : Nat} (hj : j < ks.length) (hk : ks[j] = .mk k1 n1 ks1) (hst : sizes (ks.take (j + 1)) = sizes (ks.take j) + (sizes ks1 + 1))
  (hb : false = scanB d (c0 + 1 + (sizes (ks.take j) : Int)) k1 n1 ks1) : false = scanB (d + 1) c0 k n ks := by
 cases e : scanB (d + 1) c0 k n ks with
 | false => rfl
 | true =>
  simp only [scanB, Bool.and_eq_true, decide_eq_true_eq] at e
  have h1 := (shape_split d k n ks).1 e.1
  have h2 := h1.2.2.2 _ (List.getElem_mem hj)
  have h3 := sizes_take_le ks (j + 1)
  rw [hk] at h2
  simp only [scanB, h2, Bool.true_and] at hb
  have := of_decide_eq_false hb.symm
  omega
theorem all_take {ks : List Tm} {j : Nat} {p : Tm → Prop} (hj : j < ks.length) (h : ∀ t, t ∈ ks.take j → p t) (h1 : p ks[j]) : ∀ t, t ∈ ks.take (j + 1) → p t := by
 intro t ht
 rw [List.take_succ_eq_append_getElem hj, List.mem_append] at ht
 rcases ht with ht | ht
 ·exact h t ht
 ·simp at ht; rw [ht]; exact h1
theorem only_alloc_drop {w w' : World} {o : Obj} {m : Option Nat} (h : (w.alloc o).grownBy w' m) : w.grownBy w' m := only_trans (only_alloc (World.grownBy.refl _ _) o) h
def ScanPost (d : Nat) (c0 : Int) (k n : Int) (ks : List Tm) (g : Nat) (w : World) (e : Ending) (w' : World) : Prop :=
 ∃ (b : Bool) (c1 : Int), e = .returned (.bool b) ∧ b = scanB d c0 k n ks ∧ (b = true → c1 = c0 + 1 + sizes ks) ∧ 0 ≤ c1 ∧ c1 ≤ 1000 ∧ Blk w' g #[.int .i64 c1] ∧ w.grownBy w' (some g)
set_option maxRecDepth 100000 in
set_option maxHeartbeats 2000000 in
theorem scan_any (N : Nat) : ∀ (k n : Int) (ks : List Tm) (A : Option Addr) (c : Nat) (deep : Int) (d : Nat) (c0 : Int) (g : Nat) (w : World), sizes ks < N → ks.length ≤ 9223372036854775807 → 1 ≤ deep → deep + d ≤ 31 → 31 ≤ deep + d → 0 ≤ c0 → c0 ≤ 900 →
  Blk w g #[.int .i64 c0] → RdP (· ≠ g) w A 0 ks →
  Calls Try.prog 26 #[.agg #[.int .i64 k, .int .i64 n, .slice A ks.length c], .int .i64 deep, .pointer (some ⟨g, 0, none⟩)] w (ScanPost d c0 k n ks g w) := by
 induction N with
 | zero => intro k n ks A c deep d c0 g w hN; exact absurd hN (Nat.not_lt_zero _)
 | succ N ih =>
 intro k n ks A c deep d c0 g w hN hl hd1 hd2 hd3 hc1 hc2 hcb hr
 have hgl := hcb.lt
 have hgc := hcb.at_ (i := 0) rfl
 have hgf := hcb.frozen 0
 by_cases h0 : c0 + 1 ≤ 400
 ·by_cases h1 : deep ≤ 30
  ·by_cases h2 : arity k = (ks.length : Int)
   ·have q2 : (arity k != (ks.length : Int)) = false := by simpa using h2
    by_cases h3 : 0 ≤ n ∧ n ≤ mostN k
    ·have q0 : decide (400 < c0 + 1) = false := by simp; omega
     have q1 : decide (30 < deep) = false := by simp; omega
     have q3 : (decide (0 ≤ n) && decide (n ≤ mostN k)) = true := by simp [h3.1, h3.2]
     have H := hide (And.intro h2 h3)
     clear h2 h3
     go_enter Try.func26, Try.ntmps26
     go_wp2_with fail
     refine name_world ?_
     intro wx hwx
     have hg0 : w.grownBy wx (some g) := by rw [hwx]; exact only_alloc (only_setCell (World.grownBy.refl _ _) (.inl rfl) _) _
     have hB : Blk wx w.heap.size #[.int .i64 k, .int .i64 n, .slice A ks.length c] := by rw [hwx]; exact Blk.new_ _ _ _ (by simp)
     have hG : Blk wx g #[.int .i64 (c0 + 1)] := by rw [hwx]; exact (hcb.set_ 0 _).alloc _
     have hrx : RdP (· ≠ g) wx A 0 ks := hr.grown hg0 (fun b hb e => hb (by injection e))
     have hsx : w.heap.size < wx.heap.size := by rw [hwx]; simp
     have r0 := hB.rule (i := 0) rfl
     have r1 := hB.rule (i := 1) rfl
     have r2 := hB.rule (i := 2) rfl
     have r3 := hG.rule (i := 0) rfl
     clear hwx
     refine wp_region_class (fun w' => Below wx.heap.size wx w') (by kernel_rfl) (by kernel_rfl) (Below.refl _ _).drew ?_
     repeat (first | ((refine quiet_skip (a' := ?_) ?_ ?_ ?_); (rotate_left); (· (simp [Region.wanted, yielded]; done)); (· (simp only [Act.put, List.setIfInBounds_toArray, List.set_cons_zero, List.set_cons_succ]; exact rfl))) | ((refine quiet_one (v := ?_) (a' := ?_) ?_ ?_ ?_ ?_); (rotate_left 2); (· (simp [Region.wanted, yielded]; done)); (· (intro w' hS'; go_simp; try (with_reducible rfl))); (· (simp only [Act.put, List.setIfInBounds_toArray, List.set_cons_zero, List.set_cons_succ]; exact rfl))) | ((refine quiet_below (v := ?_) (a' := ?_) 44 ?_ ?_ ?_ ?_ ?_ ?_); (rotate_left 3); (· (simp [Region.wanted, yielded]; done)); (· (intro w' hS'; go_simp; try (with_reducible rfl))); (· (intro w' hS'; exact operands_any _ _)); (· (simp only [Act.put, List.setIfInBounds_toArray, List.set_cons_zero, List.set_cons_succ]; exact rfl))) | ((refine quiet_same (v := ?_) (a' := ?_) 45 ?_ ?_ ?_ ?_ ?_ ?_); (rotate_left 3); (· (simp [Region.wanted, yielded]; done)); (· (intro w' hS'; go_simp; try (with_reducible rfl))); (· (intro w' hS'; exact most_any _ _)); (· (simp only [Act.put, List.setIfInBounds_toArray, List.set_cons_zero, List.set_cons_succ]; exact rfl))) | ((refine quiet_same (v := ?_) (a' := ?_) 37 ?_ ?_ ?_ ?_ ?_ ?_); (rotate_left 3); (· (simp [Region.wanted, yielded]; done)); (· (intro w' hS'; go_simp; try (with_reducible rfl))); (· (intro w' hS'; exact within_any _ _ _ _)); (· (simp only [Act.put, List.setIfInBounds_toArray, List.set_cons_zero, List.set_cons_succ]; exact rfl))))
     refine quiet_nil ?_
     intro w2 hb2
     replace hB := hB.keep hb2
     replace hG := hG.keep hb2
     replace hrx := hrx.below hb2
     replace hg0 := only_below hg0 hb2
     clear r0 r1 r2 r3 hb2
     obtain ⟨d, rfl⟩ : ∃ d', d = d' + 1 := ⟨d - 1, by omega⟩
     have hz := hide (shape_split d k n ks)
     have c2 := hB.at_ (i := 2) rfl
     go_wp2_with fail
     go_loopw [43] (fun i wr => ∃ j : Nat, j ≤ ks.length ∧ i = .int .i64 j ∧ Hid (∀ t, t ∈ ks.take j → shape d t = true) ∧ c0 + 1 + sizes (ks.take j) ≤ 400 ∧ Blk wr g #[.int .i64 (c0 + 1 + sizes (ks.take j))] ∧ w.grownBy wr (some g)) (fun i _ => ks.length - (intOf i).toNat)
     case atStart => exact ⟨0, Nat.zero_le _, rfl, hide (by simp), by simp [sizes]; omega, by simpa [sizes] using hG, hg0⟩
     case round =>
      obtain ⟨j, hj, rfl, hall, hle, hGr, hgr⟩ := hrel
      by_cases hlt : j < ks.length
      ·obtain ⟨b, off, k1, n1, ks1, A1, c1, rfl, hkj, hc1, hc2, hc3, hl1, hr1⟩ := (hr.grown hgr (fun b hb e => hb (by injection e))).at_ hlt
       have hst := sizes_take ks j hlt
       have hsz := sizes_le (List.getElem_mem hlt)
       rw [hkj] at hsz hst
       simp only [Tm.size] at hsz hst
       have H3 := hide hkj
       have H4 := hide hst
       clear hkj hst
       go_wp2_with (go_at_call 26; refine (ih k1 n1 ks1 A1 c1 (deep + 1) d (c0 + 1 + sizes (ks.take j)) g _ (by omega) hl1 (by omega) (by omega) (by omega) (by omega) (by omega) (hGr.alloc _) (hr1.alloc _)).mono ?_; rintro e w3 ⟨b, cx, rfl, hbe, hcx, hx0, hx1, hG3, hg3⟩; have hbe' := hide hbe; have hcx' := hide hcx; clear hbe hcx)
       ·rename_i hbx
        cases b with
        | true => simp at hbx
        | false =>
        go_ret
        exact ⟨false, cx, rfl, scan_child_no hlt H3.out H4.out hbe'.out, (fun h => (by cases h)), hx0, hx1, hG3, only_trans hgr (only_alloc_drop hg3)⟩
       ·rename_i hbx
        cases b with
        | false => simp at hbx
        | true =>
        have hcx2 := hcx'.out rfl
        obtain ⟨hs1, hs2⟩ := scan_child_yes hlt H3.out H4.out hbe'.out
        have h4 := H4.out
        refine ⟨?_, by simp [intOf]; omega⟩
        repeat apply Exists.intro
        refine ⟨⟨j + 1, hlt, by rfl, hide (all_take hlt hall.out hs1), hs2, ?_, only_trans hgr (only_alloc_drop hg3)⟩, by rw [q3]; rfl⟩
        rw [show c0 + 1 + (sizes (ks.take (j+1)) : Int) = cx from by rw [hcx2, h4]; push_cast; omega]
        exact hG3
      ·go_wp2_with fail
       go_ret
       have hje : j = ks.length := by omega
       have ha := hall.out
       rw [hje, List.take_length] at ha hle hGr
       exact ⟨true, _, rfl, scan_yes (hz.out.2 ⟨H.out.1, H.out.2.1, H.out.2.2, ha⟩) hle, (fun _ => rfl), by omega, by omega, hGr, hgr⟩
    ·have q0 : decide (400 < c0 + 1) = false := by simp; omega
     have q1 : decide (30 < deep) = false := by simp; omega
     have q3 : (decide (0 ≤ n) && decide (n ≤ mostN k)) = false := by
      rw [Bool.and_eq_false_iff, decide_eq_false_iff_not, decide_eq_false_iff_not]; omega
     have H := hide h3
     clear h2 h3
     go_enter Try.func26, Try.ntmps26
     go_wp2_with fail
     refine name_world ?_
     intro wx hwx
     have hg0 : w.grownBy wx (some g) := by rw [hwx]; exact only_alloc (only_setCell (World.grownBy.refl _ _) (.inl rfl) _) _
     have hB : Blk wx w.heap.size #[.int .i64 k, .int .i64 n, .slice A ks.length c] := by rw [hwx]; exact Blk.new_ _ _ _ (by simp)
     have hG : Blk wx g #[.int .i64 (c0 + 1)] := by rw [hwx]; exact (hcb.set_ 0 _).alloc _
     have hrx : RdP (· ≠ g) wx A 0 ks := hr.grown hg0 (fun b hb e => hb (by injection e))
     have hsx : w.heap.size < wx.heap.size := by rw [hwx]; simp
     have r0 := hB.rule (i := 0) rfl
     have r1 := hB.rule (i := 1) rfl
     have r2 := hB.rule (i := 2) rfl
     have r3 := hG.rule (i := 0) rfl
     clear hwx
     refine wp_region_class (fun w' => Below wx.heap.size wx w') (by kernel_rfl) (by kernel_rfl) (Below.refl _ _).drew ?_
     repeat (first | ((refine quiet_skip (a' := ?_) ?_ ?_ ?_); (rotate_left); (· (simp [Region.wanted, yielded]; done)); (· (simp only [Act.put, List.setIfInBounds_toArray, List.set_cons_zero, List.set_cons_succ]; exact rfl))) | ((refine quiet_one (v := ?_) (a' := ?_) ?_ ?_ ?_ ?_); (rotate_left 2); (· (simp [Region.wanted, yielded]; done)); (· (intro w' hS'; go_simp; try (with_reducible rfl))); (· (simp only [Act.put, List.setIfInBounds_toArray, List.set_cons_zero, List.set_cons_succ]; exact rfl))) | ((refine quiet_below (v := ?_) (a' := ?_) 44 ?_ ?_ ?_ ?_ ?_ ?_); (rotate_left 3); (· (simp [Region.wanted, yielded]; done)); (· (intro w' hS'; go_simp; try (with_reducible rfl))); (· (intro w' hS'; exact operands_any _ _)); (· (simp only [Act.put, List.setIfInBounds_toArray, List.set_cons_zero, List.set_cons_succ]; exact rfl))) | ((refine quiet_same (v := ?_) (a' := ?_) 45 ?_ ?_ ?_ ?_ ?_ ?_); (rotate_left 3); (· (simp [Region.wanted, yielded]; done)); (· (intro w' hS'; go_simp; try (with_reducible rfl))); (· (intro w' hS'; exact most_any _ _)); (· (simp only [Act.put, List.setIfInBounds_toArray, List.set_cons_zero, List.set_cons_succ]; exact rfl))) | ((refine quiet_same (v := ?_) (a' := ?_) 37 ?_ ?_ ?_ ?_ ?_ ?_); (rotate_left 3); (· (simp [Region.wanted, yielded]; done)); (· (intro w' hS'; go_simp; try (with_reducible rfl))); (· (intro w' hS'; exact within_any _ _ _ _)); (· (simp only [Act.put, List.setIfInBounds_toArray, List.set_cons_zero, List.set_cons_succ]; exact rfl))))
     refine quiet_nil ?_
     intro w2 hb2
     replace hB := hB.keep hb2
     replace hG := hG.keep hb2
     replace hrx := hrx.below hb2
     replace hg0 := only_below hg0 hb2
     clear r0 r1 r2 r3 hb2
     go_wp2_with fail
     go_ret
     exact ⟨_, c0 + 1, rfl, scan_no (by have := H.out; omega), (fun h => (by cases h)), by omega, by omega, hG, hg0⟩
   ·have q0 : decide (400 < c0 + 1) = false := by simp; omega
    have q1 : decide (30 < deep) = false := by simp; omega
    have q2 : (arity k != (ks.length : Int)) = true := by simpa using h2
    have H := hide h2
    clear h2
    go_enter Try.func26, Try.ntmps26
    go_wp2_with fail
    refine name_world ?_
    intro wx hwx
    have hg0 : w.grownBy wx (some g) := by rw [hwx]; exact only_alloc (only_setCell (World.grownBy.refl _ _) (.inl rfl) _) _
    have hB : Blk wx w.heap.size #[.int .i64 k, .int .i64 n, .slice A ks.length c] := by rw [hwx]; exact Blk.new_ _ _ _ (by simp)
    have hG : Blk wx g #[.int .i64 (c0 + 1)] := by rw [hwx]; exact (hcb.set_ 0 _).alloc _
    have hrx : RdP (· ≠ g) wx A 0 ks := hr.grown hg0 (fun b hb e => hb (by injection e))
    have hsx : w.heap.size < wx.heap.size := by rw [hwx]; simp
    have r0 := hB.rule (i := 0) rfl
    have r1 := hB.rule (i := 1) rfl
    have r2 := hB.rule (i := 2) rfl
    have r3 := hG.rule (i := 0) rfl
    clear hwx
    refine wp_region_class (fun w' => Below wx.heap.size wx w') (by kernel_rfl) (by kernel_rfl) (Below.refl _ _).drew ?_
    repeat (first | ((refine quiet_skip (a' := ?_) ?_ ?_ ?_); (rotate_left); (· (simp [Region.wanted, yielded]; done)); (· (simp only [Act.put, List.setIfInBounds_toArray, List.set_cons_zero, List.set_cons_succ]; exact rfl))) | ((refine quiet_one (v := ?_) (a' := ?_) ?_ ?_ ?_ ?_); (rotate_left 2); (· (simp [Region.wanted, yielded]; done)); (· (intro w' hS'; go_simp; try (with_reducible rfl))); (· (simp only [Act.put, List.setIfInBounds_toArray, List.set_cons_zero, List.set_cons_succ]; exact rfl))) | ((refine quiet_below (v := ?_) (a' := ?_) 44 ?_ ?_ ?_ ?_ ?_ ?_); (rotate_left 3); (· (simp [Region.wanted, yielded]; done)); (· (intro w' hS'; go_simp; try (with_reducible rfl))); (· (intro w' hS'; exact operands_any _ _)); (· (simp only [Act.put, List.setIfInBounds_toArray, List.set_cons_zero, List.set_cons_succ]; exact rfl))) | ((refine quiet_same (v := ?_) (a' := ?_) 45 ?_ ?_ ?_ ?_ ?_ ?_); (rotate_left 3); (· (simp [Region.wanted, yielded]; done)); (· (intro w' hS'; go_simp; try (with_reducible rfl))); (· (intro w' hS'; exact most_any _ _)); (· (simp only [Act.put, List.setIfInBounds_toArray, List.set_cons_zero, List.set_cons_succ]; exact rfl))) | ((refine quiet_same (v := ?_) (a' := ?_) 37 ?_ ?_ ?_ ?_ ?_ ?_); (rotate_left 3); (· (simp [Region.wanted, yielded]; done)); (· (intro w' hS'; go_simp; try (with_reducible rfl))); (· (intro w' hS'; exact within_any _ _ _ _)); (· (simp only [Act.put, List.setIfInBounds_toArray, List.set_cons_zero, List.set_cons_succ]; exact rfl))))
    refine quiet_nil ?_
    intro w2 hb2
    replace hB := hB.keep hb2
    replace hG := hG.keep hb2
    replace hrx := hrx.below hb2
    replace hg0 := only_below hg0 hb2
    clear r0 r1 r2 r3 hb2
    go_wp2_with fail
    go_ret
    exact ⟨_, c0 + 1, rfl, scan_no (by have := H.out; omega), (fun h => (by cases h)), by omega, by omega, hG, hg0⟩
  ·have q0 : decide (400 < c0 + 1) = false := by simp; omega
   have q1 : decide (30 < deep) = true := by simp; omega
   have H := hide h1
   go_enter Try.func26, Try.ntmps26
   go_wp2_with fail
   refine name_world ?_
   intro wx hwx
   have hg0 : w.grownBy wx (some g) := by rw [hwx]; exact only_alloc (only_setCell (World.grownBy.refl _ _) (.inl rfl) _) _
   have hB : Blk wx w.heap.size #[.int .i64 k, .int .i64 n, .slice A ks.length c] := by rw [hwx]; exact Blk.new_ _ _ _ (by simp)
   have hG : Blk wx g #[.int .i64 (c0 + 1)] := by rw [hwx]; exact (hcb.set_ 0 _).alloc _
   have hrx : RdP (· ≠ g) wx A 0 ks := hr.grown hg0 (fun b hb e => hb (by injection e))
   have hsx : w.heap.size < wx.heap.size := by rw [hwx]; simp
   have r0 := hB.rule (i := 0) rfl
   have r1 := hB.rule (i := 1) rfl
   have r2 := hB.rule (i := 2) rfl
   have r3 := hG.rule (i := 0) rfl
   clear hwx
   refine wp_region_class (fun w' => Below wx.heap.size wx w') (by kernel_rfl) (by kernel_rfl) (Below.refl _ _).drew ?_
   repeat (first | ((refine quiet_skip (a' := ?_) ?_ ?_ ?_); (rotate_left); (· (simp [Region.wanted, yielded]; done)); (· (simp only [Act.put, List.setIfInBounds_toArray, List.set_cons_zero, List.set_cons_succ]; exact rfl))) | ((refine quiet_one (v := ?_) (a' := ?_) ?_ ?_ ?_ ?_); (rotate_left 2); (· (simp [Region.wanted, yielded]; done)); (· (intro w' hS'; go_simp; try (with_reducible rfl))); (· (simp only [Act.put, List.setIfInBounds_toArray, List.set_cons_zero, List.set_cons_succ]; exact rfl))) | ((refine quiet_below (v := ?_) (a' := ?_) 44 ?_ ?_ ?_ ?_ ?_ ?_); (rotate_left 3); (· (simp [Region.wanted, yielded]; done)); (· (intro w' hS'; go_simp; try (with_reducible rfl))); (· (intro w' hS'; exact operands_any _ _)); (· (simp only [Act.put, List.setIfInBounds_toArray, List.set_cons_zero, List.set_cons_succ]; exact rfl))) | ((refine quiet_same (v := ?_) (a' := ?_) 45 ?_ ?_ ?_ ?_ ?_ ?_); (rotate_left 3); (· (simp [Region.wanted, yielded]; done)); (· (intro w' hS'; go_simp; try (with_reducible rfl))); (· (intro w' hS'; exact most_any _ _)); (· (simp only [Act.put, List.setIfInBounds_toArray, List.set_cons_zero, List.set_cons_succ]; exact rfl))) | ((refine quiet_same (v := ?_) (a' := ?_) 37 ?_ ?_ ?_ ?_ ?_ ?_); (rotate_left 3); (· (simp [Region.wanted, yielded]; done)); (· (intro w' hS'; go_simp; try (with_reducible rfl))); (· (intro w' hS'; exact within_any _ _ _ _)); (· (simp only [Act.put, List.setIfInBounds_toArray, List.set_cons_zero, List.set_cons_succ]; exact rfl))))
   refine quiet_nil ?_
   intro w2 hb2
   replace hB := hB.keep hb2
   replace hG := hG.keep hb2
   replace hrx := hrx.below hb2
   replace hg0 := only_below hg0 hb2
   clear r0 r1 r2 r3 hb2
   go_wp2_with fail
   go_ret
   exact ⟨_, c0 + 1, rfl, scan_no (by have := H.out; omega), (fun h => (by cases h)), by omega, by omega, hG, hg0⟩
 ·have q0 : decide (400 < c0 + 1) = true := by simp; omega
  have H := hide h0
  go_enter Try.func26, Try.ntmps26
  go_wp2_with fail
  refine name_world ?_
  intro wx hwx
  have hg0 : w.grownBy wx (some g) := by rw [hwx]; exact only_alloc (only_setCell (World.grownBy.refl _ _) (.inl rfl) _) _
  have hB : Blk wx w.heap.size #[.int .i64 k, .int .i64 n, .slice A ks.length c] := by rw [hwx]; exact Blk.new_ _ _ _ (by simp)
  have hG : Blk wx g #[.int .i64 (c0 + 1)] := by rw [hwx]; exact (hcb.set_ 0 _).alloc _
  have hrx : RdP (· ≠ g) wx A 0 ks := hr.grown hg0 (fun b hb e => hb (by injection e))
  have hsx : w.heap.size < wx.heap.size := by rw [hwx]; simp
  have r0 := hB.rule (i := 0) rfl
  have r1 := hB.rule (i := 1) rfl
  have r2 := hB.rule (i := 2) rfl
  have r3 := hG.rule (i := 0) rfl
  clear hwx
  refine wp_region_class (fun w' => Below wx.heap.size wx w') (by kernel_rfl) (by kernel_rfl) (Below.refl _ _).drew ?_
  repeat (first | ((refine quiet_skip (a' := ?_) ?_ ?_ ?_); (rotate_left); (· (simp [Region.wanted, yielded]; done)); (· (simp only [Act.put, List.setIfInBounds_toArray, List.set_cons_zero, List.set_cons_succ]; exact rfl))) | ((refine quiet_one (v := ?_) (a' := ?_) ?_ ?_ ?_ ?_); (rotate_left 2); (· (simp [Region.wanted, yielded]; done)); (· (intro w' hS'; go_simp; try (with_reducible rfl))); (· (simp only [Act.put, List.setIfInBounds_toArray, List.set_cons_zero, List.set_cons_succ]; exact rfl))) | ((refine quiet_below (v := ?_) (a' := ?_) 44 ?_ ?_ ?_ ?_ ?_ ?_); (rotate_left 3); (· (simp [Region.wanted, yielded]; done)); (· (intro w' hS'; go_simp; try (with_reducible rfl))); (· (intro w' hS'; exact operands_any _ _)); (· (simp only [Act.put, List.setIfInBounds_toArray, List.set_cons_zero, List.set_cons_succ]; exact rfl))) | ((refine quiet_same (v := ?_) (a' := ?_) 45 ?_ ?_ ?_ ?_ ?_ ?_); (rotate_left 3); (· (simp [Region.wanted, yielded]; done)); (· (intro w' hS'; go_simp; try (with_reducible rfl))); (· (intro w' hS'; exact most_any _ _)); (· (simp only [Act.put, List.setIfInBounds_toArray, List.set_cons_zero, List.set_cons_succ]; exact rfl))) | ((refine quiet_same (v := ?_) (a' := ?_) 37 ?_ ?_ ?_ ?_ ?_ ?_); (rotate_left 3); (· (simp [Region.wanted, yielded]; done)); (· (intro w' hS'; go_simp; try (with_reducible rfl))); (· (intro w' hS'; exact within_any _ _ _ _)); (· (simp only [Act.put, List.setIfInBounds_toArray, List.set_cons_zero, List.set_cons_succ]; exact rfl))))
  refine quiet_nil ?_
  intro w2 hb2
  replace hB := hB.keep hb2
  replace hG := hG.keep hb2
  replace hrx := hrx.below hb2
  replace hg0 := only_below hg0 hb2
  clear r0 r1 r2 r3 hb2
  go_wp2_with fail
  go_ret
  exact ⟨_, c0 + 1, rfl, scan_no (by have := H.out; omega), (fun h => (by cases h)), by omega, by omega, hG, hg0⟩
open Go.RowKit
set_option maxRecDepth 100000 in
set_option maxHeartbeats 1000000 in
theorem iTermValid_any (k n : Int) (ks : List Tm) (A : Option Addr) (c : Nat) (w : World) (hM : sizes ks ≤ 1099511627775) (hr : Rd w A 0 ks) :
  Calls Try.prog 8 #[.agg #[.int .i64 k, .int .i64 n, .slice A ks.length c]] w fun e w' => e = .returned (.bool (validT (.mk k n ks))) ∧ Below w.heap.size w w' := by
 have hlen := length_le_sizes ks
 have hrp : RdP (· ≠ w.heap.size + 1) w A 0 ks := hr.rdp.mono (fun b hb => by have hb : b < w.heap.size := hb; show b ≠ _; omega)
 go_enter Try.func8, Try.ntmps8
 go_wp2_with (go_at_call 26; refine (scan_any (sizes ks + 1) k n ks A c 1 30 0 (w.heap.size + 1) _ (by omega) (by omega) (by omega) (by omega) (by omega) (by omega) (by omega) (Blk.new_ _ _ _ (by simp)) ((hrp.alloc _).alloc _)).mono ?_; rintro e w3 ⟨b, cx, rfl, hbe, hcx, hx0, hx1, hG3, hg3⟩; clear hcx hG3)
 go_ret
 refine ⟨ret_bool ?_, (((Below.refl _ _).alloc (Nat.le_refl _) _).alloc (by simp) _).grown hg3 (by simp; omega) (fun k e => by cases e; omega)⟩
 show scanB 30 0 k n ks = _
 unfold scanB validT
 rw [Tm.size]
 by_cases h : sizes ks + 1 ≤ 400
 ·rw [decide_eq_true h, decide_eq_true (by omega)]
 ·rw [decide_eq_false h, decide_eq_false (by omega)]
open Go.RowKit
theorem k_ne {k m : Int} (h : ¬ k = m) : (k == m) = false := by simpa using h
def kat (ks : List Tm) (i : Nat) : Int := (ks.getD i default).k
theorem rdx_at (i : Nat) (ks : List Tm) (h : i < ks.length) {k n : Int} {ls : List Tm} (e : ks[i] = .mk k n ls) : kat ks i = k := by
 simp [kat, List.getD, List.getElem?_eq_getElem h, e, Tm.k]
def rdx (k : Int) (ks : List Tm) : Int :=
 if k = 5 then (if kat ks 0 = 4 then 1 else 0) else if k = 9 then (if kat ks 3 = 7 then 2 else if kat ks 3 = 8 then 3 else 0) else
  if k = 12 then (if kat ks 1 = 11 then 4 else 0) else if k = 15 then (if kat ks 0 = 14 then 5 else 0) else if k = 16 then (if kat ks 0 = 14 then 6 else 0) else 0
theorem rdx_no {k : Int} (ks : List Tm) (h : ¬ (k = 5 ∨ k = 9 ∨ k = 12 ∨ k = 15 ∨ k = 16)) : rdx k ks = 0 := by
 unfold rdx; repeat rw [if_neg (by omega)]
set_option maxRecDepth 100000 in
set_option maxHeartbeats 2000000 in
theorem sRedex_any (k n : Int) (ks : List Tm) (A : Option Addr) (c : Nat) (w : World) (hl : ks.length ≤ 9223372036854775807) (ha : arity k = (ks.length : Int)) (hr : Rd w A 0 ks) :
  Calls Try.prog 64 #[.agg #[.int .i64 k, .int .i64 n, .slice A ks.length c]] w fun e w' => e = .returned (.int .i64 (rdx k ks)) ∧ Below w.heap.size w w' := by
 by_cases hk : k = 5 ∨ k = 9 ∨ k = 12 ∨ k = 15 ∨ k = 16
 ·rcases hk with rfl | rfl | rfl | rfl | rfl
  ·have hlen : ks.length = 2 := by have : arity 5 = 2 := rfl; omega
   obtain ⟨b, off, k1, n1, ks1, A1, c1, rfl, hkj, hc1, hc2, hc3, hl1, hr1⟩ := hr.at_ (j := 0) (by omega)
   have hx := rdx_at 0 ks (by omega) hkj
   have hbl := World.block_lt_of_cell? _ _ hc1
   clear hkj hc2 hc3
   rw [hlen]
   simp only [Nat.reduceMul, Nat.zero_mul, Nat.add_zero] at hc1
   by_cases h4 : k1 = 4
   ·subst h4
    go_enter Try.func64, Try.ntmps64
    go_wp2_with fail
    go_ret
    exact ⟨ret_int (by rw [rdx]; simp [hx, *]), (Below.refl _ _).alloc (Nat.le_refl _) _⟩
   ·have n4 := k_ne h4
    go_enter Try.func64, Try.ntmps64
    go_wp2_with fail
    go_ret
    exact ⟨ret_int (by rw [rdx]; simp [hx, *]), (Below.refl _ _).alloc (Nat.le_refl _) _⟩
  ·have hlen : ks.length = 4 := by have : arity 9 = 4 := rfl; omega
   obtain ⟨b, off, k1, n1, ks1, A1, c1, rfl, hkj, hc1, hc2, hc3, hl1, hr1⟩ := hr.at_ (j := 3) (by omega)
   have hx := rdx_at 3 ks (by omega) hkj
   have hbl := World.block_lt_of_cell? _ _ hc1
   clear hkj hc2 hc3
   rw [hlen]
   simp only [Nat.reduceMul, Nat.zero_mul, Nat.add_zero] at hc1
   by_cases h7 : k1 = 7
   ·subst h7
    go_enter Try.func64, Try.ntmps64
    go_wp2_with fail
    go_ret
    exact ⟨ret_int (by rw [rdx]; simp [hx, *]), (Below.refl _ _).alloc (Nat.le_refl _) _⟩
   ·have n7 := k_ne h7
    by_cases h8 : k1 = 8
    ·subst h8
     go_enter Try.func64, Try.ntmps64
     go_wp2_with fail
     go_ret
     exact ⟨ret_int (by rw [rdx]; simp [hx, *]), (Below.refl _ _).alloc (Nat.le_refl _) _⟩
    ·have n8 := k_ne h8
     go_enter Try.func64, Try.ntmps64
     go_wp2_with fail
     go_ret
     exact ⟨ret_int (by rw [rdx]; simp [hx, *]), (Below.refl _ _).alloc (Nat.le_refl _) _⟩
  ·have hlen : ks.length = 3 := by have : arity 12 = 3 := rfl; omega
   obtain ⟨b, off, k1, n1, ks1, A1, c1, rfl, hkj, hc1, hc2, hc3, hl1, hr1⟩ := hr.at_ (j := 1) (by omega)
   have hx := rdx_at 1 ks (by omega) hkj
   have hbl := World.block_lt_of_cell? _ _ hc1
   clear hkj hc2 hc3
   rw [hlen]
   simp only [Nat.reduceMul, Nat.zero_mul, Nat.add_zero] at hc1
   by_cases h11 : k1 = 11
   ·subst h11
    go_enter Try.func64, Try.ntmps64
    go_wp2_with fail
    go_ret
    exact ⟨ret_int (by rw [rdx]; simp [hx, *]), (Below.refl _ _).alloc (Nat.le_refl _) _⟩
   ·have n11 := k_ne h11
    go_enter Try.func64, Try.ntmps64
    go_wp2_with fail
    go_ret
    exact ⟨ret_int (by rw [rdx]; simp [hx, *]), (Below.refl _ _).alloc (Nat.le_refl _) _⟩
  ·have hlen : ks.length = 1 := by have : arity 15 = 1 := rfl; omega
   obtain ⟨b, off, k1, n1, ks1, A1, c1, rfl, hkj, hc1, hc2, hc3, hl1, hr1⟩ := hr.at_ (j := 0) (by omega)
   have hx := rdx_at 0 ks (by omega) hkj
   have hbl := World.block_lt_of_cell? _ _ hc1
   clear hkj hc2 hc3
   rw [hlen]
   simp only [Nat.reduceMul, Nat.zero_mul, Nat.add_zero] at hc1
   by_cases h14 : k1 = 14
   ·subst h14
    go_enter Try.func64, Try.ntmps64
    go_wp2_with fail
    go_ret
    exact ⟨ret_int (by rw [rdx]; simp [hx, *]), (Below.refl _ _).alloc (Nat.le_refl _) _⟩
   ·have n14 := k_ne h14
    go_enter Try.func64, Try.ntmps64
    go_wp2_with fail
    go_ret
    exact ⟨ret_int (by rw [rdx]; simp [hx, *]), (Below.refl _ _).alloc (Nat.le_refl _) _⟩
  ·have hlen : ks.length = 1 := by have : arity 16 = 1 := rfl; omega
   obtain ⟨b, off, k1, n1, ks1, A1, c1, rfl, hkj, hc1, hc2, hc3, hl1, hr1⟩ := hr.at_ (j := 0) (by omega)
   have hx := rdx_at 0 ks (by omega) hkj
   have hbl := World.block_lt_of_cell? _ _ hc1
   clear hkj hc2 hc3
   rw [hlen]
   simp only [Nat.reduceMul, Nat.zero_mul, Nat.add_zero] at hc1
   by_cases h14 : k1 = 14
   ·subst h14
    go_enter Try.func64, Try.ntmps64
    go_wp2_with fail
    go_ret
    exact ⟨ret_int (by rw [rdx]; simp [hx, *]), (Below.refl _ _).alloc (Nat.le_refl _) _⟩
   ·have n14 := k_ne h14
    go_enter Try.func64, Try.ntmps64
    go_wp2_with fail
    go_ret
    exact ⟨ret_int (by rw [rdx]; simp [hx, *]), (Below.refl _ _).alloc (Nat.le_refl _) _⟩
 ·have H := hide hk
  have h0 : rdx k ks = 0 := rdx_no ks hk
  have n5 := k_ne (k := k) (m := 5) (by omega)
  have n9 := k_ne (k := k) (m := 9) (by omega)
  have n12 := k_ne (k := k) (m := 12) (by omega)
  have n15 := k_ne (k := k) (m := 15) (by omega)
  have n16 := k_ne (k := k) (m := 16) (by omega)
  clear hk
  rw [h0]
  go_enter Try.func64, Try.ntmps64
  go_wp2_with fail
  go_ret
  exact ⟨rfl, (Below.refl _ _).alloc (Nat.le_refl _) _⟩
open Go.RowKit
open Go.RowKit
theorem Blk.three {w : World} {g : Nat} {x y z : Value} (h : Blk w g #[x, y, z]) : w.cell? ⟨g, 0, none⟩ = some x ∧ w.cell? ⟨g, 1, none⟩ = some y ∧ w.cell? ⟨g, 2, none⟩ = some z :=
 ⟨h.at_ (i := 0) rfl, h.at_ (i := 1) rfl, h.at_ (i := 2) rfl⟩
open Go.RowKit
def Path (w : World) (A : Option Addr) (m : Nat) : Prop :=
 ∃ xs : List Int, xs.length = m ∧ (0 < m → ∃ b off, A = some ⟨b, off, none⟩ ∧ ∀ (i : Nat) (u : Value), (xs.map (Value.int .i64))[i]? = some u → w.cell? ⟨b, off + i, none⟩ = some u)
theorem Path.nil {w : World} {A : Option Addr} : Path w A 0 := ⟨[], rfl, fun h => absurd h (Nat.lt_irrefl _)⟩
theorem Path.alloc {w : World} {A : Option Addr} {m : Nat} (h : Path w A m) (o : Obj) : Path (w.alloc o) A m := by
 obtain ⟨xs, h1, h2⟩ := h
 refine ⟨xs, h1, fun hm => ?_⟩
 obtain ⟨b, off, h3, h4⟩ := h2 hm
 exact ⟨b, off, h3, fun i u hu => Keeps.alloc w o _ _ (h4 i u hu)⟩
open Go.RowKit
def zeroV : Value := .agg #[.int .i64 0, .int .i64 0, .slice none 0 0]
def shF (by_ cut : Int) (n d : Int) : Tm := .mk 1 (if cut ≤ n - d then n + by_ else n) []
def shOk (by_ cut : Int) (n d : Int) : Bool := if cut ≤ n - d then decide (cut ≤ n + by_ - d) && decide (n + by_ ≤ 20) else true
open Go.RowKit
def GotO (w : World) (o : Option Tm) (e : Ending) (w' : World) : Prop :=
 match o with
 | none => e = .returned (.tuple #[zeroV, .bool false]) ∧ Below w.heap.size w w'
 | some t => ∃ A c, e = .returned (.tuple #[.agg #[.int .i64 t.k, .int .i64 t.n, .slice A t.ks.length c], .bool true]) ∧ t.ks.length ≤ 9223372036854775807 ∧ Fresh w.heap.size w' A t.ks ∧ Below w.heap.size w w'
def shiftI (by_ cut : Int) (t : Tm) : Option Tm := if chgOk (shOk by_ cut) 0 t = true then (if validT (chg (shF by_ cut) 0 t) = true then some (chg (shF by_ cut) 0 t) else none) else none
end Go.Proofs.Ytddkehjdjfmhmaa
