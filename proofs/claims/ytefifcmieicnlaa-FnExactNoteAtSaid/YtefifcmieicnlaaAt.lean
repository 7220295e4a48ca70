/-
  l8At and TermAt of the reference. No condition.
-/
import Derived.Test.YtefifcmieicnlaaCopy
import Derived.Test.YtefifcmieicnlaaSMatch
namespace Go.Proofs.Ytefifcmieicnlaa
open Go.RowKit
set_option linter.unusedSimpArgs false
set_option linter.unusedVariables false

/-- integers that can be read -/
def RdI (w : World) (A : Option Addr) (xs : List Int) : Prop := ∀ j (hj : j < xs.length), ∃ b off, A = some ⟨b, off, none⟩ ∧ w.cell? ⟨b, off + j, none⟩ = some (.int .i64 xs[j])
theorem RdI.keeps {w w' : World} {A : Option Addr} {xs : List Int} (h : RdI w A xs) (hk : Keeps w w') : RdI w' A xs := fun j hj => by
  obtain ⟨b, off, hA, hc⟩ := h j hj; exact ⟨b, off, hA, hk _ _ hc⟩
theorem RdI.below {w w' : World} {A : Option Addr} {xs : List Int} (h : RdI w A xs) (hb : Below w.heap.size w w') : RdI w' A xs := h.keeps (.of_below hb)
theorem RdI.alloc {w : World} {A : Option Addr} {xs : List Int} (h : RdI w A xs) (o : Obj) : RdI (w.alloc o) A xs := h.keeps (.alloc w o)

/-- the place in a term to which a path leads -/
def atT : Tm → List Int → Option Tm
  | t, [] => some t
  | t, i :: is => if 0 ≤ i ∧ i < t.kids.length then atT (t.kids.getD i.toNat default) is else none
theorem atT_append : ∀ (xs ys : List Int) (t : Tm), atT t (xs ++ ys) = (atT t xs).bind (atT · ys)
  | [], ys, t => rfl
  | i :: is, ys, t => by
    rw [List.cons_append, atT, atT]
    split
    · exact atT_append is ys _
    · rfl
theorem atT_take {t u : Tm} {xs : List Int} {j : Nat} (hj : j < xs.length) (h : atT t (xs.take j) = some u) : atT t (xs.take (j + 1)) = if 0 ≤ xs[j] ∧ xs[j] < u.kids.length then some (u.kids.getD xs[j].toNat default) else none := by
  rw [List.take_succ_eq_append_getElem hj, atT_append, h, Option.bind_some, atT]
  split <;> rfl
theorem atT_none {t : Tm} {xs : List Int} {j : Nat} (h : atT t (xs.take j) = none) : atT t xs = none := by
  rw [← List.take_append_drop j xs, atT_append, h]; rfl
theorem atT_valid {u : Tm} : ∀ {xs : List Int} {t : Tm}, atT t xs = some u → validT t = true → validT u = true
  | [], t, h, hv => by cases h; exact hv
  | i :: is, t, h, hv => by
    rw [atT] at h
    split at h
    · rename_i hh
      obtain ⟨k, n, ks⟩ := t
      refine atT_valid h ?_
      have hlt : i.toNat < ks.length := by have := hh.2; simp only [Tm.kids] at this; omega
      rw [show (Tm.mk k n ks).kids = ks from rfl, List.getD_eq_getElem?_getD, List.getElem?_eq_getElem hlt, Option.getD_some]
      exact validT_kid hv (List.getElem_mem _)
    · cases h

/-- a term somewhere, and whether there is one -/
def SeenO (w : World) (o : Option Tm) (e : Ending) (w' : World) : Prop :=
  Below w.heap.size w w' ∧ match o with
  | none => e = .returned (.tuple #[.agg #[.int .i64 0, .int .i64 0, .slice none 0 0], .bool false])
  | some (.mk k n ks) => ∃ A c, e = .returned (.tuple #[.agg #[.int .i64 k, .int .i64 n, .slice A ks.length c], .bool true]) ∧ ks.length ≤ 9223372036854775807 ∧ Rd w A 0 ks

set_option maxHeartbeats 2000000 in
set_option maxRecDepth 100000 in
theorem sAt_any (k n : Int) (ks : List Tm) (A : Option Addr) (c : Nat) (xs : List Int) (P : Option Addr) (cp : Nat) (w : World) (hM : sizes ks ≤ 1000000000) (hx : xs.length ≤ 9223372036854775807) (hr : Rd w A 0 ks) (hi : RdI w P xs) :
    Calls Try.prog 111 #[.agg #[.int .i64 k, .int .i64 n, .slice A ks.length c], .slice P xs.length cp] w (SeenO w (atT (.mk k n ks) xs)) := by
  have hlen := length_le_sizes ks
  go_enter Try.func111, Try.ntmps111
  go_wp2_with fail
  go_loopw [6] (fun i wr => ∃ (j : Nat) (k1 n1 : Int) (ks1 : List Tm) (A1 : Option Addr) (c1 : Nat), j ≤ xs.length ∧ i = .int .i64 j ∧ Hid (atT (.mk k n ks) (xs.take j) = some (.mk k1 n1 ks1)) ∧ ks1.length ≤ 9223372036854775807 ∧ Rd w A1 0 ks1 ∧ Blk wr w.heap.size #[.int .i64 k1, .int .i64 n1, .slice A1 ks1.length c1] ∧ Blk wr (w.heap.size + 1) #[.int .i64 0, .int .i64 0, .slice none 0 0] ∧ Below w.heap.size w wr)
    (fun i _ => xs.length - (intOf i).toNat)
  case atStart => exact ⟨0, k, n, ks, A, c, Nat.zero_le _, rfl, hide rfl, by omega, hr, (Blk.new_ _ _ _ rfl).alloc _, Blk.new_ _ _ _ (by simp), ((Below.refl _ _).alloc (by simp) _).alloc (by simp) _⟩
  case round =>
    obtain ⟨j, k1, n1, ks1, A1, c1, hj, rfl, hat, hl1, hr1, hB1, hB2, hb⟩ := hrel
    by_cases hlt : j < xs.length
    · obtain ⟨b, off, rfl, hc⟩ := hi.below hb j hlt
      have hnx := hide (atT_take hlt hat.out)
      generalize hxj : xs[j] = x at hc hnx
      have hxj' := hide hxj
      clear hxj
      by_cases hin : 0 ≤ x ∧ x < ks1.length
      · obtain ⟨i, rfl⟩ : ∃ i : Nat, x = (i : Int) := ⟨x.toNat, by omega⟩
        have hik : i < ks1.length := by omega
        obtain ⟨b3, off3, k3, n3, ks3, A3, c3, rfl, hkj3, hd1, hd2, hd3, hl3, hr3⟩ := hr1.at_ hik
        have hst : atT (.mk k n ks) (xs.take (j + 1)) = some (.mk k3 n3 ks3) := by
          rw [hnx.out, if_pos (show 0 ≤ (i : Int) ∧ (i : Int) < (Tm.mk k1 n1 ks1).kids.length from hin), Int.toNat_natCast, show (Tm.mk k1 n1 ks1).kids = ks1 from rfl, List.getD_eq_getElem?_getD, List.getElem?_eq_getElem hik, Option.getD_some, hkj3]
        have hst' := hide hst
        have q1 : decide ((i : Int) < 0) = false := decide_eq_false (by omega)
        have q2 : decide ((ks1.length : Int) ≤ (i : Int)) = false := decide_eq_false (by omega)
        clear hkj3 hst hnx
        go_wp2_with fail
        have y0 := rule_of hc
        have y1 := hB1.rule (i := 2) rfl
        refine wp_region_firstY (fun w' => Below wr.heap.size wr w') [0, 1, 2, 3, 4, 5, 6, 7, 8, 9, 10, 11, 12, 13, 14] [] [] [_, _, _, _, _, _, _, _, _, _, _, _, _, _, _] [] [] (by kernel_rfl) (by kernel_rfl) rfl rfl rfl (fun _ _ d _ _ h => by cases d <;> exact h) (Below.refl _ _).drew ?_
        repeat (first | ((refine takeY_skip (a' := ?_) ?_ ?_ ?_); (rotate_left); (· (simp [Region.wanted, yielded]; done)); (· (simp only [List.getElem_toArray, List.getElem_cons_zero, List.getElem_cons_succ, Act.put, List.setIfInBounds_toArray, List.set_cons_zero, List.set_cons_succ]; exact rfl))) | ((refine takeY_step (v := ?_) (a' := ?_) ?_ ?_ ?_ ?_); (rotate_left 2); (· (simp [Region.wanted, yielded]; done)); (· (intro w' hS'; go_simp; try (with_reducible rfl))); (· (simp only [List.getElem_toArray, List.getElem_cons_zero, List.getElem_cons_succ, Act.put, List.setIfInBounds_toArray, List.set_cons_zero, List.set_cons_succ]; exact rfl))))
        refine takeY_nil (then_nil ?_)
        go_wp2_with fail
        have z2 := rule_of ((Keeps.of_below hb) _ _ hd1)
        have z3 := rule_of ((Keeps.of_below hb) _ _ hd2)
        have z4 := rule_of ((Keeps.of_below hb) _ _ hd3)
        refine wp_region_firstY (fun w' => Below wr.heap.size wr w') [0, 1, 2, 3, 4, 5, 6, 7] [] [8] [_, _, _, _, _, _, _, _] [] [_] (by kernel_rfl) (by kernel_rfl) rfl rfl rfl (fun _ _ d _ _ h => by cases d <;> exact h) (Below.refl _ _).drew.drew ?_
        repeat (first | ((refine takeY_skip (a' := ?_) ?_ ?_ ?_); (rotate_left); (· (simp [Region.wanted, yielded]; done)); (· (simp only [List.getElem_toArray, List.getElem_cons_zero, List.getElem_cons_succ, Act.put, List.setIfInBounds_toArray, List.set_cons_zero, List.set_cons_succ]; exact rfl))) | ((refine takeY_step (v := ?_) (a' := ?_) ?_ ?_ ?_ ?_); (rotate_left 2); (· (simp [Region.wanted, yielded]; done)); (· (intro w' hS'; go_simp; try (with_reducible rfl))); (· (simp only [List.getElem_toArray, List.getElem_cons_zero, List.getElem_cons_succ, Act.put, List.setIfInBounds_toArray, List.set_cons_zero, List.set_cons_succ]; exact rfl))))
        refine takeY_nil (then_nil ?_)
        clear y0 y1 z2 z3 z4
        have cc0 := hB1.drew.drew.at_ (i := 0) rfl
        have cc1 := hB1.drew.drew.at_ (i := 1) rfl
        have cc2 := hB1.drew.drew.at_ (i := 2) rfl
        have f0 := hB1.drew.drew.frozen 0
        have f1 := hB1.drew.drew.frozen 1
        have f2 := hB1.drew.drew.frozen 2
        have cc0' : wr.cell? ⟨w.heap.size, 0, none⟩ = some (.int .i64 k1) := hB1.at_ (i := 0) rfl
        have cc1' : wr.cell? ⟨w.heap.size, 1, none⟩ = some (.int .i64 n1) := hB1.at_ (i := 1) rfl
        have cc2' := hB1.at_ (i := 2) rfl
        have f0' := hB1.frozen 0
        have f1' := hB1.frozen 1
        have f2' := hB1.frozen 2
        go_wp2_with fail
        go_roundw
        case rel => exact ⟨j + 1, k3, n3, ks3, A3, c3, by omega, by go_num, hst', hl3, hr3, ((hB1.drew.drew.set_ 0 _).set_ 1 _).set_ 2 _, ((hB2.drew.drew.far (by simp) _).far (by simp) _).far (by simp) _, ((hb.drew.drew.setCell (by simp) _).setCell (by simp) _).setCell (by simp) _⟩
        case measure => simp [intOf]; omega
      · have hst : atT (.mk k n ks) (xs.take (j + 1)) = none := by rw [hnx.out, if_neg (show ¬ (0 ≤ x ∧ x < (Tm.mk k1 n1 ks1).kids.length) from hin)]
        have hno := hide (atT_none hst)
        have b2 := hB1.at_ (i := 2) rfl
        clear hst hnx
        cases qx : decide (x < 0) with
        | true =>
          go_wp2_with fail
          have y0 := rule_of hc
          have y1 := hB1.rule (i := 2) rfl
          refine wp_region_firstY (fun w' => Below wr.heap.size wr w') [0, 1, 2, 3, 4, 5, 6, 7, 8, 9, 10, 11, 12, 13, 14] [] [] [_, _, _, _, _, _, _, _, _, _, _, _, _, _, _] [] [] (by kernel_rfl) (by kernel_rfl) rfl rfl rfl (fun _ _ d _ _ h => by cases d <;> exact h) (Below.refl _ _).drew ?_
          repeat (first | ((refine takeY_skip (a' := ?_) ?_ ?_ ?_); (rotate_left); (· (simp [Region.wanted, yielded]; done)); (· (simp only [List.getElem_toArray, List.getElem_cons_zero, List.getElem_cons_succ, Act.put, List.setIfInBounds_toArray, List.set_cons_zero, List.set_cons_succ]; exact rfl))) | ((refine takeY_step (v := ?_) (a' := ?_) ?_ ?_ ?_ ?_); (rotate_left 2); (· (simp [Region.wanted, yielded]; done)); (· (intro w' hS'; go_simp; try (with_reducible rfl))); (· (simp only [List.getElem_toArray, List.getElem_cons_zero, List.getElem_cons_succ, Act.put, List.setIfInBounds_toArray, List.set_cons_zero, List.set_cons_succ]; exact rfl))))
          refine takeY_nil (then_nil ?_)
          clear y0 y1
          have d0 := hB2.drew.at_ (i := 0) rfl
          have d1 := hB2.drew.at_ (i := 1) rfl
          have d2 := hB2.drew.at_ (i := 2) rfl
          have e0 := hB2.drew.frozen 0
          have e1 := hB2.drew.frozen 1
          have e2 := hB2.drew.frozen 2
          have e0' := hB2.frozen 0
          have e1' := hB2.frozen 1
          have e2' := hB2.frozen 2
          have d0' : wr.cell? ⟨w.heap.size + 1, 0, none⟩ = some (.int .i64 0) := d0
          have d1' : wr.cell? ⟨w.heap.size + 1, 1, none⟩ = some (.int .i64 0) := d1
          have d2' : wr.cell? ⟨w.heap.size + 1, 2, none⟩ = some (.slice none 0 0) := d2
          go_wp2_with fail
          refine bodyPost_ret (v := .tuple #[.agg #[.int .i64 0, .int .i64 0, .slice none 0 0], .bool false]) (by simp [results, Try.results111, go_sem, d0', d1', d2']) rfl ?_
          rw [hno.out]
          exact ⟨((hb.drew.setCell (by simp) _).setCell (by simp) _).setCell (by simp) _, rfl⟩
        | false =>
          have qy : decide ((ks1.length : Int) ≤ x) = true := decide_eq_true (by have := of_decide_eq_false qx; by_cases h : (ks1.length : Int) ≤ x; (· exact h); (· exact absurd ⟨by omega, by omega⟩ hin))
          clear hin
          go_wp2_with fail
          have y0 := rule_of hc
          have y1 := hB1.rule (i := 2) rfl
          refine wp_region_firstY (fun w' => Below wr.heap.size wr w') [0, 1, 2, 3, 4, 5, 6, 7, 8, 9, 10, 11, 12, 13, 14] [] [] [_, _, _, _, _, _, _, _, _, _, _, _, _, _, _] [] [] (by kernel_rfl) (by kernel_rfl) rfl rfl rfl (fun _ _ d _ _ h => by cases d <;> exact h) (Below.refl _ _).drew ?_
          repeat (first | ((refine takeY_skip (a' := ?_) ?_ ?_ ?_); (rotate_left); (· (simp [Region.wanted, yielded]; done)); (· (simp only [List.getElem_toArray, List.getElem_cons_zero, List.getElem_cons_succ, Act.put, List.setIfInBounds_toArray, List.set_cons_zero, List.set_cons_succ]; exact rfl))) | ((refine takeY_step (v := ?_) (a' := ?_) ?_ ?_ ?_ ?_); (rotate_left 2); (· (simp [Region.wanted, yielded]; done)); (· (intro w' hS'; go_simp; try (with_reducible rfl))); (· (simp only [List.getElem_toArray, List.getElem_cons_zero, List.getElem_cons_succ, Act.put, List.setIfInBounds_toArray, List.set_cons_zero, List.set_cons_succ]; exact rfl))))
          refine takeY_nil (then_nil ?_)
          clear y0 y1
          have d0 := hB2.drew.at_ (i := 0) rfl
          have d1 := hB2.drew.at_ (i := 1) rfl
          have d2 := hB2.drew.at_ (i := 2) rfl
          have e0 := hB2.drew.frozen 0
          have e1 := hB2.drew.frozen 1
          have e2 := hB2.drew.frozen 2
          have e0' := hB2.frozen 0
          have e1' := hB2.frozen 1
          have e2' := hB2.frozen 2
          have d0' : wr.cell? ⟨w.heap.size + 1, 0, none⟩ = some (.int .i64 0) := d0
          have d1' : wr.cell? ⟨w.heap.size + 1, 1, none⟩ = some (.int .i64 0) := d1
          have d2' : wr.cell? ⟨w.heap.size + 1, 2, none⟩ = some (.slice none 0 0) := d2
          go_wp2_with fail
          refine bodyPost_ret (v := .tuple #[.agg #[.int .i64 0, .int .i64 0, .slice none 0 0], .bool false]) (by simp [results, Try.results111, go_sem, d0', d1', d2']) rfl ?_
          rw [hno.out]
          exact ⟨((hb.drew.setCell (by simp) _).setCell (by simp) _).setCell (by simp) _, rfl⟩
    · have hjl : j = xs.length := by omega
      subst hjl
      have h5 := hat.out
      rw [List.take_length] at h5
      have h5' := hide h5
      clear h5
      have cc0 := hB1.at_ (i := 0) rfl
      have cc1 := hB1.at_ (i := 1) rfl
      have cc2 := hB1.at_ (i := 2) rfl
      have d0 := hB2.at_ (i := 0) rfl
      have d1 := hB2.at_ (i := 1) rfl
      have d2 := hB2.at_ (i := 2) rfl
      have e0 := hB2.frozen 0
      have e1 := hB2.frozen 1
      have e2 := hB2.frozen 2
      go_wp2_with fail
      refine bodyPost_ret (v := .tuple #[.agg #[.int .i64 k1, .int .i64 n1, .slice A1 ks1.length c1], .bool true]) (by simp [results, Try.results111, go_sem, d0, d1, d2]) rfl ?_
      rw [h5'.out]
      exact ⟨((hb.setCell (by simp) _).setCell (by simp) _).setCell (by simp) _, A1, c1, rfl, hl1, hr1⟩
end Go.Proofs.Ytefifcmieicnlaa
