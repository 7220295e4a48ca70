/-
  Texts that are common to the laws: At, TermAt, Paths, Put. No condition.
-/
import Derived.Test.YtodkenpmhhbppaaK3
import Derived.Test.YtodkenpmhhbppaaK4
import Derived.Test.YtodkenpmhhbppaaK7
import Derived.Test.YtodkenpmhhbppaaK12
import Derived.Test.YtodkenpmhhbppaaK17
import Derived.Test.YtodkenpmhhbppaaK26
import Derived.Test.YtodkenpmhhbppaaK27
import Derived.Test.YtodkenpmhhbppaaK29
import Derived.WalkSpells
import Derived.WalkLawsBesides

namespace Go.Proofs.Ytodkenpmhhbppaa
open Go.RowKit
set_option linter.unusedSimpArgs false
set_option linter.unusedVariables false

/-- integers that can be read -/
def RdI (w : World) (A : Option Addr) (xs : List Int) : Prop := ∀ j (hj : j < xs.length), ∃ b off, A = some ⟨b, off, none⟩ ∧ w.cell? ⟨b, off + j, none⟩ = some (.int .i64 xs[j])
theorem RdI.keeps {w w' : World} {A : Option Addr} {xs : List Int} (h : RdI w A xs) (hk : Keeps w w') : RdI w' A xs := fun j hj => by
  obtain ⟨b, off, hA, hc⟩ := h j hj; exact ⟨b, off, hA, hk _ _ hc⟩
theorem RdI.below {w w' : World} {A : Option Addr} {xs : List Int} (h : RdI w A xs) (hb : Below w.heap.size w w') : RdI w' A xs := h.keeps (.of_below hb)
theorem RdI.alloc {w : World} {A : Option Addr} {xs : List Int} (h : RdI w A xs) (o : Obj) : RdI (w.alloc o) A xs := h.keeps (.alloc w o)

/-- the place in a term to which a path leads -/
def atT : Tm → List Int → Option Tm
  | t, [] => some t
  | t, i :: is => if 0 ≤ i ∧ i < t.kids.length then atT (t.kids.getD i.toNat default) is else none
theorem atT_append : ∀ (xs ys : List Int) (t : Tm), atT t (xs ++ ys) = (atT t xs).bind (atT · ys)
  | [], ys, t => rfl
  | i :: is, ys, t => by
    rw [List.cons_append, atT, atT]
    split
    · exact atT_append is ys _
    · rfl
theorem atT_take {t u : Tm} {xs : List Int} {j : Nat} (hj : j < xs.length) (h : atT t (xs.take j) = some u) : atT t (xs.take (j + 1)) = if 0 ≤ xs[j] ∧ xs[j] < u.kids.length then some (u.kids.getD xs[j].toNat default) else none := by
  rw [List.take_succ_eq_append_getElem hj, atT_append, h, Option.bind_some, atT]
  split <;> rfl
theorem atT_none {t : Tm} {xs : List Int} {j : Nat} (h : atT t (xs.take j) = none) : atT t xs = none := by
  rw [← List.take_append_drop j xs, atT_append, h]; rfl
theorem atT_valid {u : Tm} : ∀ {xs : List Int} {t : Tm}, atT t xs = some u → validT t = true → validT u = true
  | [], t, h, hv => by cases h; exact hv
  | i :: is, t, h, hv => by
    rw [atT] at h
    split at h
    · rename_i hh
      obtain ⟨k, n, ks⟩ := t
      refine atT_valid h ?_
      have hlt : i.toNat < ks.length := by have := hh.2; simp only [Tm.kids] at this; omega
      rw [show (Tm.mk k n ks).kids = ks from rfl, List.getD_eq_getElem?_getD, List.getElem?_eq_getElem hlt, Option.getD_some]
      exact validT_kid hv (List.getElem_mem _)
    · cases h

/-- a term somewhere, and whether there is one -/
def SeenO (w : World) (o : Option Tm) (e : Ending) (w' : World) : Prop :=
  Below w.heap.size w w' ∧ match o with
  | none => e = .returned (.tuple #[.agg #[.int .i64 0, .int .i64 0, .slice none 0 0], .bool false])
  | some (.mk k n ks) => ∃ A c, e = .returned (.tuple #[.agg #[.int .i64 k, .int .i64 n, .slice A ks.length c], .bool true]) ∧ ks.length ≤ 9223372036854775807 ∧ Rd w A 0 ks

set_option maxHeartbeats 2000000 in
set_option maxRecDepth 100000 in
theorem sAt_any (k n : Int) (ks : List Tm) (A : Option Addr) (c : Nat) (xs : List Int) (P : Option Addr) (cp : Nat) (w : World) (hM : sizes ks ≤ 1000000000) (hx : xs.length ≤ 9223372036854775807) (hr : Rd w A 0 ks) (hi : RdI w P xs) :
    Calls Try.prog 148 #[.agg #[.int .i64 k, .int .i64 n, .slice A ks.length c], .slice P xs.length cp] w (SeenO w (atT (.mk k n ks) xs)) := by
  have hlen := length_le_sizes ks
  go_enter Try.func148, Try.ntmps148
  go_wp2_with fail
  go_loopw [6] (fun i wr => ∃ (j : Nat) (k1 n1 : Int) (ks1 : List Tm) (A1 : Option Addr) (c1 : Nat), j ≤ xs.length ∧ i = .int .i64 j ∧ Hid (atT (.mk k n ks) (xs.take j) = some (.mk k1 n1 ks1)) ∧ ks1.length ≤ 9223372036854775807 ∧ Rd w A1 0 ks1 ∧ Blk wr w.heap.size #[.int .i64 k1, .int .i64 n1, .slice A1 ks1.length c1] ∧ Blk wr (w.heap.size + 1) #[.int .i64 0, .int .i64 0, .slice none 0 0] ∧ Below w.heap.size w wr)
    (fun i _ => xs.length - (intOf i).toNat)
  case atStart => exact ⟨0, k, n, ks, A, c, Nat.zero_le _, rfl, hide rfl, by omega, hr, (Blk.new_ _ _ _ rfl).alloc _, Blk.new_ _ _ _ (by simp), ((Below.refl _ _).alloc (by simp) _).alloc (by simp) _⟩
  case round =>
    obtain ⟨j, k1, n1, ks1, A1, c1, hj, rfl, hat, hl1, hr1, hB1, hB2, hb⟩ := hrel
    by_cases hlt : j < xs.length
    · obtain ⟨b, off, rfl, hc⟩ := hi.below hb j hlt
      have hnx := hide (atT_take hlt hat.out)
      generalize hxj : xs[j] = x at hc hnx
      have hxj' := hide hxj
      clear hxj
      by_cases hin : 0 ≤ x ∧ x < ks1.length
      · obtain ⟨i, rfl⟩ : ∃ i : Nat, x = (i : Int) := ⟨x.toNat, by omega⟩
        have hik : i < ks1.length := by omega
        obtain ⟨b3, off3, k3, n3, ks3, A3, c3, rfl, hkj3, hd1, hd2, hd3, hl3, hr3⟩ := hr1.at_ hik
        have hst : atT (.mk k n ks) (xs.take (j + 1)) = some (.mk k3 n3 ks3) := by
          rw [hnx.out, if_pos (show 0 ≤ (i : Int) ∧ (i : Int) < (Tm.mk k1 n1 ks1).kids.length from hin), Int.toNat_natCast, show (Tm.mk k1 n1 ks1).kids = ks1 from rfl, List.getD_eq_getElem?_getD, List.getElem?_eq_getElem hik, Option.getD_some, hkj3]
        have hst' := hide hst
        have q1 : decide ((i : Int) < 0) = false := decide_eq_false (by omega)
        have q2 : decide ((ks1.length : Int) ≤ (i : Int)) = false := decide_eq_false (by omega)
        clear hkj3 hst hnx
        go_wp2_with fail
        have y0 := rule_of hc
        have y1 := hB1.rule (i := 2) rfl
        refine wp_region_firstY (fun w' => Below wr.heap.size wr w') [0, 1, 2, 3, 4, 5, 6, 7, 8, 9, 10, 11, 12, 13, 14] [] [] [_, _, _, _, _, _, _, _, _, _, _, _, _, _, _] [] [] (by kernel_rfl) (by kernel_rfl) rfl rfl rfl (fun _ _ d _ _ h => by cases d <;> exact h) (Below.refl _ _).drew ?_
        repeat (first | ((refine takeY_skip (a' := ?_) ?_ ?_ ?_); (rotate_left); (· (simp [Region.wanted, yielded]; done)); (· (simp only [List.getElem_toArray, List.getElem_cons_zero, List.getElem_cons_succ, Act.put, List.setIfInBounds_toArray, List.set_cons_zero, List.set_cons_succ]; exact rfl))) | ((refine takeY_step (v := ?_) (a' := ?_) ?_ ?_ ?_ ?_); (rotate_left 2); (· (simp [Region.wanted, yielded]; done)); (· (intro w' hS'; go_simp; try (with_reducible rfl))); (· (simp only [List.getElem_toArray, List.getElem_cons_zero, List.getElem_cons_succ, Act.put, List.setIfInBounds_toArray, List.set_cons_zero, List.set_cons_succ]; exact rfl))))
        refine takeY_nil (then_nil ?_)
        go_wp2_with fail
        have z2 := rule_of ((Keeps.of_below hb) _ _ hd1)
        have z3 := rule_of ((Keeps.of_below hb) _ _ hd2)
        have z4 := rule_of ((Keeps.of_below hb) _ _ hd3)
        refine wp_region_firstY (fun w' => Below wr.heap.size wr w') [0, 1, 2, 3, 4, 5, 6, 7] [] [8] [_, _, _, _, _, _, _, _] [] [_] (by kernel_rfl) (by kernel_rfl) rfl rfl rfl (fun _ _ d _ _ h => by cases d <;> exact h) (Below.refl _ _).drew.drew ?_
        repeat (first | ((refine takeY_skip (a' := ?_) ?_ ?_ ?_); (rotate_left); (· (simp [Region.wanted, yielded]; done)); (· (simp only [List.getElem_toArray, List.getElem_cons_zero, List.getElem_cons_succ, Act.put, List.setIfInBounds_toArray, List.set_cons_zero, List.set_cons_succ]; exact rfl))) | ((refine takeY_step (v := ?_) (a' := ?_) ?_ ?_ ?_ ?_); (rotate_left 2); (· (simp [Region.wanted, yielded]; done)); (· (intro w' hS'; go_simp; try (with_reducible rfl))); (· (simp only [List.getElem_toArray, List.getElem_cons_zero, List.getElem_cons_succ, Act.put, List.setIfInBounds_toArray, List.set_cons_zero, List.set_cons_succ]; exact rfl))))
        refine takeY_nil (then_nil ?_)
        clear y0 y1 z2 z3 z4
        have cc0 := hB1.drew.drew.at_ (i := 0) rfl
        have cc1 := hB1.drew.drew.at_ (i := 1) rfl
        have cc2 := hB1.drew.drew.at_ (i := 2) rfl
        have f0 := hB1.drew.drew.frozen 0
        have f1 := hB1.drew.drew.frozen 1
        have f2 := hB1.drew.drew.frozen 2
        have cc0' : wr.cell? ⟨w.heap.size, 0, none⟩ = some (.int .i64 k1) := hB1.at_ (i := 0) rfl
        have cc1' : wr.cell? ⟨w.heap.size, 1, none⟩ = some (.int .i64 n1) := hB1.at_ (i := 1) rfl
        have cc2' := hB1.at_ (i := 2) rfl
        have f0' := hB1.frozen 0
        have f1' := hB1.frozen 1
        have f2' := hB1.frozen 2
        go_wp2_with fail
        go_roundw
        case rel => exact ⟨j + 1, k3, n3, ks3, A3, c3, by omega, by go_num, hst', hl3, hr3, ((hB1.drew.drew.set_ 0 _).set_ 1 _).set_ 2 _, ((hB2.drew.drew.far (by simp) _).far (by simp) _).far (by simp) _, ((hb.drew.drew.setCell (by simp) _).setCell (by simp) _).setCell (by simp) _⟩
        case measure => simp [intOf]; omega
      · have hst : atT (.mk k n ks) (xs.take (j + 1)) = none := by rw [hnx.out, if_neg (show ¬ (0 ≤ x ∧ x < (Tm.mk k1 n1 ks1).kids.length) from hin)]
        have hno := hide (atT_none hst)
        have b2 := hB1.at_ (i := 2) rfl
        clear hst hnx
        cases qx : decide (x < 0) with
        | true =>
          go_wp2_with fail
          have y0 := rule_of hc
          have y1 := hB1.rule (i := 2) rfl
          refine wp_region_firstY (fun w' => Below wr.heap.size wr w') [0, 1, 2, 3, 4, 5, 6, 7, 8, 9, 10, 11, 12, 13, 14] [] [] [_, _, _, _, _, _, _, _, _, _, _, _, _, _, _] [] [] (by kernel_rfl) (by kernel_rfl) rfl rfl rfl (fun _ _ d _ _ h => by cases d <;> exact h) (Below.refl _ _).drew ?_
          repeat (first | ((refine takeY_skip (a' := ?_) ?_ ?_ ?_); (rotate_left); (· (simp [Region.wanted, yielded]; done)); (· (simp only [List.getElem_toArray, List.getElem_cons_zero, List.getElem_cons_succ, Act.put, List.setIfInBounds_toArray, List.set_cons_zero, List.set_cons_succ]; exact rfl))) | ((refine takeY_step (v := ?_) (a' := ?_) ?_ ?_ ?_ ?_); (rotate_left 2); (· (simp [Region.wanted, yielded]; done)); (· (intro w' hS'; go_simp; try (with_reducible rfl))); (· (simp only [List.getElem_toArray, List.getElem_cons_zero, List.getElem_cons_succ, Act.put, List.setIfInBounds_toArray, List.set_cons_zero, List.set_cons_succ]; exact rfl))))
          refine takeY_nil (then_nil ?_)
          clear y0 y1
          have d0 := hB2.drew.at_ (i := 0) rfl
          have d1 := hB2.drew.at_ (i := 1) rfl
          have d2 := hB2.drew.at_ (i := 2) rfl
          have e0 := hB2.drew.frozen 0
          have e1 := hB2.drew.frozen 1
          have e2 := hB2.drew.frozen 2
          have e0' := hB2.frozen 0
          have e1' := hB2.frozen 1
          have e2' := hB2.frozen 2
          have d0' : wr.cell? ⟨w.heap.size + 1, 0, none⟩ = some (.int .i64 0) := d0
          have d1' : wr.cell? ⟨w.heap.size + 1, 1, none⟩ = some (.int .i64 0) := d1
          have d2' : wr.cell? ⟨w.heap.size + 1, 2, none⟩ = some (.slice none 0 0) := d2
          go_wp2_with fail
          refine bodyPost_ret (v := .tuple #[.agg #[.int .i64 0, .int .i64 0, .slice none 0 0], .bool false]) (by simp [results, Try.results148, go_sem, d0', d1', d2']) rfl ?_
          rw [hno.out]
          exact ⟨((hb.drew.setCell (by simp) _).setCell (by simp) _).setCell (by simp) _, rfl⟩
        | false =>
          have qy : decide ((ks1.length : Int) ≤ x) = true := decide_eq_true (by have := of_decide_eq_false qx; by_cases h : (ks1.length : Int) ≤ x; (· exact h); (· exact absurd ⟨by omega, by omega⟩ hin))
          clear hin
          go_wp2_with fail
          have y0 := rule_of hc
          have y1 := hB1.rule (i := 2) rfl
          refine wp_region_firstY (fun w' => Below wr.heap.size wr w') [0, 1, 2, 3, 4, 5, 6, 7, 8, 9, 10, 11, 12, 13, 14] [] [] [_, _, _, _, _, _, _, _, _, _, _, _, _, _, _] [] [] (by kernel_rfl) (by kernel_rfl) rfl rfl rfl (fun _ _ d _ _ h => by cases d <;> exact h) (Below.refl _ _).drew ?_
          repeat (first | ((refine takeY_skip (a' := ?_) ?_ ?_ ?_); (rotate_left); (· (simp [Region.wanted, yielded]; done)); (· (simp only [List.getElem_toArray, List.getElem_cons_zero, List.getElem_cons_succ, Act.put, List.setIfInBounds_toArray, List.set_cons_zero, List.set_cons_succ]; exact rfl))) | ((refine takeY_step (v := ?_) (a' := ?_) ?_ ?_ ?_ ?_); (rotate_left 2); (· (simp [Region.wanted, yielded]; done)); (· (intro w' hS'; go_simp; try (with_reducible rfl))); (· (simp only [List.getElem_toArray, List.getElem_cons_zero, List.getElem_cons_succ, Act.put, List.setIfInBounds_toArray, List.set_cons_zero, List.set_cons_succ]; exact rfl))))
          refine takeY_nil (then_nil ?_)
          clear y0 y1
          have d0 := hB2.drew.at_ (i := 0) rfl
          have d1 := hB2.drew.at_ (i := 1) rfl
          have d2 := hB2.drew.at_ (i := 2) rfl
          have e0 := hB2.drew.frozen 0
          have e1 := hB2.drew.frozen 1
          have e2 := hB2.drew.frozen 2
          have e0' := hB2.frozen 0
          have e1' := hB2.frozen 1
          have e2' := hB2.frozen 2
          have d0' : wr.cell? ⟨w.heap.size + 1, 0, none⟩ = some (.int .i64 0) := d0
          have d1' : wr.cell? ⟨w.heap.size + 1, 1, none⟩ = some (.int .i64 0) := d1
          have d2' : wr.cell? ⟨w.heap.size + 1, 2, none⟩ = some (.slice none 0 0) := d2
          go_wp2_with fail
          refine bodyPost_ret (v := .tuple #[.agg #[.int .i64 0, .int .i64 0, .slice none 0 0], .bool false]) (by simp [results, Try.results148, go_sem, d0', d1', d2']) rfl ?_
          rw [hno.out]
          exact ⟨((hb.drew.setCell (by simp) _).setCell (by simp) _).setCell (by simp) _, rfl⟩
    · have hjl : j = xs.length := by omega
      subst hjl
      have h5 := hat.out
      rw [List.take_length] at h5
      have h5' := hide h5
      clear h5
      have cc0 := hB1.at_ (i := 0) rfl
      have cc1 := hB1.at_ (i := 1) rfl
      have cc2 := hB1.at_ (i := 2) rfl
      have d0 := hB2.at_ (i := 0) rfl
      have d1 := hB2.at_ (i := 1) rfl
      have d2 := hB2.at_ (i := 2) rfl
      have e0 := hB2.frozen 0
      have e1 := hB2.frozen 1
      have e2 := hB2.frozen 2
      go_wp2_with fail
      refine bodyPost_ret (v := .tuple #[.agg #[.int .i64 k1, .int .i64 n1, .slice A1 ks1.length c1], .bool true]) (by simp [results, Try.results148, go_sem, d0, d1, d2]) rfl ?_
      rw [h5'.out]
      exact ⟨((hb.setCell (by simp) _).setCell (by simp) _).setCell (by simp) _, A1, c1, rfl, hl1, hr1⟩
end Go.Proofs.Ytodkenpmhhbppaa

namespace Go.Proofs.Ytodkenpmhhbppaa
open Go.RowKit
set_option linter.unusedSimpArgs false
set_option linter.unusedVariables false

theorem seenO_none {w : World} {e : Ending} {w' : World} (h : SeenO w none e w') : e = .returned (.tuple #[.agg #[.int .i64 0, .int .i64 0, .slice none 0 0], .bool false]) ∧ Below w.heap.size w w' := ⟨h.2, h.1⟩
theorem seenO_some {w : World} {k n : Int} {ks : List Tm} {e : Ending} {w' : World} (h : SeenO w (some (.mk k n ks)) e w') :
    ∃ A c, e = .returned (.tuple #[.agg #[.int .i64 k, .int .i64 n, .slice A ks.length c], .bool true]) ∧ ks.length ≤ 9223372036854775807 ∧ Rd w A 0 ks ∧ Below w.heap.size w w' := by
  obtain ⟨hb, A, c, h1, h2, h3⟩ := h; exact ⟨A, c, h1, h2, h3, hb⟩
def termAt (t : Tm) (xs : List Int) : Option Tm := if validT t = true then atT t xs else none

set_option maxHeartbeats 2000000 in
set_option maxRecDepth 100000 in
theorem sTermAt_any (k n : Int) (ks : List Tm) (A : Option Addr) (c : Nat) (xs : List Int) (P : Option Addr) (cp : Nat) (w : World) (hM : sizes ks ≤ 1048576) (hx : xs.length ≤ 9223372036854775807) (hr : Rd w A 0 ks) (hi : RdI w P xs) :
    Calls Try.prog 125 #[.agg #[.int .i64 k, .int .i64 n, .slice A ks.length c], .slice P xs.length cp] w (GotO w (termAt (.mk k n ks) xs)) := by
  have hlen := length_le_sizes ks
  cases hv : validT (.mk k n ks) with
  | false =>
    have hz : termAt (.mk k n ks) xs = none := by rw [termAt, if_neg]; rw [hv]; exact Bool.false_ne_true
    rw [hz]
    clear hz
    go_enter Try.func125, Try.ntmps125
    go_wp2_with (go_at_call 60; refine (sTermValid_any k n ks A c _ (by omega) ((hr.alloc _).alloc _)).mono ?_; rw [hv]; rintro e w1 ⟨rfl, hb1⟩; have hB1 : Blk w1 w.heap.size #[.int .i64 k, .int .i64 n, .slice A ks.length c] := ((Blk.new_ w 25 #[.int .i64 k, .int .i64 n, .slice A ks.length c] rfl).alloc _).keep hb1; obtain ⟨p0, p1, p2⟩ := hB1.three; have hT1 : Blk w1 (w.heap.size + 1) #[.int .i64 0, .int .i64 0, .slice none 0 0] := (Blk.new_ _ 25 _ (by simp)).keep hb1; obtain ⟨d0, d1, d2⟩ := hT1.three; have e0 := hT1.frozen 0; have e1 := hT1.frozen 1; have e2 := hT1.frozen 2; replace hb1 : Below w.heap.size w w1 := (((Below.refl _ _).alloc (Nat.le_refl _) _).alloc (by simp) _).trans (hb1.mono (by simp; omega)))
    refine bodyPost_ret (v := .tuple #[zeroV, .bool false]) (by simp [results, Try.results125, go_sem, d0, d1, d2, zeroV]) rfl ⟨rfl, ?_⟩
    exact ((hb1.setCell (by simp) _).setCell (by simp) _).setCell (by simp) _
  | true =>
    cases hat : atT (.mk k n ks) xs with
    | none =>
      have hz : termAt (.mk k n ks) xs = none := by rw [termAt, if_pos hv, hat]
      rw [hz]
      have hat' := hide hat
      clear hz hat
      go_enter Try.func125, Try.ntmps125
      go_wp2_with (first
        | (go_at_call 148; refine (sAt_any k n ks A c xs P cp _ (by omega) hx (hr.below hb1) (hi.below hb1)).mono ?_; rw [hat'.out]; intro e w2 hgo; obtain ⟨he, hb2⟩ := seenO_none hgo; subst he; clear hgo; have hT2 := hT1.keep hb2; clear d0 d1 d2 p0 p1 p2; obtain ⟨d0, d1, d2⟩ := hT2.three; have f0 := hT2.frozen 0; have f1 := hT2.frozen 1; have f2 := hT2.frozen 2; have lT := hT2.lt; replace hb2 : Below w.heap.size w w2 := hb1.trans (hb2.mono hb1.size))
        | (go_at_call 60; refine (sTermValid_any k n ks A c _ (by omega) ((hr.alloc _).alloc _)).mono ?_; rw [hv]; rintro e w1 ⟨rfl, hb1⟩; have hB1 : Blk w1 w.heap.size #[.int .i64 k, .int .i64 n, .slice A ks.length c] := ((Blk.new_ w 25 #[.int .i64 k, .int .i64 n, .slice A ks.length c] rfl).alloc _).keep hb1; obtain ⟨p0, p1, p2⟩ := hB1.three; have hT1 : Blk w1 (w.heap.size + 1) #[.int .i64 0, .int .i64 0, .slice none 0 0] := (Blk.new_ _ 25 _ (by simp)).keep hb1; obtain ⟨d0, d1, d2⟩ := hT1.three; have e0 := hT1.frozen 0; have e1 := hT1.frozen 1; have e2 := hT1.frozen 2; replace hb1 : Below w.heap.size w w1 := (((Below.refl _ _).alloc (Nat.le_refl _) _).alloc (by simp) _).trans (hb1.mono (by simp; omega))))
      have y := fun (o : Obj) => (((((hT2.set_ 0 (.int .i64 0)).set_ 1 (.int .i64 0)).set_ 2 (.slice none 0 0)).alloc o : Blk _ _ #[.int .i64 0, .int .i64 0, .slice none 0 0])).three
      refine bodyPost_ret (v := .tuple #[zeroV, .bool false]) (by simp [results, Try.results125, go_sem, d0, d1, d2, zeroV, y]) rfl ⟨rfl, ?_⟩
      first
        | exact (((hb2.setCell (by simp) _).setCell (by simp) _).setCell (by simp) _).alloc (by have := hb2.size; simp; omega) _
        | exact ((((hb2.alloc hb2.size _)).setCell (by simp) _).setCell (by simp) _).setCell (by simp) _
    | some u =>
      obtain ⟨k2, n2, ks2⟩ := u
      have hvu := validT_size (atT_valid hat hv)
      rw [Tm.size] at hvu
      have hz : termAt (.mk k n ks) xs = some (.mk k2 n2 ks2) := by rw [termAt, if_pos hv, hat]
      rw [hz]
      have hat' := hide hat
      clear hz hat
      go_enter Try.func125, Try.ntmps125
      go_wp2_with (first
        | (go_at_call 99; refine (sCopy_any (sizes ks2 + 1) k2 n2 ks2 A2 c2 _ (by omega) (by omega) ((hr2.below hb12).alloc _)).mono ?_; rintro e w3 ⟨A3, c3, rfl, hl3, hf3, hb3⟩; have hT3 := (hT2.alloc _).keep hb3; clear d0 d1 d2; obtain ⟨d0, d1, d2⟩ := hT3.three; have f0 := hT3.frozen 0; have f1 := hT3.frozen 1; have f2 := hT3.frozen 2; replace hf3 := hf3.mono (B' := w.heap.size + 2) (by have := hT2.lt; simp; omega); replace hb3 : Below w.heap.size w w3 := (hb2.alloc hb2.size _).trans (hb3.mono (by have := hb2.size; simp; omega)))
        | (go_at_call 148; refine (sAt_any k n ks A c xs P cp _ (by omega) hx (hr.below hb1) (hi.below hb1)).mono ?_; rw [hat'.out]; intro e w2 hgo; obtain ⟨A2, c2, rfl, hl2, hr2, hb2⟩ := seenO_some hgo; clear hgo; have hb12 := hb2; have hT2 := hT1.keep hb2; clear d0 d1 d2 p0 p1 p2; obtain ⟨d0, d1, d2⟩ := hT2.three; replace hb2 : Below w.heap.size w w2 := hb1.trans (hb2.mono hb1.size))
        | (go_at_call 60; refine (sTermValid_any k n ks A c _ (by omega) ((hr.alloc _).alloc _)).mono ?_; rw [hv]; rintro e w1 ⟨rfl, hb1⟩; have hB1 : Blk w1 w.heap.size #[.int .i64 k, .int .i64 n, .slice A ks.length c] := ((Blk.new_ w 25 #[.int .i64 k, .int .i64 n, .slice A ks.length c] rfl).alloc _).keep hb1; obtain ⟨p0, p1, p2⟩ := hB1.three; have hT1 : Blk w1 (w.heap.size + 1) #[.int .i64 0, .int .i64 0, .slice none 0 0] := (Blk.new_ _ 25 _ (by simp)).keep hb1; obtain ⟨d0, d1, d2⟩ := hT1.three; have e0 := hT1.frozen 0; have e1 := hT1.frozen 1; have e2 := hT1.frozen 2; replace hb1 : Below w.heap.size w w1 := (((Below.refl _ _).alloc (Nat.le_refl _) _).alloc (by simp) _).trans (hb1.mono (by simp; omega))))
      refine bodyPost_ret (v := .tuple #[.agg #[.int .i64 k2, .int .i64 n2, .slice A3 ks2.length c3], .bool true]) (by simp [results, Try.results125, go_sem, d0, d1, d2]) rfl ⟨A3, c3, rfl, hl3, ?_, ?_⟩
      · exact (((hf3.setCell (by simp) _).setCell (by simp) _).setCell (by simp) _).mono (by omega)
      · exact ((hb3.setCell (by simp) _).setCell (by simp) _).setCell (by simp) _

end Go.Proofs.Ytodkenpmhhbppaa

namespace Go.Proofs.Ytodkenpmhhbppaa
open Go.RowKit
set_option linter.unusedSimpArgs false
set_option linter.unusedVariables false

theorem int_info3 : (Try.prog.info? 3).map (fun i => (i.zero, i.size, i.bytes)) = some (some (.int .i64 0), 1, 8) := by kernel_rfl
/-- a slice of integers in a row of its own, which may grow -/
def RowI (B : Nat) (w : World) (v : Value) (xs : List Int) : Prop := w.ownsRow B 3 1 v xs.length (xs.map (Value.int .i64))
theorem RowI.keep {B : Nat} {w w' : World} {v : Value} {xs : List Int} (h : RowI B w v xs) (hk : ∀ b, B ≤ b → b < w.heap.size → w'.heap[b]? = w.heap[b]?) : RowI B w' v xs := by
  refine ⟨h.1, ?_⟩
  rcases h.2 with hn | ⟨g, cap, cur, rfl, hb, hg, r⟩
  · exact .inl hn
  · exact .inr ⟨g, cap, cur, rfl, hb, (hk g hb (Array.getElem?_eq_some_iff.1 hg).1).trans hg, r⟩
theorem RowI.below {B : Nat} {w w' : World} {v : Value} {xs : List Int} (h : RowI B w v xs) (hb : Below w.heap.size w w') : RowI B w' v xs := h.keep fun b _ hl => hb.block b hl
theorem RowI.form {B : Nat} {w : World} {v : Value} {xs : List Int} (h : RowI B w v xs) : ∃ A c, v = .slice A xs.length c ∧ RdI w A xs := by
  rcases h.2 with ⟨rfl, h0⟩ | ⟨g, cap, cur, rfl, hb, hg, hn, hm, hs, htk⟩
  · have : xs = [] := List.eq_nil_of_length_eq_zero h0
    subst this
    exact ⟨none, 0, rfl, fun j hj => absurd hj (Nat.not_lt_zero _)⟩
  · refine ⟨some ⟨g, 0, none⟩, cap, rfl, fun j hj => ⟨g, 0, rfl, ?_⟩⟩
    rw [Nat.zero_add, cell_of_row w g j cur 3 (0, 0) hg]
    have h1 : (cur.toList.take (xs.length * 1))[j]? = (xs.map (Value.int .i64))[j]? := by rw [htk]
    rw [Nat.mul_one, List.getElem?_take, if_pos hj, List.getElem?_map, List.getElem?_eq_getElem hj] at h1
    simpa using h1
set_option maxHeartbeats 2000000 in
set_option maxRecDepth 100000 in
theorem wpList_append_ints {B : Nat} {w : World} {v : Value} {xs ys : List Int} {ad : Addr} {c : Nat} (hp : RowI B w v xs) (hB : B ≤ w.heap.size) (hm : xs.length + ys.length ≤ 1099511627776)
    (hc : ∀ j (hj : j < ys.length), w.cell? (ad.add j) = some (.int .i64 ys[j]))
    {ops : Array Oper} {rest : List Oper} {o : Oper} {a : Act} {Q : Exit → Act → World → Prop} (hgd : o.guard = none) (s x : Operand)
    (ho : o.op = .call { callee := .builtin .append, args := #[s, x], argTypes := #[73, 73] }) (hs : a.eval s = v) (hx : a.eval x = .slice (some ad) ys.length c)
    (h : ∀ v' w', RowI B w' v' (xs ++ ys) → Below B w w' → w.grownBy w' v.ownBlock → wpList Try.prog ops Q rest (a.put o.dst v') w') :
    wpList Try.prog ops Q (o :: rest) a w := by
  refine wpList_plain hgd fun K hK => ?_
  obtain ⟨i, hi, hz, hz1, hz2⟩ := info_parts int_info3
  have hge : ∀ g, v.ownBlock = some g → B ≤ g := fun g hg => (hp.lt g hg).1
  obtain ⟨v', w', hrun, hown, hg, _, hat⟩ := run_append_own_at (P := Try.prog) w B 73 o.type 3 i _ 1 8 Try.underlying73 hi hz hz1 hz2 rfl (by omega) v xs.length _ hp ad ys.length c (ys.map (Value.int .i64)) (by simp) (by
    intro j u hj
    rw [List.getElem?_map] at hj
    cases hy : ys[j]? with
    | none => rw [hy] at hj; cases hj
    | some y =>
      rw [hy] at hj
      obtain ⟨hjl, rfl⟩ := List.getElem?_eq_some_iff.1 hy
      injection hj with hj
      rw [← hj]; exact hc j hjl) (by
    intro u hu
    obtain ⟨y, _, rfl⟩ := List.mem_map.1 hu
    rfl) (by simp only [maxLen]; omega) (by omega) (by omega)
  unfold Oper.wp execOp
  simp only [ho, resolve, invoke, builtin, Sem.run_bind, Sem.run_pure, Result.andThen_ok, List.map_toArray, List.map_cons, List.map_nil, hs, hx, hrun]
  refine hK _ _ (h v' w' ?_ ?_ hg)
  · unfold RowI; rw [List.length_append, List.map_append]; exact hown
  · exact ⟨hg.os, hg.tape, hg.output, hg.size, fun k hk => hg.block k (by omega) (fun e => by have := hge k e.symm; omega)⟩
theorem RowI.empty (w : World) {B : Nat} (hB : B ≤ w.heap.size) : RowI B (w.alloc (.cells #[] 3)) (.slice (some ⟨w.heap.size, 0, none⟩) 0 0) [] :=
  ⟨rfl, .inr ⟨w.heap.size, 0, #[], rfl, hB, heap_alloc_new w _, Nat.le_refl _, by simp [maxLen], rfl, rfl⟩⟩
/-- a slice of paths that can be read -/
def RdPs (w : World) (A : Option Addr) (ps : List (List Int)) : Prop := ∀ j (hj : j < ps.length), ∃ b off B c, A = some ⟨b, off, none⟩ ∧ w.cell? ⟨b, off + j, none⟩ = some (.slice B ps[j].length c) ∧ RdI w B ps[j] ∧ ps[j].length ≤ c
theorem RdPs.keeps {w w' : World} {A : Option Addr} {ps : List (List Int)} (h : RdPs w A ps) (hk : Keeps w w') : RdPs w' A ps := fun j hj => by
  obtain ⟨b, off, B, c, hA, hc, hi, hcl⟩ := h j hj; exact ⟨b, off, B, c, hA, hk _ _ hc, hi.keeps hk, hcl⟩
theorem RdPs.below {w w' : World} {A : Option Addr} {ps : List (List Int)} (h : RdPs w A ps) (hb : Below w.heap.size w w') : RdPs w' A ps := h.keeps (.of_below hb)
/-- a slice of paths in a row of its own, which may grow; the paths lie in other blocks -/
def RowP (B : Nat) (w : World) (v : Value) (ps : List (List Int)) : Prop :=
  ∃ vs : List Value, w.ownsRow B 73 1 v ps.length vs ∧ ∀ j (hj : j < ps.length), ∃ A c, vs[j]? = some (.slice A ps[j].length c) ∧ RdI w A ps[j] ∧ ps[j].length ≤ c ∧ ∀ a, A = some a → B ≤ a.block ∧ v.ownBlock ≠ some a.block ∧ a.block < w.heap.size
theorem RowP.nil {B : Nat} {w : World} : RowP B w (.slice none 0 0) [] := ⟨[], World.ownsRow_nil _ _ _ _, fun j hj => absurd hj (Nat.not_lt_zero _)⟩
theorem RowP.below {B : Nat} {w w' : World} {v : Value} {ps : List (List Int)} (h : RowP B w v ps) (hb : Below w.heap.size w w') : RowP B w' v ps := by
  obtain ⟨vs, h1, h2⟩ := h
  refine ⟨vs, ⟨h1.1, ?_⟩, fun j hj => ?_⟩
  · rcases h1.2 with hn | ⟨g, cap, cur, rfl, hB, hg, r⟩
    · exact .inl hn
    · exact .inr ⟨g, cap, cur, rfl, hB, (hb.block g (Array.getElem?_eq_some_iff.1 hg).1).trans hg, r⟩
  · obtain ⟨A, c, e, hi, hcl, hne⟩ := h2 j hj
    exact ⟨A, c, e, hi.below hb, hcl, fun a ha => ⟨(hne a ha).1, (hne a ha).2.1, Nat.lt_of_lt_of_le (hne a ha).2.2 hb.size⟩⟩
theorem RowP.form {B : Nat} {w : World} {v : Value} {ps : List (List Int)} (h : RowP B w v ps) : ∃ A c, v = .slice A ps.length c ∧ RdPs w A ps := by
  obtain ⟨vs, h1, h2⟩ := h
  rcases h1.2 with ⟨rfl, h0⟩ | ⟨g, cap, cur, rfl, hb, hg, hn, hm, hs, htk⟩
  · have : ps = [] := List.eq_nil_of_length_eq_zero h0
    subst this
    exact ⟨none, 0, rfl, fun j hj => absurd hj (Nat.not_lt_zero _)⟩
  · refine ⟨some ⟨g, 0, none⟩, cap, rfl, fun j hj => ?_⟩
    obtain ⟨A, c, e, hi, hcl, _⟩ := h2 j hj
    refine ⟨g, 0, A, c, rfl, ?_, hi, hcl⟩
    rw [Nat.zero_add, cell_of_row w g j cur 73 (0, 0) hg]
    rw [← htk, Nat.mul_one, List.getElem?_take, if_pos hj] at e
    simpa using e
theorem RdI.grown {w w' : World} {A : Option Addr} {xs : List Int} {row : Option Nat} (h : RdI w A xs) (hg : w.grownBy w' row) (hne : ∀ a, A = some a → row ≠ some a.block) : RdI w' A xs := fun j hj => by
  obtain ⟨b, off, hA, hc⟩ := h j hj
  refine ⟨b, off, hA, ?_⟩
  have hl := World.block_lt_of_cell? _ _ hc
  have hb := hg.block b hl (fun e => hne _ hA e.symm)
  have : w'.cell? ⟨b, off + j, none⟩ = w.cell? ⟨b, off + j, none⟩ := by simp only [World.cell?, hb]
  rw [this]; exact hc
theorem path_info : (Try.prog.info? 73).map (fun i => (i.zero, i.size, i.bytes)) = some (some (.slice none 0 0), 1, 24) := by kernel_rfl
set_option maxHeartbeats 1000000 in
set_option maxRecDepth 100000 in
/-- append of paths that can be read at an address -/
theorem run_append_paths {B : Nat} {w : World} {v : Value} {ps qs : List (List Int)} {ad : Addr} {c : Nat} (ty : TypeId) (hp : RowP B w v ps) (hB : B ≤ w.heap.size) (hm : ps.length + qs.length ≤ 1099511627776)
    (hc : ∀ j (hj : j < qs.length), ∃ A c, w.cell? (ad.add j) = some (.slice A qs[j].length c) ∧ RdI w A qs[j] ∧ qs[j].length ≤ c ∧ ∀ a, A = some a → B ≤ a.block ∧ v.ownBlock ≠ some a.block ∧ a.block < w.heap.size) :
    ∃ v' w', (Builtin.append_ #[82, 82] ty #[v, .slice (some ad) qs.length c]).run Try.prog w = .ok v' w' ∧ RowP B w' v' (ps ++ qs) ∧ Below B w w' ∧ w.grownBy w' v.ownBlock ∧ (v'.ownBlock = v.ownBlock ∨ v'.ownBlock = some w.heap.size) := by
  obtain ⟨i, hi, hz, hz1, hz2⟩ := info_parts path_info
  obtain ⟨vs, h1, h2⟩ := hp
  have hge : ∀ g, v.ownBlock = some g → B ≤ g := fun g hg => (h1.lt g hg).1
  let news : List Value := (List.range qs.length).map fun j => (w.cell? (ad.add j)).getD (.slice none 0 0)
  have hnl : news.length = qs.length := by simp [news]
  have hnj : ∀ j (hj : j < qs.length), ∃ A c, news[j]? = some (.slice A qs[j].length c) ∧ RdI w A qs[j] ∧ qs[j].length ≤ c ∧ ∀ a, A = some a → B ≤ a.block ∧ v.ownBlock ≠ some a.block ∧ a.block < w.heap.size := fun j hj => by
    obtain ⟨A, c, e, r⟩ := hc j hj
    exact ⟨A, c, by simp [news, List.getElem?_map, hj, e], r⟩
  obtain ⟨v', w', hrun, hown, hg, _, hat⟩ := run_append_own_at (P := Try.prog) w B 82 ty 73 i _ 1 24 Try.underlying82 hi hz hz1 hz2 rfl (by omega) v ps.length vs h1 ad qs.length c news (by rw [hnl, Nat.mul_one]) (by
    intro j u hj
    have hjl : j < qs.length := by have := (List.getElem?_eq_some_iff.1 hj).1; omega
    obtain ⟨A, c, e, _⟩ := hc j hjl
    have : news[j]? = some (.slice A qs[j].length c) := by simp [news, List.getElem?_map, hjl, e]
    rw [this] at hj
    injection hj with hj
    rw [← hj]; exact e) (by
    intro u hu
    obtain ⟨j, hj, rfl⟩ := List.getElem_of_mem hu
    obtain ⟨A, c, e, _⟩ := hnj j (by omega)
    rw [List.getElem?_eq_getElem hj] at e
    injection e with e
    rw [e]; rfl) (by simp only [maxLen]; omega) (by omega) hB
  have hsz := hg.size
  refine ⟨v', w', hrun, ⟨vs ++ news, by rw [List.length_append]; exact hown, fun j hj => ?_⟩, ⟨hg.os, hg.tape, hg.output, hg.size, fun k hk => hg.block k (by omega) (fun e => by have := hge k e.symm; omega)⟩, hg, hat⟩
  have hvl : vs.length = ps.length := by have := h1.1; omega
  have new : ∀ a : Addr, B ≤ a.block ∧ v.ownBlock ≠ some a.block ∧ a.block < w.heap.size → B ≤ a.block ∧ v'.ownBlock ≠ some a.block ∧ a.block < w'.heap.size := fun a ha => ⟨ha.1, by
    rcases hat with e | e
    · rw [e]; exact ha.2.1
    · rw [e]; intro h; injection h with h; omega, by omega⟩
  by_cases hjp : j < ps.length
  · obtain ⟨A, c, e, r, hcl, hne⟩ := h2 j hjp
    rw [List.getElem?_append_left (by omega), List.getElem_append_left hjp]
    exact ⟨A, c, e, r.grown hg fun a ha => (hne a ha).2.1, hcl, fun a ha => new a (hne a ha)⟩
  · rw [List.length_append] at hj
    obtain ⟨A, c, e, r, hcl, hne⟩ := hnj (j - ps.length) (by omega)
    rw [List.getElem?_append_right (by omega), List.getElem_append_right (by omega), hvl]
    exact ⟨A, c, e, r.grown hg fun a ha => (hne a ha).2.1, hcl, fun a ha => new a (hne a ha)⟩
theorem RowP.mono {B B' : Nat} {w : World} {v : Value} {ps : List (List Int)} (h : RowP B w v ps) (hB : B' ≤ B) : RowP B' w v ps := by
  obtain ⟨vs, h1, h2⟩ := h
  refine ⟨vs, ⟨h1.1, ?_⟩, fun j hj => ?_⟩
  · rcases h1.2 with hn | ⟨g, cap, cur, rfl, hb, hg, r⟩
    · exact .inl hn
    · exact .inr ⟨g, cap, cur, rfl, by omega, hg, r⟩
  · obtain ⟨A, c, e, r, hcl, hne⟩ := h2 j hj
    exact ⟨A, c, e, r, hcl, fun a ha => ⟨by have := (hne a ha).1; omega, (hne a ha).2⟩⟩
theorem RowI.mono {B B' : Nat} {w : World} {v : Value} {xs : List Int} (h : RowI B w v xs) (hB : B' ≤ B) : RowI B' w v xs := by
  refine ⟨h.1, ?_⟩
  rcases h.2 with hn | ⟨g, cap, cur, rfl, hb, hg, r⟩
  · exact .inl hn
  · exact .inr ⟨g, cap, cur, rfl, by omega, hg, r⟩
theorem RowI.alloc {B : Nat} {w : World} {v : Value} {xs : List Int} (h : RowI B w v xs) (o : Obj) : RowI B (w.alloc o) v xs := h.keep fun b _ hl => Below.heap_alloc w o b hl
theorem RowP.alloc {B : Nat} {w : World} {v : Value} {ps : List (List Int)} (h : RowP B w v ps) (o : Obj) : RowP B (w.alloc o) v ps := h.below ((Below.refl _ _).alloc (Nat.le_refl _) _)
theorem RdI.alloc' {w : World} {A : Option Addr} {xs : List Int} (h : RdI w A xs) (o : Obj) : RdI (w.alloc o) A xs := h.keeps (.alloc w o)
/-- the shape, and where it lies -/
theorem RowI.form2 {B : Nat} {w : World} {v : Value} {xs : List Int} (h : RowI B w v xs) : ∃ A c, v = .slice A xs.length c ∧ RdI w A xs ∧ ∀ a, A = some a → B ≤ a.block ∧ a.block < w.heap.size := by
  obtain ⟨A, c, rfl, hi⟩ := h.form
  refine ⟨A, c, rfl, hi, fun a ha => ?_⟩
  subst ha
  have h3 := h.lt a.block rfl
  exact h3
mutual
/-- the paths to the nodes that meet a test, the root first -/
def plT (f : Tm → Bool) : List Int → Tm → List (List Int) | p, .mk k n ks => (if f (.mk k n ks) = true then [p] else []) ++ plL f p 0 ks
def plL (f : Tm → Bool) : List Int → Nat → List Tm → List (List Int) | _, _, [] => [] | p, i, t :: ts => plT f (p ++ [(i : Int)]) t ++ plL f p (i + 1) ts
end
theorem pl_heads (f : Tm → Bool) (t : Tm) : ∀ p x, x ∈ plT f p t → ∃ q, x = p ++ q := by
  refine Tm.rec (motive_1 := fun t => ∀ p x, x ∈ plT f p t → ∃ q, x = p ++ q)
    (motive_2 := fun ts => ∀ p i x, x ∈ plL f p i ts → ∃ (j : Nat) (q : List Int), i ≤ j ∧ x = p ++ (j : Int) :: q) ?_ ?_ ?_ t
  · intro k n ks ih p x hx
    rw [plT] at hx
    rcases List.mem_append.1 hx with hx | hx
    · split at hx
      · rw [List.mem_singleton] at hx; exact ⟨[], by rw [hx, List.append_nil]⟩
      · cases hx
    · obtain ⟨j, q, _, rfl⟩ := ih p 0 x hx; exact ⟨_, rfl⟩
  · intro p i x hx; rw [plL] at hx; cases hx
  · intro t ts h1 h2 p i x hx
    rw [plL] at hx
    rcases List.mem_append.1 hx with hx | hx
    · obtain ⟨q, rfl⟩ := h1 _ x hx; exact ⟨i, q, Nat.le_refl _, by rw [List.append_assoc]; rfl⟩
    · obtain ⟨j, q, hj, rfl⟩ := h2 p (i + 1) x hx; exact ⟨j, q, by omega, rfl⟩
theorem pl_heads2 (f : Tm → Bool) : ∀ (ts : List Tm) p i x, x ∈ plL f p i ts → ∃ (j : Nat) (q : List Int), i ≤ j ∧ x = p ++ (j : Int) :: q
  | [], p, i, x, hx => by rw [plL] at hx; cases hx
  | t :: ts, p, i, x, hx => by
    rw [plL] at hx
    rcases List.mem_append.1 hx with hx | hx
    · obtain ⟨q, rfl⟩ := pl_heads f t _ x hx; exact ⟨i, q, Nat.le_refl _, by rw [List.append_assoc]; rfl⟩
    · obtain ⟨j, q, hj, rfl⟩ := pl_heads2 f ts p (i + 1) x hx; exact ⟨j, q, by omega, rfl⟩
def allT : Tm → Bool := fun _ => true
theorem pl_length (t : Tm) : ∀ p, (plT allT p t).length = t.size := by
  refine Tm.rec (motive_1 := fun t => ∀ p, (plT allT p t).length = t.size) (motive_2 := fun ts => ∀ p i, (plL allT p i ts).length = sizes ts) ?_ ?_ ?_ t
  · intro k n ks ih p; rw [plT, if_pos (show allT (.mk k n ks) = true from rfl), List.length_append, ih, Tm.size, List.length_singleton]; omega
  · intro p i; rfl
  · intro t ts h1 h2 p i; rw [plL, List.length_append, h1, h2, sizes]
theorem int_cons_ne {p : List Int} {i j : Nat} {q r : List Int} (h : p ++ (i : Int) :: q = p ++ (j : Int) :: r) : i = j := by
  have := List.append_cancel_left h
  injection this with h1 h2
  omega
theorem plL_append (f : Tm → Bool) (p : List Int) (us : List Tm) : ∀ (ts : List Tm) (i : Nat), plL f p i (ts ++ us) = plL f p i ts ++ plL f p (i + ts.length) us
  | [], i => by simp [plL]
  | t :: ts, i => by rw [List.cons_append, plL, plL, plL_append f p us ts (i + 1), List.append_assoc, List.length_cons, show i + 1 + ts.length = i + (ts.length + 1) from by omega]
theorem plL_take (f : Tm → Bool) (p : List Int) {ks : List Tm} {j : Nat} (hj : j < ks.length) : plL f p 0 (ks.take (j + 1)) = plL f p 0 (ks.take j) ++ plT f (p ++ [(j : Int)]) ks[j] := by
  rw [List.take_succ_eq_append_getElem hj, plL_append, List.length_take, Nat.min_eq_left (Nat.le_of_lt hj), Nat.zero_add, plL, plL, List.append_nil]
theorem plT_le (f : Tm → Bool) (t : Tm) : ∀ p, (plT f p t).length ≤ t.size := by
  refine Tm.rec (motive_1 := fun t => ∀ p, (plT f p t).length ≤ t.size) (motive_2 := fun ts => ∀ p i, (plL f p i ts).length ≤ sizes ts) ?_ ?_ ?_ t
  · intro k n ks ih p; rw [plT, List.length_append, Tm.size]; have := ih p 0; split <;> simp <;> omega
  · intro p i; simp [plL]
  · intro t ts h1 h2 p i; rw [plL, List.length_append, sizes]; have := h1 (p ++ [(i : Int)]); have := h2 p (i + 1); omega
theorem plL_le (f : Tm → Bool) : ∀ (ts : List Tm) p i, (plL f p i ts).length ≤ sizes ts
  | [], p, i => by simp [plL]
  | t :: ts, p, i => by rw [plL, List.length_append, sizes]; have := plT_le f t (p ++ [(i : Int)]); have := plL_le f ts p (i + 1); omega

end Go.Proofs.Ytodkenpmhhbppaa

namespace Go.Proofs.Ytodkenpmhhbppaa
open Go.RowKit
set_option linter.unusedSimpArgs false
set_option linter.unusedVariables false

/-- the term with another part at the end of a path -/
def putT : Tm → List Int → Tm → Tm
  | _, [], u => u
  | .mk k n ks, i :: is, u => .mk k n (ks.set i.toNat (putT (ks.getD i.toNat default) is u))
theorem sizes_put {ks : List Tm} {i : Nat} {t : Tm} : sizes (ks.set i t) ≤ sizes ks + t.size := by
  induction ks generalizing i with
  | nil => simp [sizes]
  | cons a ts ih =>
    cases i with
    | zero => rw [List.set_cons_zero, sizes, sizes]; omega
    | succ i => rw [List.set_cons_succ, sizes, sizes]; have := ih (i := i); omega
theorem sizes_set_lt {ks : List Tm} {i : Nat} (hi : i < ks.length) {t : Tm} : sizes (ks.set i t) + ks[i].size = sizes ks + t.size := by
  induction ks generalizing i with
  | nil => simp at hi
  | cons a ts ih =>
    cases i with
    | zero => rw [List.set_cons_zero, sizes, sizes, List.getElem_cons_zero]; omega
    | succ i => rw [List.set_cons_succ, sizes, sizes, List.getElem_cons_succ]; have := ih (i := i) (by simpa using hi); omega
theorem putT_size {u u0 : Tm} : ∀ {xs : List Int} {t : Tm}, atT t xs = some u0 → (putT t xs u).size ≤ t.size + u.size
  | [], t, _ => by rw [putT]; omega
  | i :: is, .mk k n ks, h => by
    rw [atT] at h
    split at h
    · rename_i hh
      have hlt : i.toNat < ks.length := by have := hh.2; simp only [Tm.kids] at this; omega
      rw [show (Tm.mk k n ks).kids = ks from rfl] at h
      have h1 := putT_size h (u := u)
      have h2 := sizes_set_lt hlt (t := putT (ks.getD i.toNat default) is u)
      have e : ks.getD i.toNat default = ks[i.toNat] := by simp [List.getD, List.getElem?_eq_getElem hlt]
      rw [e] at h1 h2
      rw [putT, Tm.size, Tm.size, e]
      omega
    · cases h
/-- a term that can be read -/
def GotQ (p : Nat → Prop) (w : World) (t : Tm) (e : Ending) (w' : World) : Prop :=
  ∃ A c, e = .returned (.agg #[.int .i64 t.k, .int .i64 t.n, .slice A t.ks.length c]) ∧ t.ks.length ≤ 9223372036854775807 ∧ RdP (fun b => p b ∨ w.heap.size ≤ b) w' A 0 t.ks ∧ Below w.heap.size w w'
theorem gotQ_mk {p : Nat → Prop} {w : World} {k n : Int} {ks : List Tm} {e : Ending} {w' : World} (h : GotQ p w (.mk k n ks) e w') : ∃ A c, e = .returned (.agg #[.int .i64 k, .int .i64 n, .slice A ks.length c]) ∧ ks.length ≤ 9223372036854775807 ∧ RdP (fun b => p b ∨ w.heap.size ≤ b) w' A 0 ks ∧ Below w.heap.size w w' := h
theorem run_tail {b off cp : Nat} {is : List Int} {x : Int} {w0 : World} (hcp : is.length + 1 ≤ cp) (hi : RdI w0 (some ⟨b, off, none⟩) (x :: is)) :
    ∃ off', (∀ w, (Instr.sliceAt 73 (.slice (some ⟨b, off, none⟩) (is.length + 1) cp) (some (.int .i64 1)) none none).run Try.prog w = .ok (.slice (some ⟨b, off', none⟩) is.length (cp - 1)) w) ∧ RdI w0 (some ⟨b, off', none⟩) is := by
  have hu : Try.prog.underlying 73 = some (.slice (Try.prog.elem 73)) := by kernel_rfl
  have he : Try.prog.elem 73 = 3 := by kernel_rfl
  have hs : ∀ w, (sizeOf 3).run Try.prog w = .ok 1 w := fun w => by kernel_rfl
  refine ⟨if cp = 1 then off else off + 1, fun w => ?_, fun j hj => ?_⟩
  · rw [run_sliceAt_slice (t := 73) (h := hu), run_slice_l (t := 73) (ht := hu) (h0 := by omega) (h1 := by omega), he, hs]
    simp only [Result.andThen, sliced]
    by_cases h : cp = 1
    · simp [h]
    · simp [h, Addr.add]
  · obtain ⟨b1, off1, hA, hc⟩ := hi (j + 1) (by simpa using hj)
    injection hA with hA
    injection hA with e1 e2
    subst e1 e2
    refine ⟨_, _, rfl, ?_⟩
    rw [if_neg (by omega)]
    rw [show off + 1 + j = off + (j + 1) from by omega]
    simpa using hc
set_option maxHeartbeats 4000000 in
set_option maxRecDepth 100000 in
theorem sPut_any (p : Nat → Prop) (ku nu : Int) (us : List Tm) (hus : sizes us ≤ 1000000) : ∀ (xs : List Int) (k n : Int) (ks : List Tm) (A : Option Addr) (c : Nat) (P : Option Addr) (cp : Nat) (U : Option Addr) (cu : Nat) (w : World) (u0 : Tm), atT (.mk k n ks) xs = some u0 → xs.length ≤ cp → sizes ks ≤ 1000000 → Rd w A 0 ks → RdI w P xs → RdP p w U 0 us → (∀ b, p b → b < w.heap.size) →
    Calls Try.prog 126 #[.agg #[.int .i64 k, .int .i64 n, .slice A ks.length c], .slice P xs.length cp, .agg #[.int .i64 ku, .int .i64 nu, .slice U us.length cu]] w (GotQ p w (putT (.mk k n ks) xs (.mk ku nu us)))
  | [], k, n, ks, A, c, P, cp, U, cu, w, u0, h, hcp, hM, hr, hi, hru, hpw => by
    have hlu := length_le_sizes us
    rw [putT]
    go_enter Try.func126, Try.ntmps126
    go_wp2_with (go_at_call 99; refine (sCopy_any _ ku nu us U cu _ (Nat.lt_succ_self _) (by omega) (((hru.rd.alloc _).alloc _).alloc _)).mono ?_; rintro e w1 ⟨A1, c1, rfl, hl1, hf1, hb1⟩; have hZ : Blk w1 (w.heap.size + 1 + 1) #[.int .i64 0, .int .i64 0, .slice none 0 0] := (Blk.new_ _ 25 _ (by simp)).keep hb1; obtain ⟨d0, d1, d2⟩ := hZ.three; have e0 := hZ.frozen 0; have e1 := hZ.frozen 1; have e2 := hZ.frozen 2)
    have hB1 : Below w.heap.size w w1 := (by_alloc (by_alloc (by_alloc (by_refl _) _) _) _).trans (hb1.mono (by simp; omega))
    refine bodyPost_ret (v := .agg #[.int .i64 ku, .int .i64 nu, .slice A1 us.length c1]) (by simp [results, Try.results126, go_sem, d0, d1, d2]) rfl ⟨A1, c1, rfl, hl1, ?_, by_set3 hB1 (by omega) _ _ _⟩
    exact ((Fresh.rdp hf1).set3 (fun h => absurd h.1 (by simp)) _ _ _).mono (fun b h => .inr (Nat.le_trans (by simp; omega) h.1))
  | x :: is, k, n, ks, A, c, P, cp, U, cu, w, u0, h, hcp, hM, hr, hi, hru, hpw => by
    have hlen := length_le_sizes ks
    have hlu := length_le_sizes us
    rw [atT] at h
    split at h
    case isFalse => cases h
    rename_i hh
    have hx2 : x < ks.length := hh.2
    obtain ⟨i, rfl⟩ : ∃ i : Nat, x = (i : Int) := ⟨x.toNat, by omega⟩
    have hik : i < ks.length := by omega
    have h0 := hide h
    clear h hh
    obtain ⟨b3, o3, k3, n3, ks3, A3, c3, rfl, hkj, hc1, hc2, hc3, hl3, hr3⟩ := hr.at_ hik
    have hsz := sizes_le (List.getElem_mem hik)
    rw [hkj] at hsz
    simp only [Tm.size] at hsz
    have e3 : ks.getD (i : Int).toNat default = .mk k3 n3 ks3 := by rw [Int.toNat_natCast, List.getD_eq_getElem?_getD, List.getElem?_eq_getElem hik, Option.getD_some, hkj]
    have h1 : atT (.mk k3 n3 ks3) is = some u0 := by have := h0.out; rw [show (Tm.mk k n ks).kids = ks from rfl, e3] at this; exact this
    have h1' := hide h1
    obtain ⟨b, off, rfl, hp0⟩ := hi 0 (by simp)
    obtain ⟨off', ht, hti⟩ := run_tail (by simpa using hcp) hi
    simp only [List.getElem_cons_zero, Nat.add_zero] at hp0
    obtain ⟨pk, pn, pks, hput⟩ : ∃ pk pn pks, putT (.mk k3 n3 ks3) is (.mk ku nu us) = .mk pk pn pks := by cases putT (.mk k3 n3 ks3) is (.mk ku nu us) with | mk a b c => exact ⟨a, b, c, rfl⟩
    have hput' := hide hput
    have hres : putT (.mk k n ks) ((i : Int) :: is) (.mk ku nu us) = .mk k n (ks.set i (.mk pk pn pks)) := by rw [putT, e3, hput, Int.toNat_natCast]
    have hres' := hide hres
    have hset : ∀ (j : Nat) (t : Tm), ks[j]? = some t → (ks.set i (.mk pk pn pks))[j]? = some (if j = i then .mk pk pn pks else t) := fun j t hj => by
      rw [List.getElem?_set]
      have hjl := (List.getElem?_eq_some_iff.1 hj).1
      by_cases e : i = j
      · subst e; simp [hjl]
      · rw [if_neg e, if_neg (Ne.symm e), hj]
    have hset' := hide hset
    have hcp' : is.length + 1 ≤ cp := by simpa using hcp
    have q3 : (((is.length : Nat) : Int) + 1 == 0) = false := by simp; omega
    have hlk : (i : Int) < (ks.length : Int) := by omega
    have htk := hide (fun w => ht w)
    clear h1 hput hres hset e3 hkj hx2
    rw [List.length_cons]
    go_enter Try.func126, Try.ntmps126
    go_wp2_with fail
    refine name_world ?_
    intro wx hwx
    have h0x : Blk wx w.heap.size #[.int .i64 k, .int .i64 n, .slice (some ⟨b3, o3, none⟩) ks.length c] := by rw [hwx]; exact ((Blk.new_ _ 25 _ rfl).alloc _).alloc _
    have h1x : Blk wx (w.heap.size + 1) #[.int .i64 ku, .int .i64 nu, .slice U us.length cu] := by rw [hwx]; exact (Blk.new_ _ 25 _ (by simp)).alloc _
    have h2x : Blk wx (w.heap.size + 1 + 1) #[.int .i64 0, .int .i64 0, .slice none 0 0] := by rw [hwx]; exact Blk.new_ _ 25 _ (by simp)
    have bx : Below w.heap.size w wx := by rw [hwx]; exact by_alloc (by_alloc (by_alloc (by_refl _) _) _) _
    have lx := h2x.lt
    clear hwx
    have rx := hr.below bx
    have rux := hru.below bx
    have r3x := hr3.below bx
    have hix := hti.below bx
    have c0r := h0x.three.1
    have g0 := rule_of h0x.three.1
    have g1 := rule_of h0x.three.2.1
    have g2 := rule_of h0x.three.2.2
    have v0 := rule_of h1x.three.1
    have v1 := rule_of h1x.three.2.1
    have v2 := rule_of h1x.three.2.2
    have y0 := rule_of ((Keeps.of_below bx) _ _ hc1)
    have y1 := rule_of ((Keeps.of_below bx) _ _ hc2)
    have y2 := rule_of ((Keeps.of_below bx) _ _ hc3)
    have p0 := rule_of ((Keeps.of_below bx) _ _ hp0)
    clear hc1 hc2 hc3 hp0 c0r
    refine wp_region_firstY (fun w' => Below wx.heap.size wx w') [0, 1, 2, 3, 4, 5, 6, 7, 8, 9, 10, 11, 12, 13] [14, 15] [16] [_, _, _, _, _, _, _, _, _, _, _, _, _, _] [_, _] [_] (by kernel_rfl) (by kernel_rfl) rfl rfl rfl (fun _ _ d _ _ h => by cases d <;> exact h) (Below.refl _ _).drew ?_
    repeat (first | ((refine takeY_skip (a' := ?_) ?_ ?_ ?_); (rotate_left); (· (simp [Region.wanted, yielded]; done)); (· (simp only [List.getElem_toArray, List.getElem_cons_zero, List.getElem_cons_succ, Act.put, List.setIfInBounds_toArray, List.set_cons_zero, List.set_cons_succ]; exact rfl))) | ((refine takeY_step (v := ?_) (a' := ?_) ?_ ?_ ?_ ?_); (rotate_left 2); (· (simp [Region.wanted, yielded]; done)); (· (intro w' hS'; go_simp; try (with_reducible rfl))); (· (simp only [List.getElem_toArray, List.getElem_cons_zero, List.getElem_cons_succ, Act.put, List.setIfInBounds_toArray, List.set_cons_zero, List.set_cons_succ]; exact rfl))))
    refine takeY_nil (then_cons ?_)
    clear g0 g1 g2 v0 v1 v2 y0 y1 y2 p0 ht
    go_wp2_with (go_at_call 126; refine (sPut_any p ku nu us hus is k3 n3 ks3 A3 c3 (some ⟨b, off', none⟩) (cp - 1) U cu wx.drew u0 h1'.out (by omega) (by omega) r3x.drew (hix.below (by_drew (by_refl wx))) rux.drew (fun b hb => by have := hpw b hb; show b < wx.heap.size; omega)).mono ?_; rw [hput'.out]; intro e w1 hgo; obtain ⟨A1, c1, rfl, hl1, hq1, hb1⟩ := gotQ_mk hgo; have sx1 := bx.size; have b1 : Below wx.heap.size wx w1 := (by_drew (by_refl wx)).trans (hb1.mono (Nat.le_refl _)))
    refine mid_intro b1 ?_
    refine then_cons ?_
    have rx1 := rx.below b1
    go_wp2_with (go_at_call 140; refine (sWith_any (p := fun b => (p b ∨ wx.heap.size ≤ b) ∧ b < w1.heap.size) k n ks _ c i pk pn pks A1 c1 (ks.set i (.mk pk pn pks)) (by simp) hset'.out _ hM hl1 rx1 (rdp_ltC.2 _ _ _ hq1) (fun b hb => hb.2)).mono ?_; rintro e w2 ⟨A2, c2, rfl, hl2, hq2, hb2⟩; have b2 := b1.trans (hb2.mono b1.size))
    refine mid_intro b2 ?_
    refine then_nil ?_
    have hZ := h2x.keep b2
    obtain ⟨d0, d1, d2⟩ := hZ.three
    have e0 := hZ.frozen 0
    have e1 := hZ.frozen 1
    have e2 := hZ.frozen 2
    have sx := bx.size
    go_wp2_with fail
    refine bodyPost_ret (v := .agg #[.int .i64 k, .int .i64 n, .slice A2 (ks.set i (.mk pk pn pks)).length c2]) (by simp [results, Try.results126, go_sem, d0, d1, d2]) rfl ?_
    rw [hres'.out]
    refine ⟨A2, c2, rfl, hl2, ?_, by_set3 (bx.trans (b2.mono sx)) (by omega) _ _ _⟩
    have s12 := b1.size
    exact (hq2.set3 (fun h => by rcases h with ⟨h | h, h2⟩ | h; (have := hpw _ h; omega); omega; omega) _ _ _).mono (fun b h => by rcases h with ⟨h | h, h2⟩ | h; exact .inl h; exact .inr (by omega); exact .inr (by omega))
/-- what PutAt leaves: a term that can be read, and a word -/
def GotPA (p : Nat → Prop) (m : Nat) (w : World) (e : Ending) (w' : World) : Prop :=
  ∃ (k n : Int) (ks : List Tm) (A : Option Addr) (c : Nat) (bb : Bool), e = .returned (.tuple #[.agg #[.int .i64 k, .int .i64 n, .slice A ks.length c], .bool bb]) ∧ ks.length ≤ 9223372036854775807 ∧ sizes ks ≤ m ∧ RdP (fun b => p b ∨ w.heap.size ≤ b) w' A 0 ks ∧ Below w.heap.size w w'
set_option maxHeartbeats 4000000 in
set_option maxRecDepth 100000 in
theorem putAt_any (p : Nat → Prop) (k n : Int) (ks : List Tm) (A : Option Addr) (c : Nat) (xs : List Int) (P : Option Addr) (cp : Nat) (ku nu : Int) (us : List Tm) (U : Option Addr) (cu : Nat) (w : World) (u0 : Tm) (hv : validT (.mk k n ks) = true) (h : atT (.mk k n ks) xs = some u0) (hxl : xs.length ≤ 1000) (hcp : xs.length ≤ cp) (hus : sizes us ≤ 1000000) (hr : Rd w A 0 ks) (hi : RdI w P xs) (hru : RdP p w U 0 us) (hpw : ∀ b, p b → b < w.heap.size) :
    Calls Try.prog 80 #[.agg #[.int .i64 k, .int .i64 n, .slice A ks.length c], .slice P xs.length cp, .agg #[.int .i64 ku, .int .i64 nu, .slice U us.length cu]] w (GotPA p (sizes ks + sizes us + 2) w) := by
  have hlen := length_le_sizes ks
  have hlu := length_le_sizes us
  have hzk := validT_size hv
  rw [Tm.size] at hzk
  obtain ⟨k0, n0, ks0⟩ := u0
  have hta : termAt (.mk k n ks) xs = some (.mk k0 n0 ks0) := by rw [termAt, if_pos hv, h]
  have hta' := hide hta
  have h' := hide h
  have hps := putT_size (u := .mk ku nu us) h
  rw [Tm.size, Tm.size] at hps
  obtain ⟨pk, pn, pks, hput⟩ : ∃ pk pn pks, putT (.mk k n ks) xs (.mk ku nu us) = .mk pk pn pks := by cases putT (.mk k n ks) xs (.mk ku nu us) with | mk a b c => exact ⟨a, b, c, rfl⟩
  rw [hput, Tm.size] at hps
  have hput' := hide hput
  clear hta h hput hv
  go_enter Try.func80, Try.ntmps80
  go_upto_region 1 with fail
  refine name_world ?_
  intro wx hwx
  have h0x : Blk wx w.heap.size #[.int .i64 k, .int .i64 n, .slice A ks.length c] := by rw [hwx]; exact ((Blk.new_ _ 25 _ rfl).alloc _).alloc _
  have h1x : Blk wx (w.heap.size + 1) #[.int .i64 ku, .int .i64 nu, .slice U us.length cu] := by rw [hwx]; exact (Blk.new_ _ 25 _ (by simp)).alloc _
  have h2x : Blk wx (w.heap.size + 1 + 1) #[.int .i64 0, .int .i64 0, .slice none 0 0] := by rw [hwx]; exact Blk.new_ _ 25 _ (by simp)
  have bx : Below w.heap.size w wx := by rw [hwx]; exact by_alloc (by_alloc (by_alloc (by_refl _) _) _) _
  have lx := h2x.lt
  clear hwx
  obtain ⟨x0, x1, x2⟩ := h0x.three
  go_upto_region 2 with (go_at_call 125; refine (sTermAt_any k n ks A c xs P cp _ (by omega) (by omega) (hr.below bx) (hi.below bx)).mono ?_; rw [hta'.out]; intro e w1 hgo; obtain ⟨A1, c1, rfl, hl1, hf1, hb1⟩ := gotO_someF hgo)
  refine name_world ?_
  intro wy hwy
  have bxy : Below wx.heap.size wx wy := by rw [hwy]; exact by_alloc hb1 _
  clear hwy x0 x1 x2
  have bxw := bx.trans (bxy.mono bx.size)
  have h0y := h0x.keep bxy
  have h1y := h1x.keep bxy
  have h2y := h2x.keep bxy
  have lxy := bxy.size
  obtain ⟨x0, x1, x2⟩ := h0y.three
  obtain ⟨y0, y1, y2⟩ := h1y.three
  cases hvu : validT (.mk ku nu us) with
  | false =>
    have hvu' := hide hvu
    clear hvu
    go_wp2_with (go_at_call 60; refine (sTermValid_any ku nu us U cu _ (by omega) (hru.rd.below bxw)).mono ?_; rw [hvu'.out]; rintro e w2 ⟨rfl, hb2⟩; have hZ := h2y.keep hb2; obtain ⟨d0, d1, d2⟩ := hZ.three; have e0 := hZ.frozen 0; have e1 := hZ.frozen 1; have e2 := hZ.frozen 2)
    refine bodyPost_ret (v := .tuple #[.agg #[.int .i64 0, .int .i64 0, .slice none 0 0], .bool false]) (by simp [results, Try.results80, go_sem, d0, d1, d2]) rfl ⟨0, 0, [], none, 0, false, rfl, by simp, by simp [sizes], RdP.nil, by_set3 (bxw.trans (hb2.mono bxw.size)) (by omega) _ _ _⟩
  | true =>
    have hvu' := hide hvu
    clear hvu
    cases hvp : validT (.mk pk pn pks) with
    | false =>
      have hvp' := hide hvp
      clear hvp
      go_wp2_with (first
        | (go_at_call 62; refine (made_no pk pn pks A3 c3 _ (by omega) hq3.rd hvp'.out).mono ?_; rintro e w4 ⟨rfl, hb4⟩; have hZ := (h2y.keep (hb2.trans (hb3.mono hb2.size))).keep hb4; obtain ⟨d0, d1, d2⟩ := hZ.three; have e0 := hZ.frozen 0; have e1 := hZ.frozen 1; have e2 := hZ.frozen 2)
        | (go_at_call 126; refine (sPut_any p ku nu us (by omega) xs k n ks A c P cp U cu _ _ h'.out hcp (by omega) ((hr.below bxw).below hb2) ((hi.below bxw).below hb2) ((hru.below bxw).below hb2) (fun b hb => by have := hpw b hb; have := hb2.size; omega)).mono ?_; rw [hput'.out]; intro e w3 hgo; obtain ⟨A3, c3, rfl, hl3, hq3, hb3⟩ := gotQ_mk hgo)
        | (go_at_call 60; refine (sTermValid_any ku nu us U cu _ (by omega) (hru.rd.below bxw)).mono ?_; rw [hvu'.out]; rintro e w2 ⟨rfl, hb2⟩; have h1z := h1y.keep hb2; have h0z := h0y.keep hb2; clear x0 x1 x2 y0 y1 y2; obtain ⟨x0, x1, x2⟩ := h0z.three; obtain ⟨y0, y1, y2⟩ := h1z.three))
      refine bodyPost_ret (v := .tuple #[.agg #[.int .i64 0, .int .i64 0, .slice none 0 0], .bool false]) (by simp [results, Try.results80, go_sem, d0, d1, d2]) rfl ⟨0, 0, [], none, 0, false, rfl, by simp, by simp [sizes], RdP.nil, by_set3 (((bxw.trans (hb2.mono bxw.size)).trans (hb3.mono (by have := bxw.size; have := hb2.size; omega))).trans (hb4.mono (by have := bxw.size; have := hb2.size; have := hb3.size; omega))) (by omega) _ _ _⟩
    | true =>
      have hvp' := hide hvp
      clear hvp
      go_wp2_with (first
        | (go_at_call 62; refine (made_yes pk pn pks A3 c3 _ (by omega) hq3.rd hvp'.out).mono ?_; rintro e w4 ⟨rfl, hb4⟩; have hZ := (h2y.keep (hb2.trans (hb3.mono hb2.size))).keep hb4; obtain ⟨d0, d1, d2⟩ := hZ.three; have e0 := hZ.frozen 0; have e1 := hZ.frozen 1; have e2 := hZ.frozen 2)
        | (go_at_call 126; refine (sPut_any p ku nu us (by omega) xs k n ks A c P cp U cu _ _ h'.out hcp (by omega) ((hr.below bxw).below hb2) ((hi.below bxw).below hb2) ((hru.below bxw).below hb2) (fun b hb => by have := hpw b hb; have := hb2.size; omega)).mono ?_; rw [hput'.out]; intro e w3 hgo; obtain ⟨A3, c3, rfl, hl3, hq3, hb3⟩ := gotQ_mk hgo)
        | (go_at_call 60; refine (sTermValid_any ku nu us U cu _ (by omega) (hru.rd.below bxw)).mono ?_; rw [hvu'.out]; rintro e w2 ⟨rfl, hb2⟩; have h1z := h1y.keep hb2; have h0z := h0y.keep hb2; clear x0 x1 x2 y0 y1 y2; obtain ⟨x0, x1, x2⟩ := h0z.three; obtain ⟨y0, y1, y2⟩ := h1z.three))
      have s2 := hb2.size
      have s3 := hb3.size
      have s0 := bxw.size
      refine bodyPost_ret (v := .tuple #[.agg #[.int .i64 pk, .int .i64 pn, .slice A3 pks.length c3], .bool true]) (by simp [results, Try.results80, go_sem, d0, d1, d2]) rfl ⟨pk, pn, pks, A3, c3, true, rfl, hl3, by omega, ?_, by_set3 (((bxw.trans (hb2.mono bxw.size)).trans (hb3.mono (by omega))).trans (hb4.mono (by omega))) (by omega) _ _ _⟩
      exact ((hq3.below hb4).set3 (fun h => by rcases h with h | h; (have := hpw _ h; omega); omega) _ _ _).mono (fun b h => by rcases h with h | h; exact .inl h; exact .inr (by omega))
end Go.Proofs.Ytodkenpmhhbppaa
