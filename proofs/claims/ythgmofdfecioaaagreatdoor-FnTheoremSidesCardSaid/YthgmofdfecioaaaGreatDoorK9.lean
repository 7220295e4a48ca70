/-
  Texts of this claim, merged: contracts of the functions that the law reaches. No condition.
-/
import Derived.Test.YthgmofdfecioaaaGreatDoorK2
import Derived.Test.YthgmofdfecioaaaGreatDoorK3
import Derived.Test.YthgmofdfecioaaaGreatDoorK6
import Derived.Test.YthgmofdfecioaaaGreatDoorK8
import Derived.IntWalk
import Derived.Laws.BitsAllLaws
import Derived.Laws.BitsLemmas
import Derived.Test.YthgmofdfecioaaaGreatDoorChecked
import Derived.ChangeSlices
import Derived.ProofKit
import Derived.OpenShut
import Derived.JoinedCond
import Derived.Carry
import Derived.Below
import Derived.ChangeSame
import Derived.Handed
import Derived.HandedShaped
import Derived.Shelf.Vars

namespace Go.Proofs.YthgmofdfecioaaaGreatDoor
open Go.RowKit
set_option linter.unusedSimpArgs false
set_option linter.unusedVariables false

/-- a part of a term, where it stands -/
def SeenT (w : World) (u : Tm) (e : Ending) (w' : World) : Prop :=
  ∃ k n ks A c, u = .mk k n ks ∧ e = .returned (.agg #[.int .i64 k, .int .i64 n, .slice A ks.length c]) ∧ ks.length ≤ 9223372036854775807 ∧ Rd w A 0 ks ∧ Below w.heap.size w w'
set_option maxHeartbeats 2000000 in
set_option maxRecDepth 100000 in
theorem iAt_any (k n : Int) (ks : List Tm) (A : Option Addr) (c : Nat) (xs : List Int) (P : Option Addr) (cp : Nat) (w : World) (hM : sizes ks ≤ 1000000000) (hx : xs.length ≤ 9223372036854775807) (hr : Rd w A 0 ks) (hi : RdI w P xs) {u : Tm} (hu : atT (.mk k n ks) xs = some u) :
    Calls Tryz.prog 99 #[.agg #[.int .i64 k, .int .i64 n, .slice A ks.length c], .slice P xs.length cp] w (SeenT w u) := by
  have hlen := length_le_sizes ks
  have hu' := hide hu
  clear hu
  go_enter Tryz.func99, Tryz.ntmps99
  go_wp2_with fail
  go_loopw [9] (fun i wr => ∃ (j : Nat) (k1 n1 : Int) (ks1 : List Tm) (A1 : Option Addr) (c1 : Nat), j ≤ xs.length ∧ i = .int .i64 j ∧ Hid (atT (.mk k n ks) (xs.take j) = some (.mk k1 n1 ks1)) ∧ ks1.length ≤ 9223372036854775807 ∧ Rd w A1 0 ks1 ∧ Blk wr w.heap.size #[.int .i64 k1, .int .i64 n1, .slice A1 ks1.length c1] ∧ Blk wr (w.heap.size + 1) #[.int .i64 0, .int .i64 0, .slice none 0 0] ∧ Below w.heap.size w wr)
    (fun i _ => xs.length - (intOf i).toNat)
  case atStart => exact ⟨0, k, n, ks, A, c, Nat.zero_le _, rfl, hide rfl, by omega, hr, (Blk.new_ _ _ _ rfl).alloc _, Blk.new_ _ _ _ (by simp), ((Below.refl _ _).alloc (by simp) _).alloc (by simp) _⟩
  case round =>
    obtain ⟨j, k1, n1, ks1, A1, c1, hj, rfl, hat, hl1, hr1, hB1, hB2, hb⟩ := hrel
    have lB2 := hB2.lt
    by_cases hlt : j < xs.length
    · obtain ⟨b, off, rfl, hc⟩ := hi.below hb j hlt
      have hnx := atT_take hlt hat.out
      have hne : atT (.mk k n ks) (xs.take (j + 1)) ≠ none := fun h => by have := atT_none h; rw [hu'.out] at this; cases this
      generalize hxj : xs[j] = x at hc hnx
      have hxj' := hide hxj
      clear hxj
      by_cases hin : 0 ≤ x ∧ x < ks1.length
      · obtain ⟨i, rfl⟩ : ∃ i : Nat, x = (i : Int) := ⟨x.toNat, by omega⟩
        have hik : i < ks1.length := by omega
        obtain ⟨b3, off3, k3, n3, ks3, A3, c3, rfl, hkj3, hd1, hd2, hd3, hl3, hr3⟩ := hr1.at_ hik
        have hst : atT (.mk k n ks) (xs.take (j + 1)) = some (.mk k3 n3 ks3) := by
          rw [hnx, if_pos (show 0 ≤ (i : Int) ∧ (i : Int) < (Tm.mk k1 n1 ks1).kids.length from hin), Int.toNat_natCast, show (Tm.mk k1 n1 ks1).kids = ks1 from rfl, List.getD_eq_getElem?_getD, List.getElem?_eq_getElem hik, Option.getD_some, hkj3]
        have hst' := hide hst
        clear hkj3 hst hnx hne
        have z2 := (Keeps.of_below hb) _ _ hd1
        have z3 := (Keeps.of_below hb) _ _ hd2
        have z4 := (Keeps.of_below hb) _ _ hd3
        have cc2 : wr.cell? ⟨w.heap.size, 2, none⟩ = some (.slice (some ⟨b3, off3, none⟩) ks1.length c1) := hB1.at_ rfl
        have cc0 : wr.cell? ⟨w.heap.size, 0, none⟩ = some (.int .i64 k1) := hB1.at_ rfl
        have cc1 : wr.cell? ⟨w.heap.size, 1, none⟩ = some (.int .i64 n1) := hB1.at_ rfl
        have f0 := hB1.frozen 0
        have f1 := hB1.frozen 1
        have f2 := hB1.frozen 2
        go_wp2_with fail
        go_roundw
        case rel => exact ⟨j + 1, k3, n3, ks3, A3, c3, by omega, by go_num, hst', hl3, hr3, ((hB1.set_ 0 _).set_ 1 _).set_ 2 _, ((hB2.far (by simp) _).far (by simp) _).far (by simp) _, ((hb.setCell (by simp) _).setCell (by simp) _).setCell (by simp) _⟩
        case measure => simp [intOf]; omega
      · exact absurd (by rw [hnx, if_neg (show ¬ (0 ≤ x ∧ x < (Tm.mk k1 n1 ks1).kids.length) from hin)]) hne
    · have hjl : j = xs.length := by omega
      subst hjl
      have hut : u = .mk k1 n1 ks1 := by have := hat.out; rw [List.take_length, hu'.out] at this; exact Option.some.inj this
      subst hut
      have cc0 : wr.cell? ⟨w.heap.size, 0, none⟩ = some (.int .i64 k1) := hB1.at_ rfl
      have cc1 : wr.cell? ⟨w.heap.size, 1, none⟩ = some (.int .i64 n1) := hB1.at_ rfl
      have cc2 : wr.cell? ⟨w.heap.size, 2, none⟩ = some (.slice A1 ks1.length c1) := hB1.at_ rfl
      have d0 : wr.cell? ⟨w.heap.size + 1, 0, none⟩ = some (.int .i64 0) := hB2.at_ rfl
      have d1 : wr.cell? ⟨w.heap.size + 1, 1, none⟩ = some (.int .i64 0) := hB2.at_ rfl
      have d2 : wr.cell? ⟨w.heap.size + 1, 2, none⟩ = some (.slice none 0 0) := hB2.at_ rfl
      have e0 := hB2.frozen 0
      have e1 := hB2.frozen 1
      have e2 := hB2.frozen 2
      go_wp2_with fail
      refine bodyPost_ret (v := .agg #[.int .i64 k1, .int .i64 n1, .slice A1 ks1.length c1]) (by simp [results, Tryz.results99, go_sem, d0, d1, d2]) rfl ⟨_, _, _, A1, c1, rfl, rfl, hl1, hr1, ?_⟩
      exact ((hb.setCell (by simp) _).setCell (by simp) _).setCell (by simp) _
end Go.Proofs.YthgmofdfecioaaaGreatDoor

namespace Go.Proofs.YthgmofdfecioaaaGreatDoor
open Go.RowKit
set_option linter.unusedSimpArgs false
set_option linter.unusedVariables false

theorem sizes_set_lt {ks : List Tm} {i : Nat} (hi : i < ks.length) {t : Tm} : sizes (ks.set i t) + ks[i].size = sizes ks + t.size := by
  induction ks generalizing i with
  | nil => simp at hi
  | cons a ts ih =>
    cases i with
    | zero => rw [List.set_cons_zero, sizes, sizes, List.getElem_cons_zero]; omega
    | succ i => rw [List.set_cons_succ, sizes, sizes, List.getElem_cons_succ]; have := ih (i := i) (by simpa using hi); omega
theorem putN_size {u u0 : Tm} : ∀ {xs : List Int} {t : Tm}, atT t xs = some u0 → (putN t xs u).size ≤ t.size + u.size
  | [], t, _ => by rw [putN]; omega
  | i :: is, .mk k n ks, h => by
    rw [atT] at h
    split at h
    · rename_i hh
      have hlt : i.toNat < ks.length := by have := hh.2; simp only [Tm.kids] at this; omega
      rw [show (Tm.mk k n ks).kids = ks from rfl] at h
      have h1 := putN_size h (u := u)
      have h2 := sizes_set_lt hlt (t := putN (ks.getD i.toNat default) is u)
      have e : ks.getD i.toNat default = ks[i.toNat] := by simp [List.getD, List.getElem?_eq_getElem hlt]
      rw [e] at h1 h2
      rw [putN, Tm.size, Tm.size, e]
      omega
    · cases h
/-- put, where all can be read -/
theorem iPutR_any (ku nu : Int) (us : List Tm) (hus : sizes us ≤ 1000000) (xs : List Int) (k n : Int) (ks : List Tm) (A : Option Addr) (c : Nat) (P : Option Addr) (cp : Nat) (U : Option Addr) (cu : Nat) (w : World) (u0 : Tm) (h : atT (.mk k n ks) xs = some u0) (hcp : xs.length ≤ cp) (hM : sizes ks ≤ 1000000) (hr : Rd w A 0 ks) (hi : RdI w P xs) (hru : Rd w U 0 us) {kp np : Int} {ps : List Tm} (hp : putN (.mk k n ks) xs (.mk ku nu us) = .mk kp np ps) :
    Calls Tryz.prog 100 #[.agg #[.int .i64 k, .int .i64 n, .slice A ks.length c], .slice P xs.length cp, .agg #[.int .i64 ku, .int .i64 nu, .slice U us.length cu]] w fun e w' => ∃ B d, e = .returned (.agg #[.int .i64 kp, .int .i64 np, .slice B ps.length d]) ∧ ps.length ≤ 9223372036854775807 ∧ Rd w' B 0 ps ∧ Below w.heap.size w w' := by
  refine (iPut_any (· < w.heap.size) ku nu us hus xs k n ks A c P cp U cu w u0 h hcp hM hr.rdp hi hru.rdp (fun b hb => hb)).mono ?_
  rw [hp]
  rintro e w' hgo
  obtain ⟨B, d, rfl, hl, hr', hb⟩ := gotQ_mk hgo
  exact ⟨B, d, rfl, hl, hr'.rd, hb⟩
set_option maxHeartbeats 8000000 in
set_option maxRecDepth 100000 in
theorem iCtd_any (k n : Int) (ks : List Tm) (A : Option Addr) (c : Nat) (xs : List Int) (P : Option Addr) (cp : Nat) (w : World) {ku nu : Int} {us : List Tm} (hv : validT (.mk k n ks) = true) (hx : xs.length ≤ 1000) (hcp : xs.length ≤ cp) (hat : atT (.mk k n ks) xs = some (.mk ku nu us)) (hxu : rdx ku us ≠ 0) (hr : Rd w A 0 ks) (hp : RdI w P xs) :
    Calls Tryz.prog 74 #[.agg #[.int .i64 k, .int .i64 n, .slice A ks.length c], .slice P xs.length cp] w (GotO w (ctdI (.mk k n ks) xs)) := by
  have hz := validT_size' hv
  have hlen := length_le_sizes ks
  have hvu := atT_valid hat hv
  have hvu' := hide hvu
  have hat' := hide hat
  have hxu' := hide hxu
  have hzu := validT_size' hvu
  cases hc : ctrI (.mk ku nu us) with
  | none =>
    have hz2 : ctdI (.mk k n ks) xs = none := by rw [ctdI, hat]; simp only [hc]
    rw [hz2]
    have hc' := hide hc
    clear hz2 hc hat hvu hxu hv
    go_enter Tryz.func74, Tryz.ntmps74
    go_wp2_with (first
      | (go_at_call 98; have _t := tok1; refine (iContract_any ku nu us A2 c2 _ hvu'.out hxu'.out rU).mono ?_; rw [hc'.out]; intro e w2 hgo; obtain ⟨rfl, hb2⟩ := gotO_none hgo; have hZ2 := hZ1.keep hb2; have g2 := g1.trans (hb2.mono g1.size); obtain ⟨d0, d1, d2⟩ := hZ2.three; have e0 := hZ2.frozen 0; have e1 := hZ2.frozen 1; have e2 := hZ2.frozen 2; have lz := hZ2.lt; have n1 : w.heap.size + 1 ≠ w2.heap.size := (by omega))
      | (go_at_call 99; refine (iAt_any k n ks A c xs P cp _ (by omega) (by omega) ((hr.alloc _).alloc _) ((hp.alloc _).alloc _) hat'.out).mono ?_; rintro e w1 ⟨k', n', ks', A2, c2, hu, rfl, hl2, hr2, hb1⟩; injection hu with x1 x2 x3; subst x1 x2 x3; have hZ1 : Blk w1 (w.heap.size + 1) #[.int .i64 0, .int .i64 0, .slice none 0 0] := (Blk.new_ _ 27 _ (by simp)).keep hb1; have g1 : Below w.heap.size w w1 := (((Below.refl _ _).alloc (Nat.le_refl _) _).alloc (by simp) _).trans (hb1.mono (by simp; omega)); have rU := hr2.below hb1; have tok1 := trivial))
    have y := fun (o : Obj) => (((((hZ2.set_ 0 (.int .i64 0)).set_ 1 (.int .i64 0)).set_ 2 (.slice none 0 0)).alloc o : Blk _ _ #[.int .i64 0, .int .i64 0, .slice none 0 0])).three
    refine bodyPost_ret (v := .tuple #[zeroV, .bool false]) (by simp [results, Tryz.results74, go_sem, y, zeroV]) rfl ⟨rfl, ?_⟩
    exact (((g2.setCell (by simp) _).setCell (by simp) _).setCell (by simp) _).alloc (by simp [World.setCell]; exact g2.size) _
  | some v =>
    obtain ⟨kv, nv, vs⟩ := v
    have hvv := ctrI_valid hc
    have hzv := validT_size' hvv
    obtain ⟨kp, np, ps, hput⟩ : ∃ kp np ps, putN (.mk k n ks) xs (.mk kv nv vs) = .mk kp np ps := by cases putN (.mk k n ks) xs (.mk kv nv vs) with | mk a b c => exact ⟨a, b, c, rfl⟩
    have hzp : sizes ps ≤ 1000 := by
      have := putN_size hat (u := .mk kv nv vs)
      rw [hput] at this
      simp only [Tm.size] at this
      omega
    have hz2 : ctdI (.mk k n ks) xs = vO (.mk kp np ps) := by rw [ctdI, hat]; simp only [hc, hput]
    rw [hz2]
    have hc' := hide hc
    have hput' := hide hput
    clear hz2 hc hat hvu hxu hv hput hvv
    have hlp := length_le_sizes ps
    cases hvp : validT (.mk kp np ps) with
    | false =>
      have hz3 : vO (.mk kp np ps) = none := by rw [vO, hvp]; rfl
      rw [hz3]
      have hvp' := hide hvp
      clear hz3 hvp
      go_enter Tryz.func74, Tryz.ntmps74
      go_wp2_with (first
        | (go_at_call 25; have _t := tok4; refine (valid_noE kp np ps A8 c8 _ (by omega) hf8.rd hvp'.out).mono ?_; rintro e w9 ⟨rfl, hb9⟩; have hZ9 := hZ8.keep hb9; have g9 := g8.trans (hb9.mono g8.size); obtain ⟨d0, d1, d2⟩ := hZ9.three; have e0 := hZ9.frozen 0; have e1 := hZ9.frozen 1; have e2 := hZ9.frozen 2)
        | (go_at_call 73; have _t := tok3; refine (own_any 10000 kp np ps A7 c7 _ (by omega) (by omega) r7).mono ?_; rintro e w8 ⟨A8, c8, rfl, hl8, hf8, hb8⟩; have hZ8 := hZ7.keep hb8; have g8 := g7.trans (hb8.mono g7.size); have tok4 := trivial)
        | (go_at_call 100; have _t := tok2; refine (iPutR_any kv nv vs (by omega) xs k n ks A c P cp A3 c3 _ (.mk ku nu us) hat'.out hcp (by omega) ((hr.below g2).alloc _) ((hp.below g2).alloc _) (r3.alloc _) hput'.out).mono ?_; rintro e w7 ⟨A7, c7, rfl, hl7, r7, hb7⟩; have hZ7 := (hZ2.alloc (.cells #[.int .i64 kv, .int .i64 nv, .slice A3 vs.length c3] 27)).keep hb7; have g7 := (g2.alloc g2.size (.cells #[.int .i64 kv, .int .i64 nv, .slice A3 vs.length c3] 27)).trans (hb7.mono (by have := g2.size; simp; omega)); have tok3 := trivial)
        | (go_at_call 98; have _t := tok1; refine (iContract_any ku nu us A2 c2 _ hvu'.out hxu'.out rU).mono ?_; rw [hc'.out]; intro e w2 hgo; obtain ⟨A3, c3, rfl, hl3, hf3, hb2⟩ := gotO_some hgo; have hZ2 := hZ1.keep hb2; have hX2 := hX1.keep hb2; have g2 := g1.trans (hb2.mono g1.size); have r3 := hf3.rd; obtain ⟨x0, x1, x2⟩ := hX2.three; have lx := hX2.lt; have tok2 := trivial)
        | (go_at_call 99; refine (iAt_any k n ks A c xs P cp _ (by omega) (by omega) ((hr.alloc _).alloc _) ((hp.alloc _).alloc _) hat'.out).mono ?_; rintro e w1 ⟨k', n', ks', A2, c2, hu, rfl, hl2, hr2, hb1⟩; injection hu with y1 y2 y3; subst y1 y2 y3; have hX1 : Blk w1 w.heap.size #[.int .i64 k, .int .i64 n, .slice A ks.length c] := ((Blk.new_ _ 27 _ rfl).alloc _).keep hb1; have hZ1 : Blk w1 (w.heap.size + 1) #[.int .i64 0, .int .i64 0, .slice none 0 0] := (Blk.new_ _ 27 _ (by simp)).keep hb1; have g1 : Below w.heap.size w w1 := (((Below.refl _ _).alloc (Nat.le_refl _) _).alloc (by simp) _).trans (hb1.mono (by simp; omega)); have rU := hr2.below hb1; have tok1 := trivial))
      refine bodyPost_ret (v := .tuple #[zeroV, .bool false]) (by simp [results, Tryz.results74, go_sem, d0, d1, d2, zeroV]) rfl ⟨rfl, ?_⟩
      exact ((g9.setCell (by simp) _).setCell (by simp) _).setCell (by simp) _
    | true =>
      have hz3 : vO (.mk kp np ps) = some (.mk kp np ps) := by rw [vO, hvp]; rfl
      rw [hz3]
      have hvp' := hide hvp
      clear hz3 hvp
      go_enter Tryz.func74, Tryz.ntmps74
      go_wp2_with (first
        | (go_at_call 25; have _t := tok4; refine (valid_yes kp np ps A8 c8 _ (by omega) hf8.rd hvp'.out).mono ?_; rintro e w9 ⟨rfl, hb9⟩; have hZ9 := hZ8.keep hb9; have g9 := g8.trans (hb9.mono g8.size); have hf9 := hf8.below hb9; obtain ⟨d0, d1, d2⟩ := hZ9.three; have e0 := hZ9.frozen 0; have e1 := hZ9.frozen 1; have e2 := hZ9.frozen 2)
        | (go_at_call 73; have _t := tok3; refine (own_any 10000 kp np ps A7 c7 _ (by omega) (by omega) r7).mono ?_; rintro e w8 ⟨A8, c8, rfl, hl8, hf8, hb8⟩; have hZ8 := hZ7.keep hb8; have g8 := g7.trans (hb8.mono g7.size); have tok4 := trivial)
        | (go_at_call 100; have _t := tok2; refine (iPutR_any kv nv vs (by omega) xs k n ks A c P cp A3 c3 _ (.mk ku nu us) hat'.out hcp (by omega) ((hr.below g2).alloc _) ((hp.below g2).alloc _) (r3.alloc _) hput'.out).mono ?_; rintro e w7 ⟨A7, c7, rfl, hl7, r7, hb7⟩; have hZ7 := (hZ2.alloc (.cells #[.int .i64 kv, .int .i64 nv, .slice A3 vs.length c3] 27)).keep hb7; have g7 := (g2.alloc g2.size (.cells #[.int .i64 kv, .int .i64 nv, .slice A3 vs.length c3] 27)).trans (hb7.mono (by have := g2.size; simp; omega)); have tok3 := trivial)
        | (go_at_call 98; have _t := tok1; refine (iContract_any ku nu us A2 c2 _ hvu'.out hxu'.out rU).mono ?_; rw [hc'.out]; intro e w2 hgo; obtain ⟨A3, c3, rfl, hl3, hf3, hb2⟩ := gotO_some hgo; have hZ2 := hZ1.keep hb2; have hX2 := hX1.keep hb2; have g2 := g1.trans (hb2.mono g1.size); have r3 := hf3.rd; obtain ⟨x0, x1, x2⟩ := hX2.three; have lx := hX2.lt; have tok2 := trivial)
        | (go_at_call 99; refine (iAt_any k n ks A c xs P cp _ (by omega) (by omega) ((hr.alloc _).alloc _) ((hp.alloc _).alloc _) hat'.out).mono ?_; rintro e w1 ⟨k', n', ks', A2, c2, hu, rfl, hl2, hr2, hb1⟩; injection hu with y1 y2 y3; subst y1 y2 y3; have hX1 : Blk w1 w.heap.size #[.int .i64 k, .int .i64 n, .slice A ks.length c] := ((Blk.new_ _ 27 _ rfl).alloc _).keep hb1; have hZ1 : Blk w1 (w.heap.size + 1) #[.int .i64 0, .int .i64 0, .slice none 0 0] := (Blk.new_ _ 27 _ (by simp)).keep hb1; have g1 : Below w.heap.size w w1 := (((Below.refl _ _).alloc (Nat.le_refl _) _).alloc (by simp) _).trans (hb1.mono (by simp; omega)); have rU := hr2.below hb1; have tok1 := trivial))
      have s7 := g7.size
      have lz := hZ8.lt
      have lz1 := hZ1.lt
      have s12 := hb2.size
      have s27 := hb7.size
      refine bodyPost_ret (v := .tuple #[.agg #[.int .i64 kp, .int .i64 np, .slice A8 ps.length c8], .bool true]) (by simp [results, Tryz.results74, go_sem, d0, d1, d2]) rfl ⟨A8, c8, rfl, hl8, ?_, ?_⟩
      · exact (((hf9.setCell (by simp at s27; simp; omega) _).setCell (by simp at s27; simp; omega) _).setCell (by simp at s27; simp; omega) _).mono s7
      · exact ((g9.setCell (by simp) _).setCell (by simp) _).setCell (by simp) _
end Go.Proofs.YthgmofdfecioaaaGreatDoor

namespace Go.Proofs.YthgmofdfecioaaaGreatDoor
open Go.RowKit
set_option linter.unusedSimpArgs false
set_option linter.unusedVariables false


theorem redI_none {find : Tm → Option (List Int)} {f : Nat} {t : Tm} (h : find t = none) : redI find f t = (some t, 0) := by rw [redI.eq_def]; simp only [h]
theorem redI_zero {find : Tm → Option (List Int)} {t : Tm} {p : List Int} (h : find t = some p) : redI find 0 t = (none, 1) := by rw [redI.eq_def]; simp only [h]
theorem redI_large {find : Tm → Option (List Int)} {f : Nat} {t : Tm} {p : List Int} (h : find t = some p) (h2 : ctdI t p = none) : redI find (f + 1) t = (none, 2) := by rw [redI.eq_def]; simp only [h, h2]
theorem redI_step {find : Tm → Option (List Int)} {f : Nat} {t t' : Tm} {p : List Int} (h : find t = some p) (h2 : ctdI t p = some t') : redI find (f + 1) t = redI find f t' := by rw [redI.eq_def]; simp only [h, h2]
/-- a term, the steps, a code -/
def GotN (w : World) (r : Option Tm × Int) (e : Ending) (w' : World) : Prop :=
  ∃ (k n : Int) (ks : List Tm) (A : Option Addr) (c : Nat) (st : Int), r.1.getD (.mk 0 0 []) = .mk k n ks ∧ e = .returned (.tuple #[.agg #[.int .i64 k, .int .i64 n, .slice A ks.length c], .int .i64 st, .int .i64 r.2]) ∧ ks.length ≤ 9223372036854775807 ∧ RdP (fun b => w.heap.size ≤ b) w' A 0 ks ∧ Below w.heap.size w w'
/-- a term, a code -/
def GotM (w : World) (r : Option Tm × Int) (e : Ending) (w' : World) : Prop :=
  ∃ (k n : Int) (ks : List Tm) (A : Option Addr) (c : Nat), r.1.getD (.mk 0 0 []) = .mk k n ks ∧ e = .returned (.tuple #[.agg #[.int .i64 k, .int .i64 n, .slice A ks.length c], .int .i64 r.2]) ∧ ks.length ≤ 9223372036854775807 ∧ RdP (fun b => w.heap.size ≤ b) w' A 0 ks ∧ Below w.heap.size w w'
theorem Fresh.rd' {B : Nat} {w : World} {A : Option Addr} {ks : List Tm} (h : Fresh B w A ks) : RdP (fun b => B ≤ b) w A 0 ks := h.rdp.mono fun b hb => hb.1

set_option maxHeartbeats 8000000 in
set_option maxRecDepth 100000 in
theorem iRedNorm_any (k n : Int) (ks : List Tm) (A : Option Addr) (c : Nat) (fuel : Nat) (w : World) (hv : validT (.mk k n ks) = true) (hf : fuel ≤ 200) (hr : Rd w A 0 ks) :
    Calls Tryz.prog 45 #[.agg #[.int .i64 k, .int .i64 n, .slice A ks.length c], .int .i64 fuel, .func (.func 46) #[] #[]] w (GotN w (redI outP fuel (.mk k n ks))) := by
  have hz := validT_size' hv
  have hv' := hide hv
  have hF : ∀ (args : Array Value) (w : World), (callFunc 46 args).run Tryz.prog w = .ok (.enter 46 args) w := run_enter Tryz.func46 (by kernel_rfl) (by kernel_rfl)
  have q1 : decide ((fuel : Int) ≤ 200) = true := decide_eq_true (by omega)
  clear hv
  go_enter Tryz.func45, Tryz.ntmps45
  go_wp2_with (first
    | (go_at_call 36; refine (within_any _ _ _ _).mono ?_; rintro e w9 ⟨rfl, rfl⟩)
    | (go_at_call 35; refine (iTermValid_any k n ks A c _ (by omega) ((hr.alloc _).alloc _)).mono ?_; rw [hv'.out]; rintro e w1 ⟨rfl, hb1⟩; have hT1 : Blk w1 w.heap.size #[.int .i64 k, .int .i64 n, .slice A ks.length c] := ((Blk.new_ _ 27 _ rfl).alloc _).keep hb1; have hZ1 : Blk w1 (w.heap.size + 1) #[.int .i64 0, .int .i64 0, .slice none 0 0] := (Blk.new_ _ 27 _ (by simp)).keep hb1; have g1 : Below w.heap.size w w1 := (((Below.refl _ _).alloc (Nat.le_refl _) _).alloc (by simp) _).trans (hb1.mono (by simp; omega)); have r1 := ((hr.alloc (.cells #[.int .i64 k, .int .i64 n, .slice A ks.length c] 27)).alloc (.cells #[.int .i64 0, .int .i64 0, .slice none 0 0] 27)).below hb1))
  go_loopw [9] (fun i wr => ∃ (j : Nat) (kj nj : Int) (ksj : List Tm) (Aj : Option Addr) (cj : Nat), j ≤ fuel ∧ i = .int .i64 j ∧ Hid (redI outP (fuel - j) (.mk kj nj ksj) = redI outP fuel (.mk k n ks)) ∧ Hid (validT (.mk kj nj ksj) = true) ∧ Rd wr Aj 0 ksj ∧ Blk wr w.heap.size #[.int .i64 kj, .int .i64 nj, .slice Aj ksj.length cj] ∧ Blk wr (w.heap.size + 1) #[.int .i64 0, .int .i64 0, .slice none 0 0] ∧ Below w.heap.size w wr)
    (fun i _ => fuel - (intOf i).toNat)
  case atStart => exact ⟨0, k, n, ks, A, c, Nat.zero_le _, rfl, hide rfl, hv', r1, hT1, hZ1, g1⟩
  case round =>
    obtain ⟨j, kj, nj, ksj, Aj, cj, hj, rfl, hred, hvj, hrj, hT, hZ, hb⟩ := hrel
    have hzj := validT_size' hvj.out
    obtain ⟨y0, y1, y2⟩ := hT.three
    cases hfind : outP (.mk kj nj ksj) with
    | none =>
      have hfo := hide hfind
      have hres : redI outP fuel (.mk k n ks) = (some (.mk kj nj ksj), 0) := by rw [← hred.out, redI_none hfind]
      rw [hres]
      clear hres hfind
      go_wp2_with (first
        | (go_at_call 73; have _t := tok1; refine (own_any 10000 kj nj ksj Aj cj _ (by omega) (by omega) r1).mono ?_; rintro e w2 ⟨A2, c2, rfl, hl2, hf2, hb2⟩; have hZ2 := hZ1.keep hb2; have g2 := g1.trans (hb2.mono g1.size); obtain ⟨d0, d1, d2⟩ := hZ2.three; have e0 := hZ2.frozen 0; have e1 := hZ2.frozen 1; have e2 := hZ2.frozen 2)
        | (go_at_call 46; refine (outX_any (sizes ksj + 1) 30 kj nj ksj Aj cj _ (by omega) (by omega) (validT_shape hvj.out) (by omega) hrj).mono ?_; rw [hfo.out]; intro e w1 hp1; obtain ⟨A1, m1, c1, rfl, hb1⟩ := hp1.none_; have hT1 := hT.keep hb1; have hZ1 := hZ.keep hb1; have g1 := hb.trans (hb1.mono hb.size); have r1 := hrj.below hb1; obtain ⟨x0, x1, x2⟩ := hT1.three; have tok1 := trivial))
      have lz := hZ1.lt
      refine bodyPost_ret (v := .tuple #[.agg #[.int .i64 kj, .int .i64 nj, .slice A2 ksj.length c2], .int .i64 j, .int .i64 0]) (by simp [results, Tryz.results45, go_sem, d0, d1, d2]) rfl ⟨kj, nj, ksj, A2, c2, j, rfl, rfl, hl2, ?_, ?_⟩
      · exact ((((hf2.rd'.setCell (by simp; omega) _).setCell (by simp; omega) _).setCell (by simp; omega) _)).mono (fun b hb => Nat.le_trans g1.size hb)
      · exact ((g2.setCell (by simp) _).setCell (by simp) _).setCell (by simp) _
    | some p =>
      obtain ⟨ku, nu, us, hat, hxu⟩ := outP_way _ _ hfind
      have hfo := hide hfind
      have hat' := hide hat
      have hxu' := hide hxu
      by_cases hjf : j = fuel
      · subst hjf
        have hres : redI outP j (.mk k n ks) = (none, 1) := by rw [← hred.out, Nat.sub_self, redI_zero hfind]
        rw [hres]
        clear hres hfind hat hxu
        go_wp2_with (go_at_call 46; refine (outX_any (sizes ksj + 1) 30 kj nj ksj Aj cj _ (by omega) (by omega) (validT_shape hvj.out) (by omega) hrj).mono ?_; rw [hfo.out]; intro e w1 hp1; obtain ⟨A1, m1, c1, rfl, hm1, hmc1, hme, hpx, hb1⟩ := hp1.some_; have hT1 := hT.keep hb1; have hZ1 := hZ.keep hb1; have g1 := hb.trans (hb1.mono hb.size); have r1 := hrj.below hb1; have ri := hpx.rdi; subst hme; obtain ⟨x0, x1, x2⟩ := hT1.three; have tok1 := trivial; obtain ⟨d0, d1, d2⟩ := hZ1.three; have e0 := hZ1.frozen 0; have e1 := hZ1.frozen 1; have e2 := hZ1.frozen 2)
        refine bodyPost_ret (v := .tuple #[.agg #[.int .i64 0, .int .i64 0, .slice none 0 0], .int .i64 j, .int .i64 1]) (by simp [results, Tryz.results45, go_sem, d0, d1, d2]) rfl ⟨0, 0, [], none, 0, j, rfl, rfl, by simp, RdP.nil, ?_⟩
        exact ((g1.setCell (by simp) _).setCell (by simp) _).setCell (by simp) _
      · have hjlt : j < fuel := by omega
        have hq : ((j : Int) == (fuel : Int)) = false := by simp; omega
        obtain ⟨f, hfe⟩ : ∃ f, fuel - j = f + 1 := ⟨fuel - j - 1, by omega⟩
        cases hct : ctdI (.mk kj nj ksj) p with
        | none =>
          have hres : redI outP fuel (.mk k n ks) = (none, 2) := by rw [← hred.out, hfe, redI_large hfind hct]
          rw [hres]
          have hct' := hide hct
          clear hres hfind hat hxu hct
          go_wp2_with (first
            | (go_at_call 74; have _t := tok1; refine (iCtd_any kj nj ksj Aj cj p A1 c1 _ hvj.out (by omega) hmc1 hat'.out hxu'.out r1 ri).mono ?_; rw [hct'.out]; intro e w2 hgo; obtain ⟨rfl, hb2⟩ := gotO_none hgo; have hZ2 := hZ1.keep hb2; have g2 := g1.trans (hb2.mono g1.size); obtain ⟨d0, d1, d2⟩ := hZ2.three; have e0 := hZ2.frozen 0; have e1 := hZ2.frozen 1; have e2 := hZ2.frozen 2; have lz := hZ2.lt; have n1 : w.heap.size + 1 ≠ w2.heap.size := (by omega))
            | (go_at_call 46; refine (outX_any (sizes ksj + 1) 30 kj nj ksj Aj cj _ (by omega) (by omega) (validT_shape hvj.out) (by omega) hrj).mono ?_; rw [hfo.out]; intro e w1 hp1; obtain ⟨A1, m1, c1, rfl, hm1, hmc1, hme, hpx, hb1⟩ := hp1.some_; have hT1 := hT.keep hb1; have hZ1 := hZ.keep hb1; have g1 := hb.trans (hb1.mono hb.size); have r1 := hrj.below hb1; have ri := hpx.rdi; subst hme; obtain ⟨x0, x1, x2⟩ := hT1.three; have tok1 := trivial))
          have y := fun (o : Obj) => (((((hZ2.set_ 0 (.int .i64 0)).set_ 1 (.int .i64 0)).set_ 2 (.slice none 0 0)).alloc o : Blk _ _ #[.int .i64 0, .int .i64 0, .slice none 0 0])).three
          refine bodyPost_ret (v := .tuple #[.agg #[.int .i64 0, .int .i64 0, .slice none 0 0], .int .i64 j, .int .i64 2]) (by simp [results, Tryz.results45, go_sem, y]) rfl ⟨0, 0, [], none, 0, j, rfl, rfl, by simp, RdP.nil, ?_⟩
          exact (((g2.setCell (by simp) _).setCell (by simp) _).setCell (by simp) _).alloc (by simp [World.setCell]; exact g2.size) _
        | some t' =>
          obtain ⟨kt, nt, kst⟩ := t'
          have hvt := hide (ctdI_valid hct)
          have hres := hide (show redI outP (fuel - (j + 1)) (.mk kt nt kst) = redI outP fuel (.mk k n ks) by rw [← hred.out, hfe, redI_step hfind hct]; congr 1; omega)
          have hct' := hide hct
          clear hfind hat hxu hct
          go_wp2_with (first
            | (go_at_call 74; have _t := tok1; refine (iCtd_any kj nj ksj Aj cj p A1 c1 _ hvj.out (by omega) hmc1 hat'.out hxu'.out r1 ri).mono ?_; rw [hct'.out]; intro e w2 hgo; obtain ⟨A2, c2, rfl, hl2, hf2, hb2⟩ := gotO_some hgo; have hT2 := hT1.keep hb2; have hZ2 := hZ1.keep hb2; have g2 := g1.trans (hb2.mono g1.size); have e0 := hT2.frozen 0; have e1 := hT2.frozen 1; have e2 := hT2.frozen 2; obtain ⟨d0, d1, d2⟩ := hT2.three; have lz := hT2.lt)
            | (go_at_call 46; refine (outX_any (sizes ksj + 1) 30 kj nj ksj Aj cj _ (by omega) (by omega) (validT_shape hvj.out) (by omega) hrj).mono ?_; rw [hfo.out]; intro e w1 hp1; obtain ⟨A1, m1, c1, rfl, hm1, hmc1, hme, hpx, hb1⟩ := hp1.some_; have hT1 := hT.keep hb1; have hZ1 := hZ.keep hb1; have g1 := hb.trans (hb1.mono hb.size); have r1 := hrj.below hb1; have ri := hpx.rdi; subst hme; obtain ⟨x0, x1, x2⟩ := hT1.three; have tok1 := trivial))
          have lt1 := hT1.lt
          go_roundw
          case rel =>
            refine ⟨j + 1, kt, nt, kst, A2, c2, by omega, by go_num, hres, hvt, ?_, (((hT2.set_ 0 _).set_ 1 _).set_ 2 _).alloc _, (((hZ2.far (by simp) _).far (by simp) _).far (by simp) _).alloc _, (((g2.setCell (by simp) _).setCell (by simp) _).setCell (by simp) _).alloc (by simp [World.setCell]; exact g2.size) _⟩
            exact ((((hf2.rd'.setCell (by simp; omega) _).setCell (by simp; omega) _).setCell (by simp; omega) _).alloc _).rd
          case measure => simp [intOf]; omega
set_option maxHeartbeats 4000000 in
set_option maxRecDepth 100000 in
theorem iNorm_any (k n : Int) (ks : List Tm) (A : Option Addr) (c : Nat) (fuel : Nat) (w : World) (hv : validT (.mk k n ks) = true) (hf : fuel ≤ 200) (hr : Rd w A 0 ks) :
    Calls Tryz.prog 19 #[.agg #[.int .i64 k, .int .i64 n, .slice A ks.length c], .int .i64 fuel] w (GotM w (redI outP fuel (.mk k n ks))) := by
  generalize hre : redI outP fuel (.mk k n ks) = re
  have hR := hide (fun (w : World) (hr : Rd w A 0 ks) => by have := iRedNorm_any k n ks A c fuel w hv hf hr; rwa [hre] at this)
  clear hre hv
  go_enter Tryz.func19, Tryz.ntmps19
  go_wp2_with (go_at_call 45; refine (hR.out _ ((hr.alloc _).alloc _)).mono ?_; rintro e w1 ⟨k1, n1', ks1, A1, c1, st, hk1, rfl, hl1, r1, hb1⟩; have hZ1 : Blk w1 (w.heap.size + 1) #[.int .i64 0, .int .i64 0, .slice none 0 0] := (Blk.new_ _ 27 _ (by simp)).keep hb1; have g1 : Below w.heap.size w w1 := (((Below.refl _ _).alloc (Nat.le_refl _) _).alloc (by simp) _).trans (hb1.mono (by simp; omega)); obtain ⟨d0, d1, d2⟩ := hZ1.three; have e0 := hZ1.frozen 0; have e1 := hZ1.frozen 1; have e2 := hZ1.frozen 2; have lz := hZ1.lt; have n1 : w.heap.size + 1 ≠ w1.heap.size := (by omega))
  have y := fun (o : Obj) => (((((hZ1.set_ 0 (.int .i64 k1)).set_ 1 (.int .i64 n1')).set_ 2 (.slice A1 ks1.length c1)).alloc o : Blk _ _ #[.int .i64 k1, .int .i64 n1', .slice A1 ks1.length c1])).three
  refine bodyPost_ret (v := .tuple #[.agg #[.int .i64 k1, .int .i64 n1', .slice A1 ks1.length c1], .int .i64 re.2]) (by simp [results, Tryz.results19, go_sem, y]) rfl ⟨k1, n1', ks1, A1, c1, hk1, rfl, hl1, ?_, ?_⟩
  · exact ((((r1.setCell (by simp) _).setCell (by simp) _).setCell (by simp) _).alloc _).mono (fun b hb => by simp at hb; omega)
  · exact (((g1.setCell (by simp) _).setCell (by simp) _).setCell (by simp) _).alloc (by simp [World.setCell]; exact g1.size) _
end Go.Proofs.YthgmofdfecioaaaGreatDoor

namespace Go.Proofs.YthgmofdfecioaaaGreatDoor
open Go.RowKit
set_option linter.unusedSimpArgs false
set_option linter.unusedVariables false

theorem gotM_at {w : World} {r : Option Tm × Int} {e : Ending} {w' : World} (h : GotM w r e w') {k n c : Int} {ks : List Tm} (h1 : r.1.getD (.mk 0 0 []) = .mk k n ks) (h2 : r.2 = c) :
    ∃ A d, e = .returned (.tuple #[.agg #[.int .i64 k, .int .i64 n, .slice A ks.length d], .int .i64 c]) ∧ ks.length ≤ 9223372036854775807 ∧ Rd w' A 0 ks ∧ Below w.heap.size w w' := by
  obtain ⟨k1, n1, ks1, A, d, hk, rfl, hl, hr, hb⟩ := h
  rw [h1] at hk
  injection hk with a1 a2 a3
  subst a1 a2 a3 h2
  exact ⟨A, d, rfl, hl, hr.rd, hb⟩
set_option maxHeartbeats 8000000 in
set_option maxRecDepth 100000 in
theorem iConv_any (k n : Int) (ks : List Tm) (A : Option Addr) (c : Nat) (k' n' : Int) (ls : List Tm) (B : Option Addr) (d : Nat) (fuel : Nat) (w : World) (hf : fuel ≤ 200) (hv : validT (.mk k n ks) = true) (hv' : validT (.mk k' n' ls) = true) (hr : Rd w A 0 ks) (hr' : Rd w B 0 ls) :
    Calls Tryz.prog 10 #[.agg #[.int .i64 k, .int .i64 n, .slice A ks.length c], .agg #[.int .i64 k', .int .i64 n', .slice B ls.length d], .int .i64 fuel] w fun e w' => e = .returned (.int .i64 (convI fuel (.mk k n ks) (.mk k' n' ls))) ∧ Below w.heap.size w w' := by
  have hz := validT_size' hv
  have hz' := validT_size' hv'
  have hl1 := length_le_sizes ks
  have hl2 := length_le_sizes ls
  have q1 : decide ((fuel : Int) ≤ 200) = true := decide_eq_true (by omega)
  obtain ⟨xk, xn, xs, hx⟩ : ∃ a b l, (redI outP fuel (.mk k n ks)).1.getD (.mk 0 0 []) = .mk a b l := by cases (redI outP fuel (.mk k n ks)).1.getD (.mk 0 0 []) with | mk a b l => exact ⟨a, b, l, rfl⟩
  obtain ⟨yk, yn, ys, hy⟩ : ∃ a b l, (redI outP fuel (.mk k' n' ls)).1.getD (.mk 0 0 []) = .mk a b l := by cases (redI outP fuel (.mk k' n' ls)).1.getD (.mk 0 0 []) with | mk a b l => exact ⟨a, b, l, rfl⟩
  obtain ⟨ca, hca⟩ : ∃ z, (redI outP fuel (.mk k n ks)).2 = z := ⟨_, rfl⟩
  obtain ⟨cb, hcb⟩ : ∃ z, (redI outP fuel (.mk k' n' ls)).2 = z := ⟨_, rfl⟩
  have hN1 := hide (fun (w : World) (hr : Rd w A 0 ks) => (iNorm_any k n ks A c fuel w hv hf hr).mono fun e w' h => gotM_at h hx hca)
  have hN2 := hide (fun (w : World) (hr : Rd w B 0 ls) => (iNorm_any k' n' ls B d fuel w hv' hf hr).mono fun e w' h => gotM_at h hy hcb)
  have hcv : convI fuel (.mk k n ks) (.mk k' n' ls) = if tmEq (.mk k n ks) (.mk k' n' ls) = true then 1 else if ca ≠ 0 ∨ cb ≠ 0 then 3 else if tmEq (.mk xk xn xs) (.mk yk yn ys) = true then 1 else 2 := by rw [convI, hx, hy, hca, hcb]
  rw [hcv]
  have hv1 := hide hv
  have hv2 := hide hv'
  clear hcv hx hy hca hcb hv hv'
  cases hT : tmEq (.mk k n ks) (.mk k' n' ls) with
  | true =>
    rw [if_pos rfl]
    replace hT := hide hT
    go_enter Tryz.func10, Tryz.ntmps10
    go_wp2_with (first
    | (go_at_call 9; have _t := tok2; refine (iSame_any k n ks A c k' n' ls B d _ (by omega) (by omega) (hr.below g2) (hr'.below g2)).mono ?_; rw [hT.out]; rintro e w3 ⟨rfl, hb3⟩; have hX3 := hX2.keep hb3; have hY3 := hY2.keep hb3; have g3 := g2.trans (hb3.mono g2.size); clear x0 x1 x2 y0 y1 y2; obtain ⟨x0, x1, x2⟩ := hX3.three; obtain ⟨y0, y1, y2⟩ := hY3.three; have tok3 := trivial)
    | (go_at_call 36; refine (within_any _ _ _ _).mono ?_; rintro e w9 ⟨rfl, rfl⟩)
    | (go_at_call 35; have _t := tok1; refine (iTermValid_any k' n' ls B d _ (by omega) (hr'.below g1)).mono ?_; rw [hv2.out]; rintro e w2 ⟨rfl, hb2⟩; have hX2 := hX1.keep hb2; have hY2 := hY1.keep hb2; have g2 := g1.trans (hb2.mono g1.size); clear x0 x1 x2 y0 y1 y2; obtain ⟨x0, x1, x2⟩ := hX2.three; obtain ⟨y0, y1, y2⟩ := hY2.three; have tok2 := trivial)
    | (go_at_call 35; refine (iTermValid_any k n ks A c _ (by omega) ((hr.alloc _).alloc _)).mono ?_; rw [hv1.out]; rintro e w1 ⟨rfl, hb1⟩; have hX1 : Blk w1 w.heap.size #[.int .i64 k, .int .i64 n, .slice A ks.length c] := ((Blk.new_ _ 27 _ rfl).alloc _).keep hb1; have hY1 : Blk w1 (w.heap.size + 1) #[.int .i64 k', .int .i64 n', .slice B ls.length d] := (Blk.new_ _ 27 _ (by simp)).keep hb1; have g1 : Below w.heap.size w w1 := (((Below.refl _ _).alloc (Nat.le_refl _) _).alloc (by simp) _).trans (hb1.mono (by simp; omega)); obtain ⟨x0, x1, x2⟩ := hX1.three; obtain ⟨y0, y1, y2⟩ := hY1.three; have tok1 := trivial))
    go_ret
    exact ⟨rfl, g3⟩
  | false =>
    rw [if_neg (by simp)]
    replace hT := hide hT
    by_cases h1 : ca = 0
    · by_cases h2 : cb = 0
      · rw [if_neg (by omega)]
        subst h1 h2
        cases hU : tmEq (.mk xk xn xs) (.mk yk yn ys) with
        | true =>
          rw [if_pos rfl]
          replace hU := hide hU
          go_enter Tryz.func10, Tryz.ntmps10
          go_wp2_with (first
    | (go_at_call 9; have _t := tok5; refine (iSame_any xk xn xs A4 c4 yk yn ys A5 c5 _ hl4 hl5 (r45.alloc _) (r5.alloc _)).mono ?_; rw [hU.out]; rintro e w6 ⟨rfl, hb6⟩; have g6 := (g5.alloc g5.size (.cells #[.int .i64 yk, .int .i64 yn, .slice A5 ys.length c5] 27)).trans (hb6.mono (by have := g5.size; simp; omega)))
    | (go_at_call 19; have _t := tok4; refine (hN2.out _ ((hr'.below g4).alloc _)).mono ?_; rintro e w5 ⟨A5, c5, rfl, hl5, r5, hb5⟩; have hP5 := (Blk.new_ w4 27 #[.int .i64 xk, .int .i64 xn, .slice A4 xs.length c4] rfl).keep hb5; have g5 := (g4.alloc g4.size (.cells #[.int .i64 xk, .int .i64 xn, .slice A4 xs.length c4] 27)).trans (hb5.mono (by have := g4.size; simp; omega)); have r45 := (r4.alloc (.cells #[.int .i64 xk, .int .i64 xn, .slice A4 xs.length c4] 27)).below hb5; obtain ⟨p0, p1, p2⟩ := hP5.three; have lp := hP5.lt; have tok5 := trivial)
    | (go_at_call 19; have _t := tok3; refine (hN1.out _ (hr.below g3)).mono ?_; rintro e w4 ⟨A4, c4, rfl, hl4, r4, hb4⟩; have hY4 := hY3.keep hb4; have g4 := g3.trans (hb4.mono g3.size); clear x0 x1 x2 y0 y1 y2; obtain ⟨y0, y1, y2⟩ := hY4.three; have ly4 := hY4.lt; have tok4 := trivial)
    | (go_at_call 9; have _t := tok2; refine (iSame_any k n ks A c k' n' ls B d _ (by omega) (by omega) (hr.below g2) (hr'.below g2)).mono ?_; rw [hT.out]; rintro e w3 ⟨rfl, hb3⟩; have hX3 := hX2.keep hb3; have hY3 := hY2.keep hb3; have g3 := g2.trans (hb3.mono g2.size); clear x0 x1 x2 y0 y1 y2; obtain ⟨x0, x1, x2⟩ := hX3.three; obtain ⟨y0, y1, y2⟩ := hY3.three; have tok3 := trivial)
    | (go_at_call 36; refine (within_any _ _ _ _).mono ?_; rintro e w9 ⟨rfl, rfl⟩)
    | (go_at_call 35; have _t := tok1; refine (iTermValid_any k' n' ls B d _ (by omega) (hr'.below g1)).mono ?_; rw [hv2.out]; rintro e w2 ⟨rfl, hb2⟩; have hX2 := hX1.keep hb2; have hY2 := hY1.keep hb2; have g2 := g1.trans (hb2.mono g1.size); clear x0 x1 x2 y0 y1 y2; obtain ⟨x0, x1, x2⟩ := hX2.three; obtain ⟨y0, y1, y2⟩ := hY2.three; have tok2 := trivial)
    | (go_at_call 35; refine (iTermValid_any k n ks A c _ (by omega) ((hr.alloc _).alloc _)).mono ?_; rw [hv1.out]; rintro e w1 ⟨rfl, hb1⟩; have hX1 : Blk w1 w.heap.size #[.int .i64 k, .int .i64 n, .slice A ks.length c] := ((Blk.new_ _ 27 _ rfl).alloc _).keep hb1; have hY1 : Blk w1 (w.heap.size + 1) #[.int .i64 k', .int .i64 n', .slice B ls.length d] := (Blk.new_ _ 27 _ (by simp)).keep hb1; have g1 : Below w.heap.size w w1 := (((Below.refl _ _).alloc (Nat.le_refl _) _).alloc (by simp) _).trans (hb1.mono (by simp; omega)); obtain ⟨x0, x1, x2⟩ := hX1.three; obtain ⟨y0, y1, y2⟩ := hY1.three; have tok1 := trivial))
          go_ret
          exact ⟨rfl, g6⟩
        | false =>
          rw [if_neg (by simp)]
          replace hU := hide hU
          go_enter Tryz.func10, Tryz.ntmps10
          go_wp2_with (first
    | (go_at_call 9; have _t := tok5; refine (iSame_any xk xn xs A4 c4 yk yn ys A5 c5 _ hl4 hl5 (r45.alloc _) (r5.alloc _)).mono ?_; rw [hU.out]; rintro e w6 ⟨rfl, hb6⟩; have g6 := (g5.alloc g5.size (.cells #[.int .i64 yk, .int .i64 yn, .slice A5 ys.length c5] 27)).trans (hb6.mono (by have := g5.size; simp; omega)))
    | (go_at_call 19; have _t := tok4; refine (hN2.out _ ((hr'.below g4).alloc _)).mono ?_; rintro e w5 ⟨A5, c5, rfl, hl5, r5, hb5⟩; have hP5 := (Blk.new_ w4 27 #[.int .i64 xk, .int .i64 xn, .slice A4 xs.length c4] rfl).keep hb5; have g5 := (g4.alloc g4.size (.cells #[.int .i64 xk, .int .i64 xn, .slice A4 xs.length c4] 27)).trans (hb5.mono (by have := g4.size; simp; omega)); have r45 := (r4.alloc (.cells #[.int .i64 xk, .int .i64 xn, .slice A4 xs.length c4] 27)).below hb5; obtain ⟨p0, p1, p2⟩ := hP5.three; have lp := hP5.lt; have tok5 := trivial)
    | (go_at_call 19; have _t := tok3; refine (hN1.out _ (hr.below g3)).mono ?_; rintro e w4 ⟨A4, c4, rfl, hl4, r4, hb4⟩; have hY4 := hY3.keep hb4; have g4 := g3.trans (hb4.mono g3.size); clear x0 x1 x2 y0 y1 y2; obtain ⟨y0, y1, y2⟩ := hY4.three; have ly4 := hY4.lt; have tok4 := trivial)
    | (go_at_call 9; have _t := tok2; refine (iSame_any k n ks A c k' n' ls B d _ (by omega) (by omega) (hr.below g2) (hr'.below g2)).mono ?_; rw [hT.out]; rintro e w3 ⟨rfl, hb3⟩; have hX3 := hX2.keep hb3; have hY3 := hY2.keep hb3; have g3 := g2.trans (hb3.mono g2.size); clear x0 x1 x2 y0 y1 y2; obtain ⟨x0, x1, x2⟩ := hX3.three; obtain ⟨y0, y1, y2⟩ := hY3.three; have tok3 := trivial)
    | (go_at_call 36; refine (within_any _ _ _ _).mono ?_; rintro e w9 ⟨rfl, rfl⟩)
    | (go_at_call 35; have _t := tok1; refine (iTermValid_any k' n' ls B d _ (by omega) (hr'.below g1)).mono ?_; rw [hv2.out]; rintro e w2 ⟨rfl, hb2⟩; have hX2 := hX1.keep hb2; have hY2 := hY1.keep hb2; have g2 := g1.trans (hb2.mono g1.size); clear x0 x1 x2 y0 y1 y2; obtain ⟨x0, x1, x2⟩ := hX2.three; obtain ⟨y0, y1, y2⟩ := hY2.three; have tok2 := trivial)
    | (go_at_call 35; refine (iTermValid_any k n ks A c _ (by omega) ((hr.alloc _).alloc _)).mono ?_; rw [hv1.out]; rintro e w1 ⟨rfl, hb1⟩; have hX1 : Blk w1 w.heap.size #[.int .i64 k, .int .i64 n, .slice A ks.length c] := ((Blk.new_ _ 27 _ rfl).alloc _).keep hb1; have hY1 : Blk w1 (w.heap.size + 1) #[.int .i64 k', .int .i64 n', .slice B ls.length d] := (Blk.new_ _ 27 _ (by simp)).keep hb1; have g1 : Below w.heap.size w w1 := (((Below.refl _ _).alloc (Nat.le_refl _) _).alloc (by simp) _).trans (hb1.mono (by simp; omega)); obtain ⟨x0, x1, x2⟩ := hX1.three; obtain ⟨y0, y1, y2⟩ := hY1.three; have tok1 := trivial))
          go_ret
          exact ⟨rfl, g6⟩
      · rw [if_pos (.inr h2)]
        subst h1
        have q2 : (cb != 0) = true := by simpa using h2
        clear h2
        go_enter Tryz.func10, Tryz.ntmps10
        go_wp2_with (first
    | (go_at_call 19; have _t := tok4; refine (hN2.out _ ((hr'.below g4).alloc _)).mono ?_; rintro e w5 ⟨A5, c5, rfl, hl5, r5, hb5⟩; have hP5 := (Blk.new_ w4 27 #[.int .i64 xk, .int .i64 xn, .slice A4 xs.length c4] rfl).keep hb5; have g5 := (g4.alloc g4.size (.cells #[.int .i64 xk, .int .i64 xn, .slice A4 xs.length c4] 27)).trans (hb5.mono (by have := g4.size; simp; omega)); have r45 := (r4.alloc (.cells #[.int .i64 xk, .int .i64 xn, .slice A4 xs.length c4] 27)).below hb5; obtain ⟨p0, p1, p2⟩ := hP5.three; have lp := hP5.lt; have tok5 := trivial)
    | (go_at_call 19; have _t := tok3; refine (hN1.out _ (hr.below g3)).mono ?_; rintro e w4 ⟨A4, c4, rfl, hl4, r4, hb4⟩; have hY4 := hY3.keep hb4; have g4 := g3.trans (hb4.mono g3.size); clear x0 x1 x2 y0 y1 y2; obtain ⟨y0, y1, y2⟩ := hY4.three; have ly4 := hY4.lt; have tok4 := trivial)
    | (go_at_call 9; have _t := tok2; refine (iSame_any k n ks A c k' n' ls B d _ (by omega) (by omega) (hr.below g2) (hr'.below g2)).mono ?_; rw [hT.out]; rintro e w3 ⟨rfl, hb3⟩; have hX3 := hX2.keep hb3; have hY3 := hY2.keep hb3; have g3 := g2.trans (hb3.mono g2.size); clear x0 x1 x2 y0 y1 y2; obtain ⟨x0, x1, x2⟩ := hX3.three; obtain ⟨y0, y1, y2⟩ := hY3.three; have tok3 := trivial)
    | (go_at_call 36; refine (within_any _ _ _ _).mono ?_; rintro e w9 ⟨rfl, rfl⟩)
    | (go_at_call 35; have _t := tok1; refine (iTermValid_any k' n' ls B d _ (by omega) (hr'.below g1)).mono ?_; rw [hv2.out]; rintro e w2 ⟨rfl, hb2⟩; have hX2 := hX1.keep hb2; have hY2 := hY1.keep hb2; have g2 := g1.trans (hb2.mono g1.size); clear x0 x1 x2 y0 y1 y2; obtain ⟨x0, x1, x2⟩ := hX2.three; obtain ⟨y0, y1, y2⟩ := hY2.three; have tok2 := trivial)
    | (go_at_call 35; refine (iTermValid_any k n ks A c _ (by omega) ((hr.alloc _).alloc _)).mono ?_; rw [hv1.out]; rintro e w1 ⟨rfl, hb1⟩; have hX1 : Blk w1 w.heap.size #[.int .i64 k, .int .i64 n, .slice A ks.length c] := ((Blk.new_ _ 27 _ rfl).alloc _).keep hb1; have hY1 : Blk w1 (w.heap.size + 1) #[.int .i64 k', .int .i64 n', .slice B ls.length d] := (Blk.new_ _ 27 _ (by simp)).keep hb1; have g1 : Below w.heap.size w w1 := (((Below.refl _ _).alloc (Nat.le_refl _) _).alloc (by simp) _).trans (hb1.mono (by simp; omega)); obtain ⟨x0, x1, x2⟩ := hX1.three; obtain ⟨y0, y1, y2⟩ := hY1.three; have tok1 := trivial))
        go_ret
        exact ⟨rfl, g5.alloc g5.size _⟩
    · rw [if_pos (.inl h1)]
      have q2 : (ca != 0) = true := by simpa using h1
      clear h1
      go_enter Tryz.func10, Tryz.ntmps10
      go_wp2_with (first
    | (go_at_call 19; have _t := tok4; refine (hN2.out _ ((hr'.below g4).alloc _)).mono ?_; rintro e w5 ⟨A5, c5, rfl, hl5, r5, hb5⟩; have hP5 := (Blk.new_ w4 27 #[.int .i64 xk, .int .i64 xn, .slice A4 xs.length c4] rfl).keep hb5; have g5 := (g4.alloc g4.size (.cells #[.int .i64 xk, .int .i64 xn, .slice A4 xs.length c4] 27)).trans (hb5.mono (by have := g4.size; simp; omega)); have r45 := (r4.alloc (.cells #[.int .i64 xk, .int .i64 xn, .slice A4 xs.length c4] 27)).below hb5; obtain ⟨p0, p1, p2⟩ := hP5.three; have lp := hP5.lt; have tok5 := trivial)
    | (go_at_call 19; have _t := tok3; refine (hN1.out _ (hr.below g3)).mono ?_; rintro e w4 ⟨A4, c4, rfl, hl4, r4, hb4⟩; have hY4 := hY3.keep hb4; have g4 := g3.trans (hb4.mono g3.size); clear x0 x1 x2 y0 y1 y2; obtain ⟨y0, y1, y2⟩ := hY4.three; have ly4 := hY4.lt; have tok4 := trivial)
    | (go_at_call 9; have _t := tok2; refine (iSame_any k n ks A c k' n' ls B d _ (by omega) (by omega) (hr.below g2) (hr'.below g2)).mono ?_; rw [hT.out]; rintro e w3 ⟨rfl, hb3⟩; have hX3 := hX2.keep hb3; have hY3 := hY2.keep hb3; have g3 := g2.trans (hb3.mono g2.size); clear x0 x1 x2 y0 y1 y2; obtain ⟨x0, x1, x2⟩ := hX3.three; obtain ⟨y0, y1, y2⟩ := hY3.three; have tok3 := trivial)
    | (go_at_call 36; refine (within_any _ _ _ _).mono ?_; rintro e w9 ⟨rfl, rfl⟩)
    | (go_at_call 35; have _t := tok1; refine (iTermValid_any k' n' ls B d _ (by omega) (hr'.below g1)).mono ?_; rw [hv2.out]; rintro e w2 ⟨rfl, hb2⟩; have hX2 := hX1.keep hb2; have hY2 := hY1.keep hb2; have g2 := g1.trans (hb2.mono g1.size); clear x0 x1 x2 y0 y1 y2; obtain ⟨x0, x1, x2⟩ := hX2.three; obtain ⟨y0, y1, y2⟩ := hY2.three; have tok2 := trivial)
    | (go_at_call 35; refine (iTermValid_any k n ks A c _ (by omega) ((hr.alloc _).alloc _)).mono ?_; rw [hv1.out]; rintro e w1 ⟨rfl, hb1⟩; have hX1 : Blk w1 w.heap.size #[.int .i64 k, .int .i64 n, .slice A ks.length c] := ((Blk.new_ _ 27 _ rfl).alloc _).keep hb1; have hY1 : Blk w1 (w.heap.size + 1) #[.int .i64 k', .int .i64 n', .slice B ls.length d] := (Blk.new_ _ 27 _ (by simp)).keep hb1; have g1 : Below w.heap.size w w1 := (((Below.refl _ _).alloc (Nat.le_refl _) _).alloc (by simp) _).trans (hb1.mono (by simp; omega)); obtain ⟨x0, x1, x2⟩ := hX1.three; obtain ⟨y0, y1, y2⟩ := hY1.three; have tok1 := trivial))
      go_ret
      exact ⟨rfl, g5.alloc g5.size _⟩
end Go.Proofs.YthgmofdfecioaaaGreatDoor

namespace Go.Proofs.YthgmofdfecioaaaGreatDoor
open Go.RowKit
set_option linter.unusedSimpArgs false
set_option linter.unusedVariables false

/-- the reader at block r: its bytes lie elsewhere, all below B; so many numbers have been asked for -/
def Rdr (B : Nat) (w : World) (r p : Nat) : Prop :=
  ∃ (A : Option Addr) (bs : List Int) (c : Nat), Blk w r #[.slice A bs.length c, .int .i64 p] ∧ bs.length ≤ 2000 ∧ r < B ∧
    ∀ j (hj : j < bs.length), ∃ b off, A = some ⟨b, off, none⟩ ∧ w.cell? ⟨b, off + j, none⟩ = some (.int .u8 bs[j]) ∧ 0 ≤ bs[j] ∧ bs[j] ≤ 255 ∧ b ≠ r ∧ b < B
theorem Rdr.keep {B r p : Nat} {w w' : World} (h : Rdr B w r p) (hk : ∀ b, b < B → w'.heap[b]? = w.heap[b]?) : Rdr B w' r p := by
  obtain ⟨A, bs, c, ⟨t, h1⟩, h2, h3, h4⟩ := h
  refine ⟨A, bs, c, ⟨t, (hk r h3).trans h1⟩, h2, h3, fun j hj => ?_⟩
  obtain ⟨b, off, e, h5, h6, h7, h8, h9⟩ := h4 j hj
  exact ⟨b, off, e, (World.cell?_of_block (w := w) (a := ⟨b, off + j, none⟩) (hk b h9)).trans h5, h6, h7, h8, h9⟩
theorem Rdr.below {B B' r p : Nat} {w w' : World} (h : Rdr B w r p) (hb : Below B' w w') (hB : B ≤ B') : Rdr B w' r p := h.keep fun b hl => hb.block b (by omega)
theorem Rdr.alloc {B r p : Nat} {w : World} (h : Rdr B w r p) (hB : B ≤ w.heap.size) (o : Obj) : Rdr B (w.alloc o) r p := h.keep fun b hl => Below.heap_alloc w o b (by omega)
theorem Rdr.drew {B r p : Nat} {w : World} (h : Rdr B w r p) : Rdr B w.drew r p := h
theorem Rdr.setCell {B r p : Nat} {w : World} (h : Rdr B w r p) {a : Addr} (ha : B ≤ a.block) (u : Value) : Rdr B (w.setCell a u) r p := h.keep fun b hl => Below.heap_setCell w a u b (by omega)
theorem Rdr.step {B r p : Nat} {w : World} (h : Rdr B w r p) (q : Nat) : Rdr B (w.setCell ⟨r, 1, none⟩ (.int .i64 q)) r q := by
  obtain ⟨A, bs, c, h1, h2, h3, h4⟩ := h
  refine ⟨A, bs, c, h1.set_ 1 _, h2, h3, fun j hj => ?_⟩
  obtain ⟨b, off, e, h5, h6, h7, h8, h9⟩ := h4 j hj
  exact ⟨b, off, e, (World.cell?_of_block (w := w) (a := ⟨b, off + j, none⟩) (Below.heap_setCell w _ _ b h8)).trans h5, h6, h7, h8, h9⟩

/-- what asking for a number below n gives -/
def Picked (B : Nat) (w : World) (r p : Nat) (n : Int) (e : Ending) (w' : World) : Prop :=
  ∃ m : Nat, e = .returned (.int .i64 m) ∧ (1 ≤ n → (m : Int) < n) ∧ (n < 1 → m = 0) ∧ Rdr B w' r (p + 1) ∧ w.grownBy w' (some r)

theorem ofInt_i64 (a : Nat) (ha : a < 9223372036854775808) : (BitVec.ofInt 64 (a : Int)).toNat = a := by
  rw [BitVec.ofInt_natCast, BitVec.toNat_ofNat]; exact Nat.mod_eq_of_lt (by omega)
theorem i64_xor_nat (a b : Nat) (ha : a < 9223372036854775808) (hb : b < 9223372036854775808) : bits .xor .i64 (a : Int) (b : Int) = ((a ^^^ b : Nat) : Int) := by
  have hx : a ^^^ b < 2 ^ 63 := Nat.xor_lt_two_pow (by omega) (by omega)
  show IntKind.i64.wrap ((BitVec.ofInt 64 (a : Int) ^^^ BitVec.ofInt 64 (b : Int)).toNat : Int) = _
  rw [BitVec.toNat_xor, ofInt_i64 a ha, ofInt_i64 b hb, IntKind.wrap_i64]
  omega

theorem mix_sum (x1 x2 : Int) (p dv : Nat) (h1 : 0 ≤ x1) (h2 : x1 ≤ 255) (h3 : 0 ≤ x2) (h4 : x2 ≤ 255) (h5 : p ≤ 1000000000) (h6 : dv ≤ p) :
    wrap64 (x1 * 131 + x2 * 1117 + (p : Int) * 29 + wrap64 (wrap64 (dv : Int) * 53)) = x1 * 131 + x2 * 1117 + (p : Int) * 29 + (dv : Int) * 53 ∧ 0 ≤ x1 * 131 + x2 * 1117 + (p : Int) * 29 + (dv : Int) * 53 ∧ x1 * 131 + x2 * 1117 + (p : Int) * 29 + (dv : Int) * 53 ≤ ((200000000000 : Nat) : Int) := by
  have e1 : wrap64 (dv : Int) = dv := IntWalk.wrap64_in _ ⟨by omega, by omega⟩
  have e2 : wrap64 ((dv : Int) * 53) = (dv : Int) * 53 := IntWalk.wrap64_in _ ⟨by omega, by omega⟩
  rw [e1, e2]
  exact ⟨IntWalk.wrap64_in _ ⟨by omega, by omega⟩, by omega, by omega⟩
theorem div_wrap (m : Nat) (h : m ≤ 200000000000) : wrap64 ((m : Int) / 64) = (m : Int) / 64 := IntWalk.wrap64_in _ ⟨by omega, by omega⟩

set_option maxHeartbeats 4000000 in
set_option maxRecDepth 100000 in
theorem pick_any (B r p : Nat) (n : Int) (w : World) (hp : p ≤ 1000000000) (hn : n ≤ 1000000000) (hB : B ≤ w.heap.size) (hr : Rdr B w r p) :
    Calls Tryz.prog 49 #[.pointer (some ⟨r, 0, none⟩), .int .i64 n] w (Picked B w r p n) := by
  have hst := hr.step (p + 1)
  obtain ⟨A, bs, c, h1, h2, h3, h4⟩ := hr
  have b0 := h1.at_ (i := 0) rfl
  have b1 := h1.at_ (i := 1) rfl
  have e1 := h1.frozen 1
  have b2 := (h1.set_ 1 (.int .i64 (p + 1 : Nat))).at_ (i := 0) rfl
  have b3 := (h1.set_ 1 (.int .i64 (p + 1 : Nat))).at_ (i := 1) rfl
  have hg : w.grownBy (w.setCell ⟨r, 1, none⟩ (.int .i64 (p + 1 : Nat))) (some r) := only_setCell (World.grownBy.refl _ _) (.inl rfl) _
  by_cases hn1 : n < 1
  · go_enter Tryz.func49, Tryz.ntmps49
    go_wp2_with fail
    go_ret
    exact ⟨0, rfl, by omega, fun _ => rfl, hst, hg⟩
  · by_cases hl : bs.length = 0
    · have hq : ((bs.length : Int) == 0) = true := by simp [hl]
      have hl' := hide hl
      clear hl
      go_enter Tryz.func49, Tryz.ntmps49
      go_wp2_with fail
      go_ret
      exact ⟨0, rfl, fun h => by simp; omega, fun _ => rfl, hst, hg⟩
    · have hq : ((bs.length : Int) == 0) = false := beq_eq_false_iff_ne.2 (by omega)
      by_cases hk : p < bs.length
      · obtain ⟨b, off, rfl, h5, h6, h7, h8, h9⟩ := h4 p hk
        generalize bs[p] = x at *
        have h5' : (w.setCell ⟨r, 1, none⟩ (.int .i64 (p + 1 : Nat))).cell? ⟨b, off + p, none⟩ = some (.int .u8 x) := (World.cell?_of_block (w := w) (a := ⟨b, off + p, none⟩) (Below.heap_setCell w _ _ b h8)).trans h5
        go_enter Tryz.func49, Tryz.ntmps49
        go_wp2_with fail
        go_ret
        refine ⟨(x % n).toNat, ?_, fun h => ?_, fun h => (by omega), hst, hg⟩
        · rw [Int.toNat_of_nonneg (Int.emod_nonneg _ (by omega))]; rfl
        · rw [Int.toNat_of_nonneg (Int.emod_nonneg _ (by omega))]; exact Int.emod_lt_of_pos _ (by omega)
      · have hlp : 0 < bs.length := by omega
        have hj1 := Nat.mod_lt p hlp
        have t1 : (p : Int).tmod (bs.length : Int) = ((p % bs.length : Nat) : Int) := by rw [Int.tmod_eq_emod_of_nonneg (by omega)]; rfl
        generalize p % bs.length = j1 at hj1 t1
        have t2 : IntKind.i64.wrap ((p : Int) * 7) = ((p * 7 : Nat) : Int) := by rw [IntWalk.i64_in _ (by omega)]; omega
        obtain ⟨q7, hq7⟩ : ∃ q7, p * 7 = q7 := ⟨_, rfl⟩
        rw [hq7] at t2
        have t3 : IntKind.i64.wrap ((q7 : Int) + 3) = ((q7 + 3 : Nat) : Int) := by rw [IntWalk.i64_in _ (by omega)]; omega
        obtain ⟨q8, hq8⟩ : ∃ q8, q7 + 3 = q8 := ⟨_, rfl⟩
        rw [hq8] at t3
        have hj2 := Nat.mod_lt q8 hlp
        have t4 : (q8 : Int).tmod (bs.length : Int) = ((q8 % bs.length : Nat) : Int) := by rw [Int.tmod_eq_emod_of_nonneg (by omega)]; rfl
        generalize q8 % bs.length = j2 at hj2 t4
        obtain ⟨ba, offa, rfl, a5, a6, a7, a8, a9⟩ := h4 j1 hj1
        obtain ⟨bb, offb, hA, c5, c6, c7, c8, c9⟩ := h4 j2 hj2
        injection hA with hA
        injection hA with hA1 hA2
        subst hA1 hA2
        generalize bs[j1] = x1 at *
        generalize bs[j2] = x2 at *
        have a5' : (w.setCell ⟨r, 1, none⟩ (.int .i64 (p + 1 : Nat))).cell? ⟨ba, offa + j1, none⟩ = some (.int .u8 x1) := (World.cell?_of_block (w := w) (a := ⟨ba, offa + j1, none⟩) (Below.heap_setCell w _ _ ba a8)).trans a5
        have c5' : (w.setCell ⟨r, 1, none⟩ (.int .i64 (p + 1 : Nat))).cell? ⟨ba, offa + j2, none⟩ = some (.int .u8 x2) := (World.cell?_of_block (w := w) (a := ⟨ba, offa + j2, none⟩) (Below.heap_setCell w _ _ ba a8)).trans c5
        have hdv := Nat.div_le_self p bs.length
        have t10 : (p : Int).tdiv (bs.length : Int) = ((p / bs.length : Nat) : Int) := by rw [Int.tdiv_eq_ediv_of_nonneg (by omega)]; rfl
        generalize p / bs.length = dv at hdv t10
        obtain ⟨hX, hX0, hX1⟩ := mix_sum x1 x2 p dv a6 a7 c6 c7 hp hdv
        obtain ⟨m8, hm8⟩ : ∃ m8 : Nat, x1 * 131 + x2 * 1117 + (p : Int) * 29 + (dv : Int) * 53 = (m8 : Int) := ⟨(x1 * 131 + x2 * 1117 + (p : Int) * 29 + (dv : Int) * 53).toNat, (Int.toNat_of_nonneg hX0).symm⟩
        rw [hm8] at hX hX0 hX1
        have hb8 : m8 ≤ 200000000000 := Int.ofNat_le.1 hX1
        clear hX0 hX1
        have t14 : wrap64 ((m8 : Int) / 64) = (m8 : Int) / 64 := div_wrap m8 hb8
        have hb9 : m8 / 64 ≤ m8 := Nat.div_le_self _ _
        have t13 : bits .xor .i64 (m8 : Int) ((m8 : Int) / 64) = ((m8 ^^^ (m8 / 64) : Nat) : Int) := by
          have := i64_xor_nat m8 (m8 / 64) (by omega) (by omega)
          rw [← this]; rfl
        generalize m8 ^^^ (m8 / 64) = m9 at t13
        have hX' := hide hX
        have T13 := hide t13
        have T14 := hide t14
        clear t13 t14
        clear hm8 hq8 hq7 h4 h1 hdv hX
        go_enter Tryz.func49, Tryz.ntmps49
        go_wp2_with fail
        refine name_world ?_
        intro wx hwx
        have r0 : wx.cell? ⟨r, 0, none⟩ = some (.slice (some ⟨ba, offa, none⟩) bs.length c) := by rw [hwx]; exact b2
        have r1 : wx.cell? ⟨ba, offa + j1, none⟩ = some (.int .u8 x1) := by rw [hwx]; exact a5'
        have r2 : wx.cell? ⟨ba, offa + j2, none⟩ = some (.int .u8 x2) := by rw [hwx]; exact c5'
        have hgx : w.grownBy wx (some r) := by rw [hwx]; exact hg
        have hsx : Rdr B wx r (p + 1) := by rw [hwx]; exact hst
        replace r0 := rule_of r0
        replace r1 := rule_of r1
        replace r2 := rule_of r2
        clear hwx hg hst a5' c5' b2 b3
        refine wp_region_firstY (fun w' => Below wx.heap.size wx w') [0, 1, 2, 3, 4, 5, 6, 7, 8, 9, 10, 11, 12, 13, 14, 15, 16, 17, 18, 19, 20, 21, 22, 23, 24, 25, 26, 27, 28, 29, 30, 31, 32, 33, 34, 35, 36, 37, 38, 39, 40, 41, 42, 43, 44, 45] [] [] [_, _, _, _, _, _, _, _, _, _, _, _, _, _, _, _, _, _, _, _, _, _, _, _, _, _, _, _, _, _, _, _, _, _, _, _, _, _, _, _, _, _, _, _, _, _] [] [] (by kernel_rfl) (by kernel_rfl) rfl rfl rfl (fun _ _ d _ _ h => by cases d <;> exact h) (Below.refl _ _).drew ?_
        repeat (first | ((refine takeY_skip (a' := ?_) ?_ ?_ ?_); (rotate_left); (· (simp [Region.wanted, yielded]; done)); (· (simp only [List.getElem_toArray, List.getElem_cons_zero, List.getElem_cons_succ, Act.put, List.setIfInBounds_toArray, List.set_cons_zero, List.set_cons_succ]; exact rfl))) | ((refine takeY_step (v := ?_) (a' := ?_) ?_ ?_ ?_ ?_); (rotate_left 2); (· (simp [Region.wanted, yielded]; done)); (· (intro w' hS'; go_simp; try (with_reducible rfl))); (· (simp only [List.getElem_toArray, List.getElem_cons_zero, List.getElem_cons_succ, Act.put, List.setIfInBounds_toArray, List.set_cons_zero, List.set_cons_succ]; exact rfl))))
        refine takeY_nil (then_nil ?_)
        have hX := hX'.out
        go_wp2_with fail
        go_ret
        refine ⟨(m9 % n.toNat : Nat), ?_, fun h => ?_, fun h => (by omega), hsx, only_drew hgx⟩
        · have hc : ((m9 % n.toNat : Nat) : Int) = (m9 : Int) % n := by
            rw [Int.natCast_emod, Int.toNat_of_nonneg (by omega)]
          rw [hc]
          show Ending.returned (.int .i64 ((bits .xor .i64 (m8 : Int) (wrap64 ((m8 : Int) / 64))).tmod n)) = _
          rw [T14.out, T13.out, Int.tmod_eq_emod_of_nonneg (by omega)]
        · have h5 := Nat.mod_lt m9 (show 0 < n.toNat by omega)
          omega

/-- bytes that can be read -/
def RdY (w : World) (A : Option Addr) (bs : List Int) : Prop := ∀ j (hj : j < bs.length), ∃ b off, A = some ⟨b, off, none⟩ ∧ w.cell? ⟨b, off + j, none⟩ = some (.int .u8 bs[j]) ∧ 0 ≤ bs[j] ∧ bs[j] ≤ 255
theorem RdY.take {w : World} {A : Option Addr} {bs : List Int} (h : RdY w A bs) (n : Nat) : RdY w A (bs.take n) := fun j hj => by
  rw [List.length_take] at hj
  obtain ⟨b, off, e, h1, h2, h3⟩ := h j (by omega)
  exact ⟨b, off, e, by rw [List.getElem_take]; exact h1, by rw [List.getElem_take]; exact h2, by rw [List.getElem_take]; exact h3⟩
theorem RdY.keeps {w w' : World} {A : Option Addr} {bs : List Int} (h : RdY w A bs) (hk : Keeps w w') : RdY w' A bs := fun j hj => by
  obtain ⟨b, off, e, h1, h2, h3⟩ := h j hj
  exact ⟨b, off, e, hk _ _ h1, h2, h3⟩
theorem Rdr.new {w : World} {A : Option Addr} {bs : List Int} {c : Nat} {t : TypeId} (h : RdY w A bs) (hl : bs.length ≤ 2000) : Rdr (w.heap.size + 1) (w.alloc (.cells #[.slice A bs.length c, .int .i64 0] t)) w.heap.size 0 :=
  ⟨A, bs, c, Blk.new_ _ _ _ rfl, hl, by omega, fun j hj => by
    obtain ⟨b, off, e, h1, h2, h3⟩ := h j hj
    have hb := World.block_lt_of_cell? _ _ h1
    have hb : b < w.heap.size := hb
    exact ⟨b, off, e, Keeps.alloc _ _ _ _ h1, h2, h3, by omega, by omega⟩⟩
/-- an open reader -/
def Opened (w : World) (e : Ending) (w' : World) : Prop := ∃ r, e = .returned (.pointer (some ⟨r, 0, none⟩)) ∧ w.heap.size ≤ r ∧ r < w'.heap.size ∧ Rdr w'.heap.size w' r 0 ∧ Below w.heap.size w w'
theorem Rdr.mono {B B' : Nat} {w : World} {r p : Nat} (h : Rdr B w r p) (hB : B ≤ B') : Rdr B' w r p := by
  obtain ⟨A, bs, c, h1, h2, h3, h4⟩ := h
  exact ⟨A, bs, c, h1, h2, by omega, fun j hj => by obtain ⟨b, off, e, h5, h6, h7, h8, h9⟩ := h4 j hj; exact ⟨b, off, e, h5, h6, h7, h8, by omega⟩⟩
set_option maxHeartbeats 2000000 in
set_option maxRecDepth 100000 in
theorem open_any (bs : List Int) (A : Option Addr) (c : Nat) (w : World) (hl : bs.length ≤ 9223372036854775807) (hc : bs.length ≤ c) (hr : RdY w A bs) : Calls Tryz.prog 21 #[.slice A bs.length c] w (Opened w) := by
  by_cases h2 : bs.length ≤ 2000
  · go_enter Tryz.func21, Tryz.ntmps21
    go_wp2_with fail
    go_ret
    exact ⟨w.heap.size, rfl, Nat.le_refl _, by simp, by simpa using Rdr.new hr h2, (Below.refl _ _).alloc (Nat.le_refl _) _⟩
  · have hr2 := hr.take 2000
    have hl2 : (bs.take 2000).length = 2000 := by rw [List.length_take]; omega
    have hc2 : 2000 ≤ c := by omega
    generalize bs.take 2000 = bs2 at hr2 hl2
    have hl2' := hide hl2
    clear hl2
    go_enter Tryz.func21, Tryz.ntmps21
    go_wp2_with fail
    go_ret
    refine ⟨w.heap.size, rfl, Nat.le_refl _, by simp, ?_, (Below.refl _ _).alloc (Nat.le_refl _) _⟩
    have := Rdr.new (c := c) (t := 66) hr2 (by have := hl2'.out; omega)
    rw [hl2'.out] at this
    simpa using this
end Go.Proofs.YthgmofdfecioaaaGreatDoor

namespace Go.Proofs.YthgmofdfecioaaaGreatDoor
open Go.RowKit
set_option linter.unusedSimpArgs false
set_option linter.unusedVariables false

def intc (xs : List Int) : Array Value := (xs.map (Value.int .i64)).toArray
theorem intc_get {xs : List Int} {j : Nat} (h : j < xs.length) : (intc xs)[j]? = some (.int .i64 xs[j]) := by simp [intc, List.getElem?_eq_getElem h]

/-- what the draw of an element gives -/
def Drawn (B : Nat) (w : World) (r p : Nat) (xs : List Int) (e : Ending) (w' : World) : Prop :=
  ∃ x, x ∈ xs ∧ e = .returned (.int .i64 x) ∧ Rdr B w' r (p + 1) ∧ w.grownBy w' (some r)

set_option maxHeartbeats 2000000 in
set_option maxRecDepth 100000 in
theorem num_any (xs : List Int) (B r p g : Nat) (w : World) (hx : 0 < xs.length) (hx2 : xs.length ≤ 1000) (hp : p ≤ 1000000000) (hB : B ≤ w.heap.size) (hr : Rdr B w r p) (hL : Blk w g (intc xs)) (hg : r ≠ g) :
    Calls Tryz.prog 23 #[.pointer (some ⟨r, 0, none⟩), .slice (some ⟨g, 0, none⟩) xs.length xs.length] w (Drawn B w r p xs) := by
  go_enter Tryz.func23, Tryz.ntmps23
  go_wp2_with (go_at_call 49; refine (pick_any B r p xs.length _ hp (by omega) hB hr).mono ?_; rintro e w1 ⟨m, rfl, hm, hm0, hr1, hg1⟩; have hm := hm (by omega); clear hm0; have hm' : m < xs.length := (by omega); have hc : w1.cell? ⟨g, m, none⟩ = some (.int .i64 xs[m]) := (hL.grown hg1 (by simpa using hg.symm)).at_ (intc_get hm'))
  go_ret
  exact ⟨xs[m], List.getElem_mem hm', rfl, hr1, hg1⟩
end Go.Proofs.YthgmofdfecioaaaGreatDoor

namespace Go.Proofs.YthgmofdfecioaaaGreatDoor
open Go.ChangeShapes Go.WideShapes Go.ChangeAt Go.RowKit
set_option linter.unusedSimpArgs false
set_option linter.unusedVariables false

set_option maxRecDepth 100000 in
theorem open_code {H : Type} {enc : TypeId × Value → H} {W : World} {base : Nat} {spare : Nat → Bool} {held : Bool} {r : Reach} {b0 : Nat} {v : Value} {d : DataW H} {p : List MemPlace} (hv : Value.okWide Tryz.prog W r b0 22 v) (h : DataW.Trod enc Tryz.prog W base spare held 22 v d p) :
    ∃ (xs : List Int) (A : Option Addr) (c : Nat), v = .slice A xs.length c ∧ xs.length ≤ 9223372036854775807 ∧ xs.length ≤ c ∧ RdY W A xs := by
  obtain ⟨a, len, cap, rfl⟩ := Go.WideShapes.okWide_slice Tryz.underlying22 hv
  obtain ⟨fuel, hf⟩ := h
  have hmax : maxLen ≤ 9223372036854775807 := by decide
  rcases open_ints Tryz.underlying22 Tryz.underlying5 (by kernel_rfl) hf with ⟨hcs, _⟩ | ⟨a', len', cap', zs, hcs, _, hl, hm, hz, _, hcell, hwf⟩
  · injection hcs with hcs
    injection hcs with e1 e2 e3
    subst e1 e2 e3
    exact ⟨[], none, 0, rfl, by simp, by simp, fun j hj => absurd hj (Nat.not_lt_zero _)⟩
  · injection hcs with hcs
    injection hcs with e1 e2 e3
    subst e1 e2 e3
    have hzl : len ≤ zs.length := by rw [hz]; split <;> omega
    refine ⟨zs.take len, some a', cap, by rw [List.length_take, Nat.min_eq_left hzl], by rw [List.length_take]; omega, by rw [List.length_take]; omega, fun j hj => ?_⟩
    rw [List.length_take, Nat.min_eq_left hzl] at hj
    have h1 := hcell j (by omega)
    have h00 := hcell 0 (by omega)
    obtain ⟨b, off, spot⟩ := a'
    have hspot : spot = none := by
      have := World.cell?_spot h00
      simpa [Addr.add] using this
    subst hspot
    have e : (⟨b, off, none⟩ : Addr).add j = ⟨b, off + j, none⟩ := by unfold Addr.add; split <;> simp_all
    rw [e, List.getD_eq_getElem?_getD, List.getElem?_eq_getElem (by omega), Option.getD_some] at h1
    have hw := hwf zs[j] (List.getElem_mem _)
    have hw' : (decide ((0 : Int) ≤ zs[j]) && decide (zs[j] ≤ 255)) = true := hw
    simp only [Bool.and_eq_true, decide_eq_true_eq] at hw'
    exact ⟨b, off, rfl, by rw [h1, List.getElem_take], by rw [List.getElem_take]; exact hw'.1, by rw [List.getElem_take]; exact hw'.2⟩
section
variable {H : Type} {enc : TypeId × Value → H} {P : Program}
/-- the row's last step, where of the world behind the call 'Below' alone is known -/
theorem post_below {f : Func} {s : ChangeSpec} {apart fresh handsOn again : Bool} {W W' : World} {args : Array Value} {v : Value} {ds gs : List (DataW H)} {before pa pv : List MemPlace}
    (hW : DataW.Whole enc P f.params.toList s.vars apart W args.toList ds gs before)
    (hres : ∀ (b : Nat) (sp : Nat → Bool) (hd : Bool), DataW.TrodAll enc P W' b sp hd f.resultTypes.toList (v.resultList f.resultTypes.size) (s.fn H (ds ++ gs)).results [])
    (hargs : ∀ sp : Nat → Bool, (∀ p ∈ before, sp p.block = true) → DataW.TrodAll enc P W' 0 sp true f.params.toList args.toList (s.fn H (ds ++ gs)).args pa)
    (hvars : ∀ sp : Nat → Bool, (∀ p ∈ before, sp p.block = true) → DataW.TrodVars enc P W' sp s.vars (s.fn H (ds ++ gs)).vars pv)
    (hps : before = pa ++ pv) (hb : Below W.heap.size W W')
    (hok : ∀ (j : Nat) (t : TypeId) (r : Value), f.resultTypes[j]? = some t → (v.resultList f.resultTypes.size)[j]? = some r → Value.okWide P W' .any 0 t r) :
    s.post enc P f apart fresh handsOn again W args v W' := by
  have hlt : ∀ p ∈ before, p.block < W.heap.size := fun p hp => hW.lt p hp
  have hold : ∀ p ∈ before, (fun b => decide (b < W.heap.size)) p.block = true := fun p hp => by simpa using hlt p hp
  refine ⟨ds, gs, before, [], pa, pv, hW, hres _ _ _, hargs _ hold, hvars _ hold, World.keptBut_mono (fun p hp => ⟨hp, ?_⟩) (hb.frame (· ∈ before)), fun _ => ?_⟩
  · rw [hps, List.mem_append] at hp
    exact Or.inr hp
  · obtain ⟨_, _, _, _, _, hz, hn⟩ := hW
    refine ⟨hok, _, _, ([] ++ pa) ++ pv, ⟨[] ++ pa, pv, trodAll_append (hargs _ (fun _ _ => rfl)) (hres _ _ _), hvars _ (fun _ _ => rfl), rfl, ?_, ?_⟩, ?_⟩
    · intro b off hp
      have hin : MemPlace.cell b off ∈ before := by rw [hps]; simpa using hp
      rw [hb.frozen (hlt _ hin)]
      exact hz b off hin
    · intro ha
      have := hn ha
      rw [hps] at this
      simpa using this
    · intro p hp _
      rw [hps]
      simpa using hp
end
end Go.Proofs.YthgmofdfecioaaaGreatDoor

namespace Go.Proofs.YthgmofdfecioaaaGreatDoor
open Go.RowKit
set_option linter.unusedSimpArgs false
set_option linter.unusedVariables false

theorem Rdr.lt {B : Nat} {w : World} {r p : Nat} (h : Rdr B w r p) : r < B := by obtain ⟨_, _, _, _, _, h, _⟩ := h; exact h
theorem grown_below {B r : Nat} {w w' : World} (h : w.grownBy w' (some r)) (hB : B ≤ w.heap.size) (hr : B ≤ r) : Below B w w' := ⟨h.os, h.tape, h.output, h.size, fun k hk => h.block k (by omega) (fun e => by injection e; omega)⟩
def thmL : List Int := [1, 2, 3, 4, 5, 0, 6, -1]
def numL : List Int := [0, 1, 2, 3, 5, 20, 21, -1]
set_option maxRecDepth 100000 in
theorem l17Thm_any (B r p : Nat) (w : World) (hp : p ≤ 1000000000) (hB : B ≤ w.heap.size) (hr : Rdr B w r p) : Calls Tryz.prog 22 #[.pointer (some ⟨r, 0, none⟩)] w (Drawn B w r p thmL) := by
  have hrl := hr.lt
  go_enter Tryz.func22, Tryz.ntmps22
  go_wp2_with (go_at_call 23; refine (num_any thmL B r p w.heap.size _ (by decide) (by decide) (by omega) (by simp; omega) (hr.alloc (by omega) _) (Blk.new_ _ 3 _ rfl) (by omega)).mono ?_; rintro e w3 ⟨x, hx, rfl, hr3, hg3⟩)
  go_ret
  exact ⟨x, hx, rfl, hr3, grown_trans (only_alloc (World.grownBy.refl _ _) _) hg3⟩
/-- a theorem and a number -/
def DrawnII (w : World) (e : Ending) (w' : World) : Prop := ∃ a b : Int, a ∈ thmL ∧ b ∈ numL ∧ e = .returned (.tuple #[.int .i64 a, .int .i64 b]) ∧ Below w.heap.size w w'
set_option maxRecDepth 100000 in
theorem drawUse_any (bs : List Int) (A : Option Addr) (c : Nat) (w : World) (hl : bs.length ≤ 9223372036854775807) (hc : bs.length ≤ c) (hr : RdY w A bs) : Calls Tryz.prog 6 #[.slice A bs.length c] w (DrawnII w) := by
  go_enter Tryz.func6, Tryz.ntmps6
  go_wp2_with (first
    | (go_at_call 23; have _t := tok2; refine (num_any numL w1.heap.size r (0 + 1) w2.heap.size _ (by decide) (by decide) (by omega) (by simp; omega) (hr2.alloc (by omega) _) (Blk.new_ _ 3 _ rfl) (by omega)).mono ?_; rintro e w3 ⟨y, hy, rfl, hr3, hg3⟩)
    | (go_at_call 22; have _t := tok1; refine (l17Thm_any w1.heap.size r 0 _ (by omega) (Nat.le_refl _) hr1).mono ?_; rintro e w2 ⟨x, hx, rfl, hr2, hg2⟩; have s2 := hg2.size; have tok2 := trivial)
    | (go_at_call 21; refine (open_any bs A c _ hl hc hr).mono ?_; rintro e w1 ⟨r, rfl, hr0, hrlt, hr1, hb1⟩; have tok1 := trivial))
  go_ret2
  have g2 := grown_below hg2 (B := w.heap.size) hb1.size (by omega)
  exact ⟨x, y, hx, hy, rfl, (hb1.trans g2).trans (grown_below (grown_trans (only_alloc (World.grownBy.refl _ _) _) hg3) (by have := hb1.size; omega) (by omega))⟩
set_option maxRecDepth 100000 in
theorem drawPrf_any (bs : List Int) (A : Option Addr) (c : Nat) (w : World) (hl : bs.length ≤ 9223372036854775807) (hc : bs.length ≤ c) (hr : RdY w A bs) : Calls Tryz.prog 11 #[.slice A bs.length c] w fun e w' => ∃ a : Int, a ∈ thmL ∧ e = .returned (.int .i64 a) ∧ Below w.heap.size w w' := by
  go_enter Tryz.func11, Tryz.ntmps11
  go_wp2_with (first
    | (go_at_call 22; have _t := tok1; refine (l17Thm_any w1.heap.size r 0 _ (by omega) (Nat.le_refl _) hr1).mono ?_; rintro e w2 ⟨x, hx, rfl, hr2, hg2⟩; have s2 := hg2.size; have tok2 := trivial)
    | (go_at_call 21; refine (open_any bs A c _ hl hc hr).mono ?_; rintro e w1 ⟨r, rfl, hr0, hrlt, hr1, hb1⟩; have tok1 := trivial))
  go_ret
  exact ⟨x, hx, rfl, hb1.trans (grown_below hg2 hb1.size (by omega))⟩
theorem gotS_at {w : World} {r : Option (Tm × Tm)} {e : Ending} {w' : World} (h : GotS w r e w') {k1 n1 k2 n2 : Int} {ks1 ks2 : List Tm} {b : Bool} (h1 : (r.map Prod.fst).getD (.mk 0 0 []) = .mk k1 n1 ks1) (h2 : (r.map Prod.snd).getD (.mk 0 0 []) = .mk k2 n2 ks2) (hb : r.isSome = b) :
    ∃ A1 c1 A2 c2, e = .returned (.tuple #[.agg #[.int .i64 k1, .int .i64 n1, .slice A1 ks1.length c1], .agg #[.int .i64 k2, .int .i64 n2, .slice A2 ks2.length c2], .bool b]) ∧ ks1.length ≤ 9223372036854775807 ∧ ks2.length ≤ 9223372036854775807 ∧ Rd w' A1 0 ks1 ∧ Rd w' A2 0 ks2 ∧ Below w.heap.size w w' := by
  obtain ⟨x1, y1, z1, A1, c1, x2, y2, z2, A2, c2, e1, e2, rfl, l1, l2, r1, r2, hw⟩ := h
  rw [h1] at e1
  rw [h2] at e2
  injection e1 with a1 a2 a3
  injection e2 with a4 a5 a6
  subst a1 a2 a3 a4 a5 a6 hb
  exact ⟨A1, c1, A2, c2, rfl, l1, l2, r1, r2, hw⟩
theorem gotU_at {w : World} {r : Option (Tm × Tm)} {e : Ending} {w' : World} (h : GotU w r e w') {k1 n1 k2 n2 : Int} {ks1 ks2 : List Tm} {b : Bool} (h1 : (r.map Prod.fst).getD (.mk 0 0 []) = .mk k1 n1 ks1) (h2 : (r.map Prod.snd).getD (.mk 0 0 []) = .mk k2 n2 ks2) (hb : r.isSome = b) :
    ∃ A1 c1 A2 c2, e = .returned (.tuple #[.agg #[.int .i64 k1, .int .i64 n1, .slice A1 ks1.length c1], .agg #[.int .i64 k2, .int .i64 n2, .slice A2 ks2.length c2], .bool b]) ∧ ks1.length ≤ 9223372036854775807 ∧ ks2.length ≤ 9223372036854775807 ∧ Rd w' A1 0 ks1 ∧ Rd w' A2 0 ks2 ∧ Below w.heap.size w w' := by
  obtain ⟨x1, y1, z1, A1, c1, x2, y2, z2, A2, c2, f1, f2, mid, e1, e2, rfl, l1, l2, r1, r2, m1, m2, hw⟩ := h
  rw [h1] at e1
  rw [h2] at e2
  injection e1 with a1 a2 a3
  injection e2 with a4 a5 a6
  subst a1 a2 a3 a4 a5 a6 hb
  exact ⟨A1, c1, A2, c2, rfl, l1, l2, r1.rd, r2.rd, hw⟩
theorem use_size {oS oP : Option Tm} {n : Int} {r : Option (Tm × Tm)} (h : UseAt oS oP n r) {k1 n1 k2 n2 : Int} {ks1 ks2 : List Tm} (h1 : (r.map Prod.fst).getD (.mk 0 0 []) = .mk k1 n1 ks1) (h2 : (r.map Prod.snd).getD (.mk 0 0 []) = .mk k2 n2 ks2) : sizes ks1 ≤ 400 ∧ sizes ks2 ≤ 400 := by
  rcases h with ⟨s, p, m, pk, pn, pks, kb, nb, kbs, rk, rn, rks, rfl, rfl, rfl, hu, rfl⟩ | ⟨hno, rfl⟩
  · simp only [Option.map_some, Option.getD_some] at h1 h2
    injection h1 with a1 a2 a3
    injection h2 with a4 a5 a6
    subst a1 a2 a3 a4 a5 a6
    exact ⟨validT_size' hu.hav, validT_size' hu.hr⟩
  · simp only [Option.map_none, Option.getD_none] at h1 h2
    injection h1 with a1 a2 a3
    injection h2 with a4 a5 a6
    subst a3 a6
    simp [sizes]
end Go.Proofs.YthgmofdfecioaaaGreatDoor

namespace Go.Proofs.YthgmofdfecioaaaGreatDoor
open Go.RowKit
set_option linter.unusedSimpArgs false
set_option linter.unusedVariables false

theorem name_callsT {P : Program} {f : FuncId} {args : Array Value} {w : World} {Q : Ending → World → Prop} (h : ∀ wx, wx = w → Calls P f args wx Q) : Calls P f args w Q := h w rfl
/-- both sides of a statement's instance, if it is an equality, are not inconvertible -/
def okS (s : Tm) (m : Nat) : Bool := match substI 0 (numT m) (kidT s.ks 1) with
  | some u => if u.k = 10 then convI 200 (kidT u.ks 1) (kidT u.ks 2) != 2 else true
  | none => true
set_option maxRecDepth 100000 in
theorem okS1 : ([0, 1, 2, 3, 5, 20].all fun m => okS thS1 m) = true := by decide +kernel
set_option maxRecDepth 100000 in
theorem okS2 : ([0, 1, 2, 3, 5, 20].all fun m => okS thS2 m) = true := by decide +kernel
set_option maxRecDepth 100000 in
theorem okS3 : ([0, 1, 2, 3, 5, 20].all fun m => okS thS3 m) = true := by decide +kernel
set_option maxRecDepth 100000 in
theorem okS4 : ([0, 1, 2, 3, 5, 20].all fun m => okS thS4 m) = true := by decide +kernel
set_option maxRecDepth 100000 in
theorem okS5 : ([0, 1, 2, 3, 5, 20].all fun m => okS thS5 m) = true := by decide +kernel
theorem num_mem {m : Nat} (h : (m : Int) ∈ numL) (h2 : m ≤ 20) : m ∈ [0, 1, 2, 3, 5, 20] := by
  simp only [numL, List.mem_cons, List.not_mem_nil, or_false] at h ⊢
  omega
theorem okS_all {thm : Int} {sR pR sB pB : List UInt8} {s p : Tm} (h : ThmAt thm sR pR sB pB (some s) (some p)) {m : Nat} (hm : (m : Int) ∈ numL) (h2 : m ≤ 20) : okS s m = true := by
  have hmm := num_mem hm h2
  rcases h with ⟨_, _, _, _, _, h, _⟩ | ⟨_, _, _, _, _, h, _⟩ | ⟨_, _, _, _, _, h, _⟩ | ⟨_, _, _, _, _, h, _⟩ | ⟨_, _, _, _, _, h, _⟩ | ⟨_, _, _, _, _, h, _⟩
  · injection h with h; subst h; exact List.all_eq_true.1 okS1 m hmm
  · injection h with h; subst h; exact List.all_eq_true.1 okS2 m hmm
  · injection h with h; subst h; exact List.all_eq_true.1 okS3 m hmm
  · injection h with h; subst h; exact List.all_eq_true.1 okS4 m hmm
  · injection h with h; subst h; exact List.all_eq_true.1 okS5 m hmm
  · cases h
/-- what is used: nothing; or a statement that is no equality; or an equality whose sides are not inconvertible -/
def Sides (r : Option (Tm × Tm)) : Prop := r = none ∨ (∃ p k n ks, r = some (p, .mk k n ks) ∧ k ≠ 10) ∨
  (∃ p n t0 ka na sa kb nb sb, r = some (p, .mk 10 n [t0, .mk ka na sa, .mk kb nb sb]) ∧ validT (.mk ka na sa) = true ∧ validT (.mk kb nb sb) = true ∧ convI 200 (.mk ka na sa) (.mk kb nb sb) ≠ 2)
theorem sides_of {thm n : Int} {sR pR sB pB : List UInt8} {oS oP : Option Tm} (h : ThmAt thm sR pR sB pB oS oP) (hn : n ∈ numL) {r : Option (Tm × Tm)} (hu : UseAt oS oP n r) : Sides r := by
  rcases hu with ⟨s, p, m, pk, pn, pks, kb, nb, kbs, rk, rn, rks, rfl, rfl, rfl, hu, rfl⟩ | ⟨hno, rfl⟩
  · have ho := okS_all h hn hu.hm
    rw [okS, hu.hs, show kidT (Tm.mk 3 0 [.mk 6 0 [], .mk kb nb kbs]).ks 1 = .mk kb nb kbs from rfl, hu.hj] at ho
    by_cases hk : rk = 10
    · subst hk
      obtain ⟨t0, a, b, rfl⟩ := len3 (l := rks) (by have := (validT_arity hu.hr).1; have h3 : arity 10 = 3 := rfl; omega)
      obtain ⟨ka, na, sa⟩ := a
      obtain ⟨kb', nb', sb⟩ := b
      refine .inr (.inr ⟨_, rn, t0, ka, na, sa, kb', nb', sb, rfl, validT_kid hu.hr (by simp), validT_kid hu.hr (by simp), ?_⟩)
      simpa [Tm.k, Tm.ks, kidT] using ho
    · exact .inr (.inl ⟨_, rk, rn, rks, rfl, hk⟩)
  · exact .inl rfl
set_option maxRecDepth 100000 in
set_option maxHeartbeats 16000000 in
theorem lawTheoremSides_any (bs : List Int) (A : Option Addr) (c : Nat) (w : World) (hl : bs.length ≤ 9223372036854775807) (hc : bs.length ≤ c) (hr : RdY w A bs) (hm : GM w) :
    Calls Tryz.prog 3 #[.slice A bs.length c] w fun e w' => e = .returned (.bool true) ∧ Below w.heap.size w w' := by
  by_cases hbig : 1048576 < bs.length
  · go_enter Tryz.func3, Tryz.ntmps3
    go_wp2_with fail
    go_ret
    exact ⟨rfl, Below.refl _ _⟩
  · go_enter Tryz.func3, Tryz.ntmps3
    go_wp2_with (go_at_call 6; refine (drawUse_any bs A c _ hl hc hr).mono ?_; rintro e w1 ⟨thm, n, hthm, hn, rfl, g1⟩)
    obtain ⟨sR, pR, sB, pB, oS, oP, h⟩ := thmAt_ex thm
    obtain ⟨r, hu⟩ := useAt_ex h n
    have hsd := sides_of h hn hu
    obtain ⟨k1, n1, ks1, hr1⟩ : ∃ k n ks, (r.map Prod.fst).getD (.mk 0 0 []) = .mk k n ks := by cases h : (r.map Prod.fst).getD (.mk 0 0 []); exact ⟨_, _, _, rfl⟩
    obtain ⟨k2, n2, ks2, hr2⟩ : ∃ k n ks, (r.map Prod.snd).getD (.mk 0 0 []) = .mk k n ks := by cases h : (r.map Prod.snd).getD (.mk 0 0 []); exact ⟨_, _, _, rfl⟩
    obtain ⟨b, hb⟩ : ∃ b, r.isSome = b := ⟨_, rfl⟩
    have hz := hide (use_size hu hr1 hr2)
    have hs := hide (fun w (hm : GM w) => (sUse_any h hu w hm).mono fun e w' hgo => gotS_at hgo hr1 hr2 hb)
    have hi := hide (fun w (hm : GM w) => (iUse_any h hu w hm).mono fun e w' hgo => gotU_at hgo hr1 hr2 hb)
    have hm' := hide hm
    have hz1 := hz.out
    refine (hi.out _ (hm'.out.keep g1)).mono ?_
    rintro e w2 ⟨A1, c1, A2, c2, rfl, hl1, hl2, r1, r2, hb2⟩
    have g2 := g1.trans (hb2.mono g1.size)
    go_wp2_with fail
    refine name_callsT ?_
    intro wa hwa
    have hT1 : Blk wa w2.heap.size #[.int .i64 k1, .int .i64 n1, .slice A1 ks1.length c1] := by rw [hwa]; exact (Blk.new_ _ 27 _ rfl).alloc _
    have hT2 : Blk wa (w2.heap.size + 1) #[.int .i64 k2, .int .i64 n2, .slice A2 ks2.length c2] := by rw [hwa]; exact Blk.new_ _ 27 _ (by simp)
    have ka : Below w2.heap.size w2 wa := by rw [hwa]; exact ((Below.refl _ _).alloc (Nat.le_refl _) _).alloc (by simp) _
    clear hwa
    have ga := g2.trans (ka.mono g2.size)
    refine (hs.out _ (hm'.out.keep ga)).mono ?_
    rintro e w4 ⟨A3, c3, A4, c4, rfl, hl3, hl4, r3, r4, hb4⟩
    rcases hsd with rfl | ⟨p, k, n0, ks, rfl, hk10⟩ | ⟨p, n0, t0, ka', na, sa, kb', nb, sb, rfl, hva, hvb, hcne⟩
    · obtain rfl : false = b := hb
      injection hr1 with e1 e2 e3
      injection hr2 with e4 e5 e6
      subst e1 e2 e3 e4 e5 e6
      go_upto_region 6 with fail
      refine name_world ?_
      intro wb hwb
      have hP1 : Blk wb w2.heap.size #[.int .i64 0, .int .i64 0, .slice A1 0 c1] := by rw [hwb]; exact (((hT1.keep hb4).alloc _).alloc _)
      have hP2 : Blk wb (w2.heap.size + 1) #[.int .i64 0, .int .i64 0, .slice A2 0 c2] := by rw [hwb]; exact (((hT2.keep hb4).alloc _).alloc _)
      have hP3 : Blk wb w4.heap.size #[.int .i64 0, .int .i64 0, .slice A3 0 c3] := by rw [hwb]; exact (Blk.new_ _ 27 _ rfl).alloc _
      have hP4 : Blk wb (w4.heap.size + 1) #[.int .i64 0, .int .i64 0, .slice A4 0 c4] := by rw [hwb]; exact Blk.new_ _ 27 _ (by simp)
      have kb : Below w4.heap.size w4 wb := by rw [hwb]; exact ((Below.refl _ _).alloc (Nat.le_refl _) _).alloc (by simp) _
      clear hwb
      have gb := (ga.trans (hb4.mono ga.size)).trans (kb.mono (ga.trans (hb4.mono ga.size)).size)
      replace r1 := ((r1.below ka).below hb4).below kb
      replace r2 := ((r2.below ka).below hb4).below kb
      replace r3 := r3.below kb
      replace r4 := r4.below kb
      have G0 := Below.refl wb.heap.size wb
      have tok0 := trivial
      obtain ⟨a10, a11, a12⟩ := hP1.three
      obtain ⟨a20, a21, a22⟩ := hP2.three
      obtain ⟨a30, a31, a32⟩ := hP3.three
      obtain ⟨a40, a41, a42⟩ := hP4.three
      go_wp2_with (first
        | (go_at_call 9; have _t := tok3; refine (iSame_any 0 0 [] A2 c2 0 0 [] A4 c4 _ (by simp) (by simp) (r2.below G3) (r4.below G3)).mono ?_; rw [tmEq_self]; rintro e x3 ⟨rfl, hx3⟩; have G4 : Below wb.heap.size wb x3 := G3.trans (hx3.mono G3.size); clear a10 a11 a12 a20 a21 a22 a30 a31 a32 a40 a41 a42; obtain ⟨a10, a11, a12⟩ := (hP1.keep G4).three; obtain ⟨a20, a21, a22⟩ := (hP2.keep G4).three; obtain ⟨a30, a31, a32⟩ := (hP3.keep G4).three; obtain ⟨a40, a41, a42⟩ := (hP4.keep G4).three; have tok4 := trivial)
        | (go_at_call 9; have _t := tok2; refine (iSame_any 0 0 [] A1 c1 0 0 [] A3 c3 _ (by simp) (by simp) (r1.below G2) (r3.below G2)).mono ?_; rw [tmEq_self]; rintro e x2 ⟨rfl, hx2⟩; have G3 : Below wb.heap.size wb x2 := G2.trans (hx2.mono G2.size); clear a10 a11 a12 a20 a21 a22 a30 a31 a32 a40 a41 a42; obtain ⟨a10, a11, a12⟩ := (hP1.keep G3).three; obtain ⟨a20, a21, a22⟩ := (hP2.keep G3).three; obtain ⟨a30, a31, a32⟩ := (hP3.keep G3).three; obtain ⟨a40, a41, a42⟩ := (hP4.keep G3).three; have tok3 := trivial)
        | (go_at_call 9; have _t := tok1; refine (iSame_any 0 0 [] A2 c2 0 0 [] A4 c4 _ (by simp) (by simp) (r2.below G1) (r4.below G1)).mono ?_; rw [tmEq_self]; rintro e x1 ⟨rfl, hx1⟩; have G2 : Below wb.heap.size wb x1 := G1.trans (hx1.mono G1.size); clear a10 a11 a12 a20 a21 a22 a30 a31 a32 a40 a41 a42; obtain ⟨a10, a11, a12⟩ := (hP1.keep G2).three; obtain ⟨a20, a21, a22⟩ := (hP2.keep G2).three; obtain ⟨a30, a31, a32⟩ := (hP3.keep G2).three; obtain ⟨a40, a41, a42⟩ := (hP4.keep G2).three; have tok2 := trivial)
        | (go_at_call 9; have _t := tok0; refine (iSame_any 0 0 [] A1 c1 0 0 [] A3 c3 _ (by simp) (by simp) (r1.below G0) (r3.below G0)).mono ?_; rw [tmEq_self]; rintro e x0 ⟨rfl, hx0⟩; have G1 : Below wb.heap.size wb x0 := G0.trans (hx0.mono G0.size); clear a10 a11 a12 a20 a21 a22 a30 a31 a32 a40 a41 a42; obtain ⟨a10, a11, a12⟩ := (hP1.keep G1).three; obtain ⟨a20, a21, a22⟩ := (hP2.keep G1).three; obtain ⟨a30, a31, a32⟩ := (hP3.keep G1).three; obtain ⟨a40, a41, a42⟩ := (hP4.keep G1).three; have tok1 := trivial))
      go_ret
      exact ⟨rfl, gb.trans (G4.mono gb.size)⟩
    · obtain rfl : true = b := hb
      injection hr2 with e4 e5 e6
      subst e4 e5 e6
      have q10 : (k != 10) = true := by simpa using hk10
      go_upto_region 6 with fail
      refine name_world ?_
      intro wb hwb
      have hP1 : Blk wb w2.heap.size #[.int .i64 k1, .int .i64 n1, .slice A1 ks1.length c1] := by rw [hwb]; exact (((hT1.keep hb4).alloc _).alloc _)
      have hP2 : Blk wb (w2.heap.size + 1) #[.int .i64 k, .int .i64 n0, .slice A2 ks.length c2] := by rw [hwb]; exact (((hT2.keep hb4).alloc _).alloc _)
      have hP3 : Blk wb w4.heap.size #[.int .i64 k1, .int .i64 n1, .slice A3 ks1.length c3] := by rw [hwb]; exact (Blk.new_ _ 27 _ rfl).alloc _
      have hP4 : Blk wb (w4.heap.size + 1) #[.int .i64 k, .int .i64 n0, .slice A4 ks.length c4] := by rw [hwb]; exact Blk.new_ _ 27 _ (by simp)
      have kb : Below w4.heap.size w4 wb := by rw [hwb]; exact ((Below.refl _ _).alloc (Nat.le_refl _) _).alloc (by simp) _
      clear hwb
      have gb := (ga.trans (hb4.mono ga.size)).trans (kb.mono (ga.trans (hb4.mono ga.size)).size)
      replace r1 := ((r1.below ka).below hb4).below kb
      replace r2 := ((r2.below ka).below hb4).below kb
      replace r3 := r3.below kb
      replace r4 := r4.below kb
      have G0 := Below.refl wb.heap.size wb
      have hla := length_le_sizes ks1
      have hlb := length_le_sizes ks
      have tok0 := trivial
      obtain ⟨a10, a11, a12⟩ := hP1.three
      obtain ⟨a20, a21, a22⟩ := hP2.three
      obtain ⟨a30, a31, a32⟩ := hP3.three
      obtain ⟨a40, a41, a42⟩ := hP4.three
      go_wp2_with (first
        | (go_at_call 9; have _t := tok3; refine (iSame_any k n0 ks A2 c2 k n0 ks A4 c4 _ (by omega) (by omega) (r2.below G3) (r4.below G3)).mono ?_; rw [tmEq_self]; rintro e x3 ⟨rfl, hx3⟩; have G4 : Below wb.heap.size wb x3 := G3.trans (hx3.mono G3.size); clear a10 a11 a12 a20 a21 a22 a30 a31 a32 a40 a41 a42; obtain ⟨a10, a11, a12⟩ := (hP1.keep G4).three; obtain ⟨a20, a21, a22⟩ := (hP2.keep G4).three; obtain ⟨a30, a31, a32⟩ := (hP3.keep G4).three; obtain ⟨a40, a41, a42⟩ := (hP4.keep G4).three; have tok4 := trivial)
        | (go_at_call 9; have _t := tok2; refine (iSame_any k1 n1 ks1 A1 c1 k1 n1 ks1 A3 c3 _ (by omega) (by omega) (r1.below G2) (r3.below G2)).mono ?_; rw [tmEq_self]; rintro e x2 ⟨rfl, hx2⟩; have G3 : Below wb.heap.size wb x2 := G2.trans (hx2.mono G2.size); clear a10 a11 a12 a20 a21 a22 a30 a31 a32 a40 a41 a42; obtain ⟨a10, a11, a12⟩ := (hP1.keep G3).three; obtain ⟨a20, a21, a22⟩ := (hP2.keep G3).three; obtain ⟨a30, a31, a32⟩ := (hP3.keep G3).three; obtain ⟨a40, a41, a42⟩ := (hP4.keep G3).three; have tok3 := trivial)
        | (go_at_call 9; have _t := tok1; refine (iSame_any k n0 ks A2 c2 k n0 ks A4 c4 _ (by omega) (by omega) (r2.below G1) (r4.below G1)).mono ?_; rw [tmEq_self]; rintro e x1 ⟨rfl, hx1⟩; have G2 : Below wb.heap.size wb x1 := G1.trans (hx1.mono G1.size); clear a10 a11 a12 a20 a21 a22 a30 a31 a32 a40 a41 a42; obtain ⟨a10, a11, a12⟩ := (hP1.keep G2).three; obtain ⟨a20, a21, a22⟩ := (hP2.keep G2).three; obtain ⟨a30, a31, a32⟩ := (hP3.keep G2).three; obtain ⟨a40, a41, a42⟩ := (hP4.keep G2).three; have tok2 := trivial)
        | (go_at_call 9; have _t := tok0; refine (iSame_any k1 n1 ks1 A1 c1 k1 n1 ks1 A3 c3 _ (by omega) (by omega) (r1.below G0) (r3.below G0)).mono ?_; rw [tmEq_self]; rintro e x0 ⟨rfl, hx0⟩; have G1 : Below wb.heap.size wb x0 := G0.trans (hx0.mono G0.size); clear a10 a11 a12 a20 a21 a22 a30 a31 a32 a40 a41 a42; obtain ⟨a10, a11, a12⟩ := (hP1.keep G1).three; obtain ⟨a20, a21, a22⟩ := (hP2.keep G1).three; obtain ⟨a30, a31, a32⟩ := (hP3.keep G1).three; obtain ⟨a40, a41, a42⟩ := (hP4.keep G1).three; have tok1 := trivial))
      go_ret
      exact ⟨rfl, gb.trans (G4.mono gb.size)⟩
    · obtain rfl : true = b := hb
      injection hr2 with e4 e5 e6
      subst e4 e5 e6
      obtain ⟨cv, hcv⟩ : ∃ z, convI 200 (.mk ka' na sa) (.mk kb' nb sb) = z := ⟨_, rfl⟩
      have hcn := hide (show cv ≠ 2 by rw [← hcv]; exact hcne)
      have hza := validT_size' hva
      have hzb := validT_size' hvb
      replace hcv := hide hcv
      replace hva := hide hva
      replace hvb := hide hvb
      clear hcne
      go_upto_region 6 with fail
      refine name_world ?_
      intro wb hwb
      have hP1 : Blk wb w2.heap.size #[.int .i64 k1, .int .i64 n1, .slice A1 ks1.length c1] := by rw [hwb]; exact (((hT1.keep hb4).alloc _).alloc _)
      have hP2 : Blk wb (w2.heap.size + 1) #[.int .i64 10, .int .i64 n0, .slice A2 3 c2] := by rw [hwb]; exact (((hT2.keep hb4).alloc _).alloc _)
      have hP3 : Blk wb w4.heap.size #[.int .i64 k1, .int .i64 n1, .slice A3 ks1.length c3] := by rw [hwb]; exact (Blk.new_ _ 27 _ rfl).alloc _
      have hP4 : Blk wb (w4.heap.size + 1) #[.int .i64 10, .int .i64 n0, .slice A4 3 c4] := by rw [hwb]; exact Blk.new_ _ 27 _ (by simp)
      have kb : Below w4.heap.size w4 wb := by rw [hwb]; exact ((Below.refl _ _).alloc (Nat.le_refl _) _).alloc (by simp) _
      clear hwb
      have gb := (ga.trans (hb4.mono ga.size)).trans (kb.mono (ga.trans (hb4.mono ga.size)).size)
      replace r1 := ((r1.below ka).below hb4).below kb
      replace r2 := ((r2.below ka).below hb4).below kb
      replace r3 := r3.below kb
      replace r4 := r4.below kb
      have G0 := Below.refl wb.heap.size wb
      have hla := length_le_sizes ks1
      have hlb := length_le_sizes [t0, .mk ka' na sa, .mk kb' nb sb]
      have tok0 := trivial
      obtain ⟨a10, a11, a12⟩ := hP1.three
      obtain ⟨a20, a21, a22⟩ := hP2.three
      obtain ⟨a30, a31, a32⟩ := hP3.three
      obtain ⟨a40, a41, a42⟩ := hP4.three
      go_wp2_with (first
        | (go_at_call 9; have _t := tok1; refine (iSame_any 10 n0 [t0, .mk ka' na sa, .mk kb' nb sb] A2 c2 10 n0 [t0, .mk ka' na sa, .mk kb' nb sb] A4 c4 _ (by omega) (by omega) (r2.below G1) (r4.below G1)).mono ?_; rw [tmEq_self]; rintro e x1 ⟨rfl, hx1⟩; have G2 : Below wb.heap.size wb x1 := G1.trans (hx1.mono G1.size); clear a10 a11 a12 a20 a21 a22 a30 a31 a32 a40 a41 a42; obtain ⟨a10, a11, a12⟩ := (hP1.keep G2).three; obtain ⟨a20, a21, a22⟩ := (hP2.keep G2).three; obtain ⟨a30, a31, a32⟩ := (hP3.keep G2).three; obtain ⟨a40, a41, a42⟩ := (hP4.keep G2).three; have tok2 := trivial)
        | (go_at_call 9; have _t := tok0; refine (iSame_any k1 n1 ks1 A1 c1 k1 n1 ks1 A3 c3 _ (by omega) (by omega) (r1.below G0) (r3.below G0)).mono ?_; rw [tmEq_self]; rintro e x0 ⟨rfl, hx0⟩; have G1 : Below wb.heap.size wb x0 := G0.trans (hx0.mono G0.size); clear a10 a11 a12 a20 a21 a22 a30 a31 a32 a40 a41 a42; obtain ⟨a10, a11, a12⟩ := (hP1.keep G1).three; obtain ⟨a20, a21, a22⟩ := (hP2.keep G1).three; obtain ⟨a30, a31, a32⟩ := (hP3.keep G1).three; obtain ⟨a40, a41, a42⟩ := (hP4.keep G1).three; have tok1 := trivial))
      refine name_world ?_
      intro wc hwc
      subst hwc
      have r2c := r2.below G2
      obtain ⟨ba, oa, x1', x2', x3', Aa, ca, hAa, hk1, i1, i2, i3, hla', ra⟩ := r2c.at_ (j := 1) (by simp)
      injection hk1 with e1 e2 e3
      subst e1 e2 e3 hAa
      obtain ⟨ba', oa', x1', x2', x3', Ab, cb, hAb, hk2, j1, j2, j3, hlb', rb⟩ := r2c.at_ (j := 2) (by simp)
      injection hk2 with e1 e2 e3
      injection hAb with hA
      injection hA with hA1 hA2
      subst e1 e2 e3 hA1 hA2
      simp only [Nat.zero_mul, Nat.add_zero, Nat.one_mul, Nat.reduceMul] at i1 i2 i3 j1 j2 j3
      have u0 := rule_of a20
      have u1 := rule_of a21
      have u2 := rule_of a22
      have v0 := rule_of i1
      have v1 := rule_of i2
      have v2 := rule_of i3
      have z0 := rule_of j1
      have z1 := rule_of j2
      have z2 := rule_of j3
      clear a20 a21 a22 i1 i2 i3 j1 j2 j3
      obtain ⟨q0, hq0⟩ : ∃ q0, q0 = wc.drew := ⟨_, rfl⟩
      have bq0 : Below wc.heap.size wc q0 := by rw [hq0]; exact (Below.refl _ _).drew
      refine gC_start (fun w' => Below wc.heap.size wc w') [9, 10] 11 (by kernel_rfl) rfl ?_
      refine gC_take [0, 1, 2, 3, 4, 5, 6, 7] (f := 3) (l' := #[true, true, true, true, true, true, true, true, false, false, false]) (lT := [_, _, _, _, _, _, _, _]) (by rw [← hq0]; exact bq0) rfl (by kernel_rfl) (by kernel_rfl) (by kernel_rfl) rfl (fun _ _ d _ _ h => by cases d <;> exact h) ?_
      repeat (first | ((refine takeY_skip (a' := ?_) ?_ ?_ ?_); (rotate_left); (· (simp [Region.wanted, yielded, Go.undef]; done)); (· (simp only [List.getElem_toArray, List.getElem_cons_zero, List.getElem_cons_succ, Act.put, List.setIfInBounds_toArray, List.set_cons_zero, List.set_cons_succ]; exact rfl))) | ((refine takeY_step (v := ?_) (a' := ?_) ?_ ?_ ?_ ?_); (rotate_left 2); (· (simp [Region.wanted, yielded, Go.undef]; done)); (· (intro w' hS'; go_simp; try (with_reducible rfl))); (· (simp only [List.getElem_toArray, List.getElem_cons_zero, List.getElem_cons_succ, Act.put, List.setIfInBounds_toArray, List.set_cons_zero, List.set_cons_succ]; exact rfl))))
      refine takeY_nil ?_
      rw [← hq0]
      clear hq0
      refine gC_one (i := 8) (by kernel_rfl) rfl ?_
      · go_wp2_with (go_at_call 10; refine (iConv_any ka' na sa Aa ca kb' nb sb Ab cb 200 _ (by omega) hva.out hvb.out (ra.below bq0) (rb.below bq0)).mono ?_; rw [hcv.out]; rintro e q1 ⟨rfl, hbq1⟩)
        have bq1 : Below wc.heap.size wc q1 := bq0.trans (hbq1.mono bq0.size)
        have lq1 := hbq1.size
        refine mid_intro bq1 ?_
        refine gC_takeT [9] (f := 1) (l' := #[true, true, true, true, true, true, true, true, true, true, false]) (lT := [_]) rfl (by kernel_rfl) (by kernel_rfl) (by kernel_rfl) rfl (fun _ _ d _ _ h => by cases d <;> exact h) ?_
        repeat (first | ((refine takeY_skip (a' := ?_) ?_ ?_ ?_); (rotate_left); (· (simp [Region.wanted, yielded, Go.undef]; done)); (· (simp only [List.getElem_toArray, List.getElem_cons_zero, List.getElem_cons_succ, Act.put, List.setIfInBounds_toArray, List.set_cons_zero, List.set_cons_succ]; exact rfl))) | ((refine takeY_step (v := ?_) (a' := ?_) ?_ ?_ ?_ ?_); (rotate_left 2); (· (simp [Region.wanted, yielded, Go.undef]; done)); (· (intro w' hS'; go_simp; try (with_reducible rfl))); (· (simp only [List.getElem_toArray, List.getElem_cons_zero, List.getElem_cons_succ, Act.put, List.setIfInBounds_toArray, List.set_cons_zero, List.set_cons_succ]; exact rfl))))
        refine takeY_nil ?_
        refine gC_end [10] (lB := [_]) (by simp) (by kernel_rfl) (by kernel_rfl) rfl ?_
        go_wp2_with fail
        go_ret
        exact ⟨ret_bool (by simpa using hcn.out), (gb.trans (G2.mono gb.size)).trans (bq1.mono (gb.trans (G2.mono gb.size)).size)⟩

end Go.Proofs.YthgmofdfecioaaaGreatDoor

namespace Go.Proofs.YthgmofdfecioaaaGreatDoor
open Go.RowKit
set_option linter.unusedSimpArgs false
set_option linter.unusedVariables false

theorem change_and_shaped {H : Type} {enc : TypeId × Value → H} {a : Assume} {C : Checked} {os : Os} {f : FuncId} {fn : Func} {s : ChangeSpec} {conds : List PathCond} {apart fresh handsOn again : Bool} {X : World → Array Value → Prop}
    (hX : ∀ (w w' : World) (args : Array Value), w.heap = w'.heap → X w args → X w' args)
    (own : ownKnob C.prog.godebug = none) (started : os.Started) (noInit : C.prog.inits.idxOf? f = none) (hfn : C.prog.funcs[f]? = some fn)
    (witness : ∃ (w : World) (tape : Tape) (i : Input), w.os = os ∧ (w.forCall tape i).Shaped C.prog ∧ i.vars = [] ∧ Input.okWide C.prog (w.forCall tape i) .any w.heap.size f i ∧
      ((s.pre enc C.prog fn conds apart (w.forCall tape i).memory i.args ∧ X (w.forCall tape i).memory i.args) ∧ sizedMet enc C.prog fn (OpenSpec.ofChange s) apart (w.forCall tape i).memory i.args) ∧ a.holds C.prog (lone (Frame.enter C.prog f i.args .normal) [] (w.forCall tape i)))
    (contract : ∀ (W : World) (base : Nat) (args : Array Value) (ds gs : List (DataW H)) (before : List MemPlace),
      (∀ (j : Nat) t v, fn.params[j]? = some t → args[j]? = some v → Value.okWide C.prog W .any base t v) →
      DataW.Whole enc C.prog fn.params.toList s.vars apart W args.toList ds gs before →
      W.ShapedOpen C.prog → X W args →
      Calls C.prog f args W fun e W' => ∃ v, e = .returned v ∧ s.post enc C.prog fn apart fresh handsOn again W args v W') :
    ReturnsInHanded a C os f .any (fun w args => (s.pre enc C.prog fn conds apart w args ∧ X w args) ∧ sizedMet enc C.prog fn (OpenSpec.ofChange s) apart w args) (s.post enc C.prog fn apart fresh handsOn again) := by
  refine returnsInHanded_of_calls own started noInit witness ?_
  intro w tape i _ hsh _ hok hpre hholds
  obtain ⟨_, _, _, fn', hfn', _, _, _, _, hval⟩ := hok
  obtain rfl : fn' = fn := Option.some.inj (hfn'.symm.trans hfn)
  obtain ⟨⟨⟨ds, gs, before, hw, hc⟩, hx⟩, hz⟩ := hpre
  refine (contract (w.forCall tape i) w.heap.size i.args ds gs before hval (DataW.Whole.of_heap (w' := w.forCall tape i) (by rfl) hw) hsh (hX _ _ _ (by rfl) hx)).mono fun e W' ⟨v, he, hp⟩ => ?_
  subst he
  exact ChangeSpec.post_blind hp
theorem gm_of {w : World} (h : w.ShapedOpen Tryz.prog) : GM w :=
  cell_of_shapedOpen_int (zero := #[.int .i64 0]) (t := 3) h (of_decide_eq_true (by kernel_rfl)) (by kernel_rfl) rfl (by kernel_rfl) (by kernel_rfl) Tryz.underlying3
end Go.Proofs.YthgmofdfecioaaaGreatDoor
