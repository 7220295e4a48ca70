/-
  Contracts of the functions that the law reaches, and plain lemmas. No condition.
-/
import Derived.Test.YthgmofdfecioaaaGreatDoorK6
import Derived.Test.YthgmofdfecioaaaGreatDoorK7
import Derived.Test.YthgmofdfecioaaaGreatDoorK20
namespace Go.Proofs.YthgmofdfecioaaaGreatDoor
set_option linter.unusedSimpArgs false
set_option linter.unusedVariables false
open Go.RowKit
/-- a part of a term, where it stands -/
def SeenT (w : World) (u : Tm) (e : Ending) (w' : World) : Prop :=
  ∃ k n ks A c, u = .mk k n ks ∧ e = .returned (.agg #[.int .i64 k, .int .i64 n, .slice A ks.length c]) ∧ ks.length ≤ 9223372036854775807 ∧ Rd w A 0 ks ∧ Below w.heap.size w w'
set_option maxHeartbeats 2000000 in
set_option maxRecDepth 100000 in
theorem iAt_any (k n : Int) (ks : List Tm) (A : Option Addr) (c : Nat) (xs : List Int) (P : Option Addr) (cp : Nat) (w : World) (hM : sizes ks ≤ 1000000000) (hx : xs.length ≤ 9223372036854775807) (hr : Rd w A 0 ks) (hi : RdI w P xs) {u : Tm} (hu : atT (.mk k n ks) xs = some u) :
    Calls Tryz.prog 99 #[.agg #[.int .i64 k, .int .i64 n, .slice A ks.length c], .slice P xs.length cp] w (SeenT w u) := by
  have hlen := length_le_sizes ks
  have hu' := hide hu
  clear hu
  go_enter Tryz.func99, Tryz.ntmps99
  go_wp2_with fail
  go_loopw [9] (fun i wr => ∃ (j : Nat) (k1 n1 : Int) (ks1 : List Tm) (A1 : Option Addr) (c1 : Nat), j ≤ xs.length ∧ i = .int .i64 j ∧ Hid (atT (.mk k n ks) (xs.take j) = some (.mk k1 n1 ks1)) ∧ ks1.length ≤ 9223372036854775807 ∧ Rd w A1 0 ks1 ∧ Blk wr w.heap.size #[.int .i64 k1, .int .i64 n1, .slice A1 ks1.length c1] ∧ Blk wr (w.heap.size + 1) #[.int .i64 0, .int .i64 0, .slice none 0 0] ∧ Below w.heap.size w wr)
    (fun i _ => xs.length - (intOf i).toNat)
  case atStart => exact ⟨0, k, n, ks, A, c, Nat.zero_le _, rfl, hide rfl, by omega, hr, (Blk.new_ _ _ _ rfl).alloc _, Blk.new_ _ _ _ (by simp), ((Below.refl _ _).alloc (by simp) _).alloc (by simp) _⟩
  case round =>
    obtain ⟨j, k1, n1, ks1, A1, c1, hj, rfl, hat, hl1, hr1, hB1, hB2, hb⟩ := hrel
    have lB2 := hB2.lt
    by_cases hlt : j < xs.length
    · obtain ⟨b, off, rfl, hc⟩ := hi.below hb j hlt
      have hnx := atT_take hlt hat.out
      have hne : atT (.mk k n ks) (xs.take (j + 1)) ≠ none := fun h => by have := atT_none h; rw [hu'.out] at this; cases this
      generalize hxj : xs[j] = x at hc hnx
      have hxj' := hide hxj
      clear hxj
      by_cases hin : 0 ≤ x ∧ x < ks1.length
      · obtain ⟨i, rfl⟩ : ∃ i : Nat, x = (i : Int) := ⟨x.toNat, by omega⟩
        have hik : i < ks1.length := by omega
        obtain ⟨b3, off3, k3, n3, ks3, A3, c3, rfl, hkj3, hd1, hd2, hd3, hl3, hr3⟩ := hr1.at_ hik
        have hst : atT (.mk k n ks) (xs.take (j + 1)) = some (.mk k3 n3 ks3) := by
          rw [hnx, if_pos (show 0 ≤ (i : Int) ∧ (i : Int) < (Tm.mk k1 n1 ks1).kids.length from hin), Int.toNat_natCast, show (Tm.mk k1 n1 ks1).kids = ks1 from rfl, List.getD_eq_getElem?_getD, List.getElem?_eq_getElem hik, Option.getD_some, hkj3]
        have hst' := hide hst
        clear hkj3 hst hnx hne
        have z2 := (Keeps.of_below hb) _ _ hd1
        have z3 := (Keeps.of_below hb) _ _ hd2
        have z4 := (Keeps.of_below hb) _ _ hd3
        have cc2 : wr.cell? ⟨w.heap.size, 2, none⟩ = some (.slice (some ⟨b3, off3, none⟩) ks1.length c1) := hB1.at_ rfl
        have cc0 : wr.cell? ⟨w.heap.size, 0, none⟩ = some (.int .i64 k1) := hB1.at_ rfl
        have cc1 : wr.cell? ⟨w.heap.size, 1, none⟩ = some (.int .i64 n1) := hB1.at_ rfl
        have f0 := hB1.frozen 0
        have f1 := hB1.frozen 1
        have f2 := hB1.frozen 2
        go_wp2_with fail
        go_roundw
        case rel => exact ⟨j + 1, k3, n3, ks3, A3, c3, by omega, by go_num, hst', hl3, hr3, ((hB1.set_ 0 _).set_ 1 _).set_ 2 _, ((hB2.far (by simp) _).far (by simp) _).far (by simp) _, ((hb.setCell (by simp) _).setCell (by simp) _).setCell (by simp) _⟩
        case measure => simp [intOf]; omega
      · exact absurd (by rw [hnx, if_neg (show ¬ (0 ≤ x ∧ x < (Tm.mk k1 n1 ks1).kids.length) from hin)]) hne
    · have hjl : j = xs.length := by omega
      subst hjl
      have hut : u = .mk k1 n1 ks1 := by have := hat.out; rw [List.take_length, hu'.out] at this; exact Option.some.inj this
      subst hut
      have cc0 : wr.cell? ⟨w.heap.size, 0, none⟩ = some (.int .i64 k1) := hB1.at_ rfl
      have cc1 : wr.cell? ⟨w.heap.size, 1, none⟩ = some (.int .i64 n1) := hB1.at_ rfl
      have cc2 : wr.cell? ⟨w.heap.size, 2, none⟩ = some (.slice A1 ks1.length c1) := hB1.at_ rfl
      have d0 : wr.cell? ⟨w.heap.size + 1, 0, none⟩ = some (.int .i64 0) := hB2.at_ rfl
      have d1 : wr.cell? ⟨w.heap.size + 1, 1, none⟩ = some (.int .i64 0) := hB2.at_ rfl
      have d2 : wr.cell? ⟨w.heap.size + 1, 2, none⟩ = some (.slice none 0 0) := hB2.at_ rfl
      have e0 := hB2.frozen 0
      have e1 := hB2.frozen 1
      have e2 := hB2.frozen 2
      go_wp2_with fail
      refine bodyPost_ret (v := .agg #[.int .i64 k1, .int .i64 n1, .slice A1 ks1.length c1]) (by simp [results, Tryz.results99, go_sem, d0, d1, d2]) rfl ⟨_, _, _, A1, c1, rfl, rfl, hl1, hr1, ?_⟩
      exact ((hb.setCell (by simp) _).setCell (by simp) _).setCell (by simp) _
open Go.RowKit
theorem sizes_set_lt {ks : List Tm} {i : Nat} (hi : i < ks.length) {t : Tm} : sizes (ks.set i t) + ks[i].size = sizes ks + t.size := by
  induction ks generalizing i with
  | nil => simp at hi
  | cons a ts ih =>
    cases i with
    | zero => rw [List.set_cons_zero, sizes, sizes, List.getElem_cons_zero]; omega
    | succ i => rw [List.set_cons_succ, sizes, sizes, List.getElem_cons_succ]; have := ih (i := i) (by simpa using hi); omega
theorem putN_size {u u0 : Tm} : ∀ {xs : List Int} {t : Tm}, atT t xs = some u0 → (putN t xs u).size ≤ t.size + u.size
  | [], t, _ => by rw [putN]; omega
  | i :: is, .mk k n ks, h => by
    rw [atT] at h
    split at h
    · rename_i hh
      have hlt : i.toNat < ks.length := by have := hh.2; simp only [Tm.kids] at this; omega
      rw [show (Tm.mk k n ks).kids = ks from rfl] at h
      have h1 := putN_size h (u := u)
      have h2 := sizes_set_lt hlt (t := putN (ks.getD i.toNat default) is u)
      have e : ks.getD i.toNat default = ks[i.toNat] := by simp [List.getD, List.getElem?_eq_getElem hlt]
      rw [e] at h1 h2
      rw [putN, Tm.size, Tm.size, e]
      omega
    · cases h
/-- put, where all can be read -/
theorem iPutR_any (ku nu : Int) (us : List Tm) (hus : sizes us ≤ 1000000) (xs : List Int) (k n : Int) (ks : List Tm) (A : Option Addr) (c : Nat) (P : Option Addr) (cp : Nat) (U : Option Addr) (cu : Nat) (w : World) (u0 : Tm) (h : atT (.mk k n ks) xs = some u0) (hcp : xs.length ≤ cp) (hM : sizes ks ≤ 1000000) (hr : Rd w A 0 ks) (hi : RdI w P xs) (hru : Rd w U 0 us) {kp np : Int} {ps : List Tm} (hp : putN (.mk k n ks) xs (.mk ku nu us) = .mk kp np ps) :
    Calls Tryz.prog 100 #[.agg #[.int .i64 k, .int .i64 n, .slice A ks.length c], .slice P xs.length cp, .agg #[.int .i64 ku, .int .i64 nu, .slice U us.length cu]] w fun e w' => ∃ B d, e = .returned (.agg #[.int .i64 kp, .int .i64 np, .slice B ps.length d]) ∧ ps.length ≤ 9223372036854775807 ∧ Rd w' B 0 ps ∧ Below w.heap.size w w' := by
  refine (iPut_any (· < w.heap.size) ku nu us hus xs k n ks A c P cp U cu w u0 h hcp hM hr.rdp hi hru.rdp (fun b hb => hb)).mono ?_
  rw [hp]
  rintro e w' hgo
  obtain ⟨B, d, rfl, hl, hr', hb⟩ := gotQ_mk hgo
  exact ⟨B, d, rfl, hl, hr'.rd, hb⟩
set_option maxHeartbeats 8000000 in
set_option maxRecDepth 100000 in
theorem iCtd_any (k n : Int) (ks : List Tm) (A : Option Addr) (c : Nat) (xs : List Int) (P : Option Addr) (cp : Nat) (w : World) {ku nu : Int} {us : List Tm} (hv : validT (.mk k n ks) = true) (hx : xs.length ≤ 1000) (hcp : xs.length ≤ cp) (hat : atT (.mk k n ks) xs = some (.mk ku nu us)) (hxu : rdx ku us ≠ 0) (hr : Rd w A 0 ks) (hp : RdI w P xs) :
    Calls Tryz.prog 74 #[.agg #[.int .i64 k, .int .i64 n, .slice A ks.length c], .slice P xs.length cp] w (GotO w (ctdI (.mk k n ks) xs)) := by
  have hz := validT_size' hv
  have hlen := length_le_sizes ks
  have hvu := atT_valid hat hv
  have hvu' := hide hvu
  have hat' := hide hat
  have hxu' := hide hxu
  have hzu := validT_size' hvu
  cases hc : ctrI (.mk ku nu us) with
  | none =>
    have hz2 : ctdI (.mk k n ks) xs = none := by rw [ctdI, hat]; simp only [hc]
    rw [hz2]
    have hc' := hide hc
    clear hz2 hc hat hvu hxu hv
    go_enter Tryz.func74, Tryz.ntmps74
    go_wp2_with (first
      | (go_at_call 98; have _t := tok1; refine (iContract_any ku nu us A2 c2 _ hvu'.out hxu'.out rU).mono ?_; rw [hc'.out]; intro e w2 hgo; obtain ⟨rfl, hb2⟩ := gotO_none hgo; have hZ2 := hZ1.keep hb2; have g2 := g1.trans (hb2.mono g1.size); obtain ⟨d0, d1, d2⟩ := hZ2.three; have e0 := hZ2.frozen 0; have e1 := hZ2.frozen 1; have e2 := hZ2.frozen 2; have lz := hZ2.lt; have n1 : w.heap.size + 1 ≠ w2.heap.size := (by omega))
      | (go_at_call 99; refine (iAt_any k n ks A c xs P cp _ (by omega) (by omega) ((hr.alloc _).alloc _) ((hp.alloc _).alloc _) hat'.out).mono ?_; rintro e w1 ⟨k', n', ks', A2, c2, hu, rfl, hl2, hr2, hb1⟩; injection hu with x1 x2 x3; subst x1 x2 x3; have hZ1 : Blk w1 (w.heap.size + 1) #[.int .i64 0, .int .i64 0, .slice none 0 0] := (Blk.new_ _ 27 _ (by simp)).keep hb1; have g1 : Below w.heap.size w w1 := (((Below.refl _ _).alloc (Nat.le_refl _) _).alloc (by simp) _).trans (hb1.mono (by simp; omega)); have rU := hr2.below hb1; have tok1 := trivial))
    have y := fun (o : Obj) => (((((hZ2.set_ 0 (.int .i64 0)).set_ 1 (.int .i64 0)).set_ 2 (.slice none 0 0)).alloc o : Blk _ _ #[.int .i64 0, .int .i64 0, .slice none 0 0])).three
    refine bodyPost_ret (v := .tuple #[zeroV, .bool false]) (by simp [results, Tryz.results74, go_sem, y, zeroV]) rfl ⟨rfl, ?_⟩
    exact (((g2.setCell (by simp) _).setCell (by simp) _).setCell (by simp) _).alloc (by simp [World.setCell]; exact g2.size) _
  | some v =>
    obtain ⟨kv, nv, vs⟩ := v
    have hvv := ctrI_valid hc
    have hzv := validT_size' hvv
    obtain ⟨kp, np, ps, hput⟩ : ∃ kp np ps, putN (.mk k n ks) xs (.mk kv nv vs) = .mk kp np ps := by cases putN (.mk k n ks) xs (.mk kv nv vs) with | mk a b c => exact ⟨a, b, c, rfl⟩
    have hzp : sizes ps ≤ 1000 := by
      have := putN_size hat (u := .mk kv nv vs)
      rw [hput] at this
      simp only [Tm.size] at this
      omega
    have hz2 : ctdI (.mk k n ks) xs = vO (.mk kp np ps) := by rw [ctdI, hat]; simp only [hc, hput]
    rw [hz2]
    have hc' := hide hc
    have hput' := hide hput
    clear hz2 hc hat hvu hxu hv hput hvv
    have hlp := length_le_sizes ps
    cases hvp : validT (.mk kp np ps) with
    | false =>
      have hz3 : vO (.mk kp np ps) = none := by rw [vO, hvp]; rfl
      rw [hz3]
      have hvp' := hide hvp
      clear hz3 hvp
      go_enter Tryz.func74, Tryz.ntmps74
      go_wp2_with (first
        | (go_at_call 25; have _t := tok4; refine (valid_noE kp np ps A8 c8 _ (by omega) hf8.rd hvp'.out).mono ?_; rintro e w9 ⟨rfl, hb9⟩; have hZ9 := hZ8.keep hb9; have g9 := g8.trans (hb9.mono g8.size); obtain ⟨d0, d1, d2⟩ := hZ9.three; have e0 := hZ9.frozen 0; have e1 := hZ9.frozen 1; have e2 := hZ9.frozen 2)
        | (go_at_call 73; have _t := tok3; refine (own_any 10000 kp np ps A7 c7 _ (by omega) (by omega) r7).mono ?_; rintro e w8 ⟨A8, c8, rfl, hl8, hf8, hb8⟩; have hZ8 := hZ7.keep hb8; have g8 := g7.trans (hb8.mono g7.size); have tok4 := trivial)
        | (go_at_call 100; have _t := tok2; refine (iPutR_any kv nv vs (by omega) xs k n ks A c P cp A3 c3 _ (.mk ku nu us) hat'.out hcp (by omega) ((hr.below g2).alloc _) ((hp.below g2).alloc _) (r3.alloc _) hput'.out).mono ?_; rintro e w7 ⟨A7, c7, rfl, hl7, r7, hb7⟩; have hZ7 := (hZ2.alloc (.cells #[.int .i64 kv, .int .i64 nv, .slice A3 vs.length c3] 27)).keep hb7; have g7 := (g2.alloc g2.size (.cells #[.int .i64 kv, .int .i64 nv, .slice A3 vs.length c3] 27)).trans (hb7.mono (by have := g2.size; simp; omega)); have tok3 := trivial)
        | (go_at_call 98; have _t := tok1; refine (iContract_any ku nu us A2 c2 _ hvu'.out hxu'.out rU).mono ?_; rw [hc'.out]; intro e w2 hgo; obtain ⟨A3, c3, rfl, hl3, hf3, hb2⟩ := gotO_some hgo; have hZ2 := hZ1.keep hb2; have hX2 := hX1.keep hb2; have g2 := g1.trans (hb2.mono g1.size); have r3 := hf3.rd; obtain ⟨x0, x1, x2⟩ := hX2.three; have lx := hX2.lt; have tok2 := trivial)
        | (go_at_call 99; refine (iAt_any k n ks A c xs P cp _ (by omega) (by omega) ((hr.alloc _).alloc _) ((hp.alloc _).alloc _) hat'.out).mono ?_; rintro e w1 ⟨k', n', ks', A2, c2, hu, rfl, hl2, hr2, hb1⟩; injection hu with y1 y2 y3; subst y1 y2 y3; have hX1 : Blk w1 w.heap.size #[.int .i64 k, .int .i64 n, .slice A ks.length c] := ((Blk.new_ _ 27 _ rfl).alloc _).keep hb1; have hZ1 : Blk w1 (w.heap.size + 1) #[.int .i64 0, .int .i64 0, .slice none 0 0] := (Blk.new_ _ 27 _ (by simp)).keep hb1; have g1 : Below w.heap.size w w1 := (((Below.refl _ _).alloc (Nat.le_refl _) _).alloc (by simp) _).trans (hb1.mono (by simp; omega)); have rU := hr2.below hb1; have tok1 := trivial))
      refine bodyPost_ret (v := .tuple #[zeroV, .bool false]) (by simp [results, Tryz.results74, go_sem, d0, d1, d2, zeroV]) rfl ⟨rfl, ?_⟩
      exact ((g9.setCell (by simp) _).setCell (by simp) _).setCell (by simp) _
    | true =>
      have hz3 : vO (.mk kp np ps) = some (.mk kp np ps) := by rw [vO, hvp]; rfl
      rw [hz3]
      have hvp' := hide hvp
      clear hz3 hvp
      go_enter Tryz.func74, Tryz.ntmps74
      go_wp2_with (first
        | (go_at_call 25; have _t := tok4; refine (valid_yes kp np ps A8 c8 _ (by omega) hf8.rd hvp'.out).mono ?_; rintro e w9 ⟨rfl, hb9⟩; have hZ9 := hZ8.keep hb9; have g9 := g8.trans (hb9.mono g8.size); have hf9 := hf8.below hb9; obtain ⟨d0, d1, d2⟩ := hZ9.three; have e0 := hZ9.frozen 0; have e1 := hZ9.frozen 1; have e2 := hZ9.frozen 2)
        | (go_at_call 73; have _t := tok3; refine (own_any 10000 kp np ps A7 c7 _ (by omega) (by omega) r7).mono ?_; rintro e w8 ⟨A8, c8, rfl, hl8, hf8, hb8⟩; have hZ8 := hZ7.keep hb8; have g8 := g7.trans (hb8.mono g7.size); have tok4 := trivial)
        | (go_at_call 100; have _t := tok2; refine (iPutR_any kv nv vs (by omega) xs k n ks A c P cp A3 c3 _ (.mk ku nu us) hat'.out hcp (by omega) ((hr.below g2).alloc _) ((hp.below g2).alloc _) (r3.alloc _) hput'.out).mono ?_; rintro e w7 ⟨A7, c7, rfl, hl7, r7, hb7⟩; have hZ7 := (hZ2.alloc (.cells #[.int .i64 kv, .int .i64 nv, .slice A3 vs.length c3] 27)).keep hb7; have g7 := (g2.alloc g2.size (.cells #[.int .i64 kv, .int .i64 nv, .slice A3 vs.length c3] 27)).trans (hb7.mono (by have := g2.size; simp; omega)); have tok3 := trivial)
        | (go_at_call 98; have _t := tok1; refine (iContract_any ku nu us A2 c2 _ hvu'.out hxu'.out rU).mono ?_; rw [hc'.out]; intro e w2 hgo; obtain ⟨A3, c3, rfl, hl3, hf3, hb2⟩ := gotO_some hgo; have hZ2 := hZ1.keep hb2; have hX2 := hX1.keep hb2; have g2 := g1.trans (hb2.mono g1.size); have r3 := hf3.rd; obtain ⟨x0, x1, x2⟩ := hX2.three; have lx := hX2.lt; have tok2 := trivial)
        | (go_at_call 99; refine (iAt_any k n ks A c xs P cp _ (by omega) (by omega) ((hr.alloc _).alloc _) ((hp.alloc _).alloc _) hat'.out).mono ?_; rintro e w1 ⟨k', n', ks', A2, c2, hu, rfl, hl2, hr2, hb1⟩; injection hu with y1 y2 y3; subst y1 y2 y3; have hX1 : Blk w1 w.heap.size #[.int .i64 k, .int .i64 n, .slice A ks.length c] := ((Blk.new_ _ 27 _ rfl).alloc _).keep hb1; have hZ1 : Blk w1 (w.heap.size + 1) #[.int .i64 0, .int .i64 0, .slice none 0 0] := (Blk.new_ _ 27 _ (by simp)).keep hb1; have g1 : Below w.heap.size w w1 := (((Below.refl _ _).alloc (Nat.le_refl _) _).alloc (by simp) _).trans (hb1.mono (by simp; omega)); have rU := hr2.below hb1; have tok1 := trivial))
      have s7 := g7.size
      have lz := hZ8.lt
      have lz1 := hZ1.lt
      have s12 := hb2.size
      have s27 := hb7.size
      refine bodyPost_ret (v := .tuple #[.agg #[.int .i64 kp, .int .i64 np, .slice A8 ps.length c8], .bool true]) (by simp [results, Tryz.results74, go_sem, d0, d1, d2]) rfl ⟨A8, c8, rfl, hl8, ?_, ?_⟩
      · exact (((hf9.setCell (by simp at s27; simp; omega) _).setCell (by simp at s27; simp; omega) _).setCell (by simp at s27; simp; omega) _).mono s7
      · exact ((g9.setCell (by simp) _).setCell (by simp) _).setCell (by simp) _
open Go.RowKit
/-- a way, and whether it leads to a redex -/
def HeadPost (o : Option (List Int)) (d : Nat) (w : World) (e : Ending) (w' : World) : Prop :=
  ∃ (A : Option Addr) (c : Nat) (xs : List Int), e = .returned (.tuple #[.slice A xs.length c, .bool o.isSome]) ∧ xs.length ≤ d ∧ xs.length ≤ c ∧ PathX w' A xs ∧ (∀ p, o = some p → xs = p) ∧ Below w.heap.size w w'
theorem HeadPost.way {o : Option (List Int)} {d : Nat} {w : World} {e : Ending} {w' : World} (h : HeadPost o d w e w') : WayPost o d w e w' := by
  obtain ⟨A, c, xs, he, h1, h2, h3, h4, h5⟩ := h
  exact ⟨A, xs.length, c, he, h1, h2, fun p hp => by have := h4 p hp; subst this; exact ⟨rfl, h3⟩, h5⟩
theorem headN_get : ∀ {ts : List Tm} {i : Nat} (h : i < ts.length), headN i ts = headP ts[i]
  | [], _, h => absurd h (Nat.not_lt_zero _)
  | t :: ts, 0, _ => by rw [headN]; rfl
  | t :: ts, i + 1, h => by rw [headN, headN_get (by simpa using h)]; simp
theorem headP_kid {k n : Int} {ks : List Tm} {i : Nat} (hr : rdx k ks = 0) (hm : mainO k = i) (hi : i < ks.length) : headP (.mk k n ks) = (headP ks[i]).map ((i : Int) :: ·) := by
  rw [headP, if_pos hr, hm, if_neg (by omega), Int.toNat_natCast, headN_get hi]
theorem headP_not {k n : Int} {ks : List Tm} (hr : rdx k ks = 0) (hm : mainO k < 0) : headP (.mk k n ks) = none := by
  rw [headP, if_pos hr, if_pos hm]
theorem headP_here {k n : Int} {ks : List Tm} (hr : rdx k ks ≠ 0) : headP (.mk k n ks) = some [] := by
  rw [headP, if_neg hr]
/-- what is wanted of head at smaller terms -/
def HeadO (N : Nat) : Prop := ∀ (d : Nat) (k n : Int) (ks : List Tm) (A : Option Addr) (c : Nat) (w : World), d ≤ 30 → sizes ks < N → shape d (.mk k n ks) = true → sizes ks ≤ 1099511627775 → Rd w A 0 ks →
    Calls Tryz.prog 149 #[.agg #[.int .i64 k, .int .i64 n, .slice A ks.length c]] w (HeadPost (headP (.mk k n ks)) d w)
set_option maxRecDepth 100000 in
set_option maxHeartbeats 2000000 in
theorem head_here (d : Nat) (k n : Int) (ks : List Tm) (A : Option Addr) (c : Nat) (w : World) (ha : arity k = (ks.length : Int)) (hM : sizes ks ≤ 1099511627775) (hr : Rd w A 0 ks) (hx : rdx k ks ≠ 0) :
    Calls Tryz.prog 149 #[.agg #[.int .i64 k, .int .i64 n, .slice A ks.length c]] w (HeadPost (headP (.mk k n ks)) d w) := by
  have hlen := length_le_sizes ks
  have hne : (rdx k ks != 0) = true := by simpa using hx
  rw [headP_here hx]
  have ha' := hide ha
  clear hx ha
  go_enter Tryz.func149, Tryz.ntmps149
  go_wp2_with (go_at_call 75; refine (iRedex_any k n ks A c _ (by omega) ha'.out (hr.alloc _)).mono ?_; rintro e w1 ⟨rfl, hb1⟩; replace hb1 := ((Below.refl _ _).alloc (Nat.le_refl _) _).trans (hb1.mono (by simp)))
  go_ret2
  exact ⟨none, 0, [], rfl, by simp, by simp, PathX.nil, (fun p hp => by injection hp), hb1⟩
set_option maxRecDepth 100000 in
set_option maxHeartbeats 2000000 in
theorem head_not (d : Nat) (k n : Int) (ks : List Tm) (A : Option Addr) (c : Nat) (w : World) (ha : arity k = (ks.length : Int)) (hM : sizes ks ≤ 1099511627775) (hr : Rd w A 0 ks) (hx : rdx k ks = 0) (h5 : k ≠ 5) (h15 : k ≠ 15) (h16 : k ≠ 16) (h9 : k ≠ 9) (h12 : k ≠ 12) :
    Calls Tryz.prog 149 #[.agg #[.int .i64 k, .int .i64 n, .slice A ks.length c]] w (HeadPost (headP (.mk k n ks)) d w) := by
  have hlen := length_le_sizes ks
  rw [headP_not hx (by rw [mainO, if_neg (by omega), if_neg h9, if_neg h12]; omega)]
  have q5 := k_ne h5
  have q15 := k_ne h15
  have q16 := k_ne h16
  have q9 := k_ne h9
  have q12 := k_ne h12
  have ha' := hide ha
  have hx' := hide hx
  clear hx ha h5 h15 h16 h9 h12
  go_enter Tryz.func149, Tryz.ntmps149
  go_wp2_with (go_at_call 75; refine (iRedex_any k n ks A c _ (by omega) ha'.out (hr.alloc _)).mono ?_; rw [hx'.out]; rintro e w1 ⟨rfl, hb1⟩; have hB1 := (Blk.new_ w 27 #[.int .i64 k, .int .i64 n, .slice A ks.length c] rfl).keep hb1; obtain ⟨p10, p11, p12⟩ := hB1.three; replace hb1 := ((Below.refl _ _).alloc (Nat.le_refl _) _).trans (hb1.mono (by simp)))
  go_ret2
  exact ⟨none, 0, [], rfl, by simp, by simp, PathX.nil, (fun p hp => by cases hp), hb1⟩
set_option maxRecDepth 100000 in
set_option maxHeartbeats 2000000 in
theorem head_5 {N : Nat} (ih : HeadO N) (d : Nat) (n : Int) (ks : List Tm) (A : Option Addr) (c : Nat) (w : World) (hd : d + 1 ≤ 30) (hN : sizes ks < N + 1) (hsh : shape (d + 1) (.mk 5 n ks) = true) (hM : sizes ks ≤ 1099511627775) (hr : Rd w A 0 ks) (hx : rdx 5 ks = 0) :
    Calls Tryz.prog 149 #[.agg #[.int .i64 5, .int .i64 n, .slice A ks.length c]] w (HeadPost (headP (.mk 5 n ks)) (d + 1) w) := by
  obtain ⟨ha, hm1, hm2, hkids⟩ := (shape_split d 5 n ks).1 hsh
  have hlen : ks.length = 2 := by have : arity 5 = 2 := rfl; omega
  have hik : 0 < ks.length := by omega
  rw [headP_kid (i := 0) hx rfl hik]
  obtain ⟨b, off, k1, n1, ks1, A1, c1, rfl, hkj, i1, i2, i3, hl1, hr1⟩ := hr.at_ hik
  have hsz := sizes_le (List.getElem_mem hik)
  have hs1 := hkids _ (List.getElem_mem hik)
  rw [hkj] at hsz hs1 ⊢
  simp only [Tm.size] at hsz
  have hRx := hide (fun (w : World) (hr : Rd w (some ⟨b, off, none⟩) 0 ks) => by have := iRedex_any 5 n ks _ c w (by omega) ha hr; rwa [hlen, hx] at this)
  rw [hlen]
  generalize ho : headP (.mk k1 n1 ks1) = o
  have ho' := hide ho
  have hs1' := hide hs1
  have ha' := hide ha
  have hx' := hide hx
  have hlen' := hide hlen
  clear ho hs1 ha hx hkids hsh hm1 hm2 hkj
  simp only [Nat.zero_mul, Nat.add_zero, Nat.one_mul, Nat.reduceMul] at i1 i2 i3
  go_enter Tryz.func149, Tryz.ntmps149
  go_wp2_with (first
    | (at_builtin; refine wpList_append_pathX hp3 rfl (by omega) _ rfl _ _ rfl rfl rfl ?_; intro A4 c4 w4 hcc4 hp4 hb4)
    | (go_at_call 149; refine (ih d k1 n1 ks1 A1 c1 _ (by omega) (by omega) hs1'.out (by omega) (hr1.below hb1)).mono ?_; rw [ho'.out]; rintro e w3 ⟨A3, c3, xs, rfl, hm3, hc3', hp3, hpe, hb3⟩; have hb4' := hb1.trans (hb3.mono hb1.size))
    | (go_at_call 75; refine (hRx.out _ (hr.alloc _)).mono ?_; rintro e w1 ⟨rfl, hb1⟩; have hB1 := (Blk.new_ w 27 #[.int .i64 5, .int .i64 n, .slice (some ⟨b, off, none⟩) 2 c] rfl).keep hb1; obtain ⟨p10, p11, p12⟩ := hB1.three; replace hb1 := ((Below.refl _ _).alloc (Nat.le_refl _) _).trans (hb1.mono (by simp)); have y0 := (Keeps.of_below hb1) _ _ i1; have y1 := (Keeps.of_below hb1) _ _ i2; have y2 := (Keeps.of_below hb1) _ _ i3))
  go_ret2
  refine ⟨A4, c4, (0 : Int) :: xs, by cases o <;> rfl, by simp; omega, hcc4, hp4, ?_, hb4'.trans (hb4.mono hb4'.size)⟩
  intro p hp
  cases o with
  | none => cases hp
  | some p1 => injection hp with hp; rw [← hp, hpe p1 rfl]; rfl
set_option maxRecDepth 100000 in
set_option maxHeartbeats 2000000 in
theorem head_15 {N : Nat} (ih : HeadO N) (d : Nat) (n : Int) (ks : List Tm) (A : Option Addr) (c : Nat) (w : World) (hd : d + 1 ≤ 30) (hN : sizes ks < N + 1) (hsh : shape (d + 1) (.mk 15 n ks) = true) (hM : sizes ks ≤ 1099511627775) (hr : Rd w A 0 ks) (hx : rdx 15 ks = 0) :
    Calls Tryz.prog 149 #[.agg #[.int .i64 15, .int .i64 n, .slice A ks.length c]] w (HeadPost (headP (.mk 15 n ks)) (d + 1) w) := by
  obtain ⟨ha, hm1, hm2, hkids⟩ := (shape_split d 15 n ks).1 hsh
  have hlen : ks.length = 1 := by have : arity 15 = 1 := rfl; omega
  have hik : 0 < ks.length := by omega
  rw [headP_kid (i := 0) hx rfl hik]
  obtain ⟨b, off, k1, n1, ks1, A1, c1, rfl, hkj, i1, i2, i3, hl1, hr1⟩ := hr.at_ hik
  have hsz := sizes_le (List.getElem_mem hik)
  have hs1 := hkids _ (List.getElem_mem hik)
  rw [hkj] at hsz hs1 ⊢
  simp only [Tm.size] at hsz
  have hRx := hide (fun (w : World) (hr : Rd w (some ⟨b, off, none⟩) 0 ks) => by have := iRedex_any 15 n ks _ c w (by omega) ha hr; rwa [hlen, hx] at this)
  rw [hlen]
  generalize ho : headP (.mk k1 n1 ks1) = o
  have ho' := hide ho
  have hs1' := hide hs1
  have ha' := hide ha
  have hx' := hide hx
  have hlen' := hide hlen
  clear ho hs1 ha hx hkids hsh hm1 hm2 hkj
  simp only [Nat.zero_mul, Nat.add_zero, Nat.one_mul, Nat.reduceMul] at i1 i2 i3
  go_enter Tryz.func149, Tryz.ntmps149
  go_wp2_with (first
    | (at_builtin; refine wpList_append_pathX hp3 rfl (by omega) _ rfl _ _ rfl rfl rfl ?_; intro A4 c4 w4 hcc4 hp4 hb4)
    | (go_at_call 149; refine (ih d k1 n1 ks1 A1 c1 _ (by omega) (by omega) hs1'.out (by omega) (hr1.below hb1)).mono ?_; rw [ho'.out]; rintro e w3 ⟨A3, c3, xs, rfl, hm3, hc3', hp3, hpe, hb3⟩; have hb4' := hb1.trans (hb3.mono hb1.size))
    | (go_at_call 75; refine (hRx.out _ (hr.alloc _)).mono ?_; rintro e w1 ⟨rfl, hb1⟩; have hB1 := (Blk.new_ w 27 #[.int .i64 15, .int .i64 n, .slice (some ⟨b, off, none⟩) 1 c] rfl).keep hb1; obtain ⟨p10, p11, p12⟩ := hB1.three; replace hb1 := ((Below.refl _ _).alloc (Nat.le_refl _) _).trans (hb1.mono (by simp)); have y0 := (Keeps.of_below hb1) _ _ i1; have y1 := (Keeps.of_below hb1) _ _ i2; have y2 := (Keeps.of_below hb1) _ _ i3))
  go_ret2
  refine ⟨A4, c4, (0 : Int) :: xs, by cases o <;> rfl, by simp; omega, hcc4, hp4, ?_, hb4'.trans (hb4.mono hb4'.size)⟩
  intro p hp
  cases o with
  | none => cases hp
  | some p1 => injection hp with hp; rw [← hp, hpe p1 rfl]; rfl
set_option maxRecDepth 100000 in
set_option maxHeartbeats 2000000 in
theorem head_16 {N : Nat} (ih : HeadO N) (d : Nat) (n : Int) (ks : List Tm) (A : Option Addr) (c : Nat) (w : World) (hd : d + 1 ≤ 30) (hN : sizes ks < N + 1) (hsh : shape (d + 1) (.mk 16 n ks) = true) (hM : sizes ks ≤ 1099511627775) (hr : Rd w A 0 ks) (hx : rdx 16 ks = 0) :
    Calls Tryz.prog 149 #[.agg #[.int .i64 16, .int .i64 n, .slice A ks.length c]] w (HeadPost (headP (.mk 16 n ks)) (d + 1) w) := by
  obtain ⟨ha, hm1, hm2, hkids⟩ := (shape_split d 16 n ks).1 hsh
  have hlen : ks.length = 1 := by have : arity 16 = 1 := rfl; omega
  have hik : 0 < ks.length := by omega
  rw [headP_kid (i := 0) hx rfl hik]
  obtain ⟨b, off, k1, n1, ks1, A1, c1, rfl, hkj, i1, i2, i3, hl1, hr1⟩ := hr.at_ hik
  have hsz := sizes_le (List.getElem_mem hik)
  have hs1 := hkids _ (List.getElem_mem hik)
  rw [hkj] at hsz hs1 ⊢
  simp only [Tm.size] at hsz
  have hRx := hide (fun (w : World) (hr : Rd w (some ⟨b, off, none⟩) 0 ks) => by have := iRedex_any 16 n ks _ c w (by omega) ha hr; rwa [hlen, hx] at this)
  rw [hlen]
  generalize ho : headP (.mk k1 n1 ks1) = o
  have ho' := hide ho
  have hs1' := hide hs1
  have ha' := hide ha
  have hx' := hide hx
  have hlen' := hide hlen
  clear ho hs1 ha hx hkids hsh hm1 hm2 hkj
  simp only [Nat.zero_mul, Nat.add_zero, Nat.one_mul, Nat.reduceMul] at i1 i2 i3
  go_enter Tryz.func149, Tryz.ntmps149
  go_wp2_with (first
    | (at_builtin; refine wpList_append_pathX hp3 rfl (by omega) _ rfl _ _ rfl rfl rfl ?_; intro A4 c4 w4 hcc4 hp4 hb4)
    | (go_at_call 149; refine (ih d k1 n1 ks1 A1 c1 _ (by omega) (by omega) hs1'.out (by omega) (hr1.below hb1)).mono ?_; rw [ho'.out]; rintro e w3 ⟨A3, c3, xs, rfl, hm3, hc3', hp3, hpe, hb3⟩; have hb4' := hb1.trans (hb3.mono hb1.size))
    | (go_at_call 75; refine (hRx.out _ (hr.alloc _)).mono ?_; rintro e w1 ⟨rfl, hb1⟩; have hB1 := (Blk.new_ w 27 #[.int .i64 16, .int .i64 n, .slice (some ⟨b, off, none⟩) 1 c] rfl).keep hb1; obtain ⟨p10, p11, p12⟩ := hB1.three; replace hb1 := ((Below.refl _ _).alloc (Nat.le_refl _) _).trans (hb1.mono (by simp)); have y0 := (Keeps.of_below hb1) _ _ i1; have y1 := (Keeps.of_below hb1) _ _ i2; have y2 := (Keeps.of_below hb1) _ _ i3))
  go_ret2
  refine ⟨A4, c4, (0 : Int) :: xs, by cases o <;> rfl, by simp; omega, hcc4, hp4, ?_, hb4'.trans (hb4.mono hb4'.size)⟩
  intro p hp
  cases o with
  | none => cases hp
  | some p1 => injection hp with hp; rw [← hp, hpe p1 rfl]; rfl
set_option maxRecDepth 100000 in
set_option maxHeartbeats 2000000 in
theorem head_9 {N : Nat} (ih : HeadO N) (d : Nat) (n : Int) (ks : List Tm) (A : Option Addr) (c : Nat) (w : World) (hd : d + 1 ≤ 30) (hN : sizes ks < N + 1) (hsh : shape (d + 1) (.mk 9 n ks) = true) (hM : sizes ks ≤ 1099511627775) (hr : Rd w A 0 ks) (hx : rdx 9 ks = 0) :
    Calls Tryz.prog 149 #[.agg #[.int .i64 9, .int .i64 n, .slice A ks.length c]] w (HeadPost (headP (.mk 9 n ks)) (d + 1) w) := by
  obtain ⟨ha, hm1, hm2, hkids⟩ := (shape_split d 9 n ks).1 hsh
  have hlen : ks.length = 4 := by have : arity 9 = 4 := rfl; omega
  have hik : 3 < ks.length := by omega
  rw [headP_kid (i := 3) hx rfl hik]
  obtain ⟨b, off, k1, n1, ks1, A1, c1, rfl, hkj, i1, i2, i3, hl1, hr1⟩ := hr.at_ hik
  have hsz := sizes_le (List.getElem_mem hik)
  have hs1 := hkids _ (List.getElem_mem hik)
  rw [hkj] at hsz hs1 ⊢
  simp only [Tm.size] at hsz
  have hRx := hide (fun (w : World) (hr : Rd w (some ⟨b, off, none⟩) 0 ks) => by have := iRedex_any 9 n ks _ c w (by omega) ha hr; rwa [hlen, hx] at this)
  rw [hlen]
  generalize ho : headP (.mk k1 n1 ks1) = o
  have ho' := hide ho
  have hs1' := hide hs1
  have ha' := hide ha
  have hx' := hide hx
  have hlen' := hide hlen
  clear ho hs1 ha hx hkids hsh hm1 hm2 hkj
  simp only [Nat.zero_mul, Nat.add_zero, Nat.one_mul, Nat.reduceMul] at i1 i2 i3
  go_enter Tryz.func149, Tryz.ntmps149
  go_wp2_with (first
    | (at_builtin; refine wpList_append_pathX hp3 rfl (by omega) _ rfl _ _ rfl rfl rfl ?_; intro A4 c4 w4 hcc4 hp4 hb4)
    | (go_at_call 149; refine (ih d k1 n1 ks1 A1 c1 _ (by omega) (by omega) hs1'.out (by omega) (hr1.below hb1)).mono ?_; rw [ho'.out]; rintro e w3 ⟨A3, c3, xs, rfl, hm3, hc3', hp3, hpe, hb3⟩; have hb4' := hb1.trans (hb3.mono hb1.size))
    | (go_at_call 75; refine (hRx.out _ (hr.alloc _)).mono ?_; rintro e w1 ⟨rfl, hb1⟩; have hB1 := (Blk.new_ w 27 #[.int .i64 9, .int .i64 n, .slice (some ⟨b, off, none⟩) 4 c] rfl).keep hb1; obtain ⟨p10, p11, p12⟩ := hB1.three; replace hb1 := ((Below.refl _ _).alloc (Nat.le_refl _) _).trans (hb1.mono (by simp)); have y0 := (Keeps.of_below hb1) _ _ i1; have y1 := (Keeps.of_below hb1) _ _ i2; have y2 := (Keeps.of_below hb1) _ _ i3))
  go_ret2
  refine ⟨A4, c4, (3 : Int) :: xs, by cases o <;> rfl, by simp; omega, hcc4, hp4, ?_, hb4'.trans (hb4.mono hb4'.size)⟩
  intro p hp
  cases o with
  | none => cases hp
  | some p1 => injection hp with hp; rw [← hp, hpe p1 rfl]; rfl
set_option maxRecDepth 100000 in
set_option maxHeartbeats 2000000 in
theorem head_12 {N : Nat} (ih : HeadO N) (d : Nat) (n : Int) (ks : List Tm) (A : Option Addr) (c : Nat) (w : World) (hd : d + 1 ≤ 30) (hN : sizes ks < N + 1) (hsh : shape (d + 1) (.mk 12 n ks) = true) (hM : sizes ks ≤ 1099511627775) (hr : Rd w A 0 ks) (hx : rdx 12 ks = 0) :
    Calls Tryz.prog 149 #[.agg #[.int .i64 12, .int .i64 n, .slice A ks.length c]] w (HeadPost (headP (.mk 12 n ks)) (d + 1) w) := by
  obtain ⟨ha, hm1, hm2, hkids⟩ := (shape_split d 12 n ks).1 hsh
  have hlen : ks.length = 3 := by have : arity 12 = 3 := rfl; omega
  have hik : 1 < ks.length := by omega
  rw [headP_kid (i := 1) hx rfl hik]
  obtain ⟨b, off, k1, n1, ks1, A1, c1, rfl, hkj, i1, i2, i3, hl1, hr1⟩ := hr.at_ hik
  have hsz := sizes_le (List.getElem_mem hik)
  have hs1 := hkids _ (List.getElem_mem hik)
  rw [hkj] at hsz hs1 ⊢
  simp only [Tm.size] at hsz
  have hRx := hide (fun (w : World) (hr : Rd w (some ⟨b, off, none⟩) 0 ks) => by have := iRedex_any 12 n ks _ c w (by omega) ha hr; rwa [hlen, hx] at this)
  rw [hlen]
  generalize ho : headP (.mk k1 n1 ks1) = o
  have ho' := hide ho
  have hs1' := hide hs1
  have ha' := hide ha
  have hx' := hide hx
  have hlen' := hide hlen
  clear ho hs1 ha hx hkids hsh hm1 hm2 hkj
  simp only [Nat.zero_mul, Nat.add_zero, Nat.one_mul, Nat.reduceMul] at i1 i2 i3
  go_enter Tryz.func149, Tryz.ntmps149
  go_wp2_with (first
    | (at_builtin; refine wpList_append_pathX hp3 rfl (by omega) _ rfl _ _ rfl rfl rfl ?_; intro A4 c4 w4 hcc4 hp4 hb4)
    | (go_at_call 149; refine (ih d k1 n1 ks1 A1 c1 _ (by omega) (by omega) hs1'.out (by omega) (hr1.below hb1)).mono ?_; rw [ho'.out]; rintro e w3 ⟨A3, c3, xs, rfl, hm3, hc3', hp3, hpe, hb3⟩; have hb4' := hb1.trans (hb3.mono hb1.size))
    | (go_at_call 75; refine (hRx.out _ (hr.alloc _)).mono ?_; rintro e w1 ⟨rfl, hb1⟩; have hB1 := (Blk.new_ w 27 #[.int .i64 12, .int .i64 n, .slice (some ⟨b, off, none⟩) 3 c] rfl).keep hb1; obtain ⟨p10, p11, p12⟩ := hB1.three; replace hb1 := ((Below.refl _ _).alloc (Nat.le_refl _) _).trans (hb1.mono (by simp)); have y0 := (Keeps.of_below hb1) _ _ i1; have y1 := (Keeps.of_below hb1) _ _ i2; have y2 := (Keeps.of_below hb1) _ _ i3))
  go_ret2
  refine ⟨A4, c4, (1 : Int) :: xs, by cases o <;> rfl, by simp; omega, hcc4, hp4, ?_, hb4'.trans (hb4.mono hb4'.size)⟩
  intro p hp
  cases o with
  | none => cases hp
  | some p1 => injection hp with hp; rw [← hp, hpe p1 rfl]; rfl
theorem headX_all (N : Nat) : HeadO N := by
  induction N with
  | zero => intro d k n ks A c w _ hN; exact absurd hN (Nat.not_lt_zero _)
  | succ N ih =>
  intro d k n ks A c w hd hN hsh hM hr
  obtain ⟨d, rfl⟩ : ∃ d', d = d' + 1 := by cases d with | zero => simp [shape] at hsh | succ d => exact ⟨d, rfl⟩
  have ha := ((shape_split d k n ks).1 hsh).1
  by_cases hx : rdx k ks = 0
  · by_cases h5 : k = 5
    · subst h5; exact head_5 ih d n ks A c w hd hN hsh hM hr hx
    by_cases h15 : k = 15
    · subst h15; exact head_15 ih d n ks A c w hd hN hsh hM hr hx
    by_cases h16 : k = 16
    · subst h16; exact head_16 ih d n ks A c w hd hN hsh hM hr hx
    by_cases h9 : k = 9
    · subst h9; exact head_9 ih d n ks A c w hd hN hsh hM hr hx
    by_cases h12 : k = 12
    · subst h12; exact head_12 ih d n ks A c w hd hN hsh hM hr hx
    exact head_not (d + 1) k n ks A c w ha hM hr hx h5 h15 h16 h9 h12
  · exact head_here (d + 1) k n ks A c w ha hM hr hx
theorem headX_any (N : Nat) (d : Nat) (k n : Int) (ks : List Tm) (A : Option Addr) (c : Nat) (w : World) (hd : d ≤ 30) (hN : sizes ks < N) (hsh : shape d (.mk k n ks) = true) (hM : sizes ks ≤ 1099511627775) (hr : Rd w A 0 ks) :
    Calls Tryz.prog 149 #[.agg #[.int .i64 k, .int .i64 n, .slice A ks.length c]] w (WayPost (headP (.mk k n ks)) d w) :=
  (headX_all N d k n ks A c w hd hN hsh hM hr).mono fun e w' h => h.way
end Go.Proofs.YthgmofdfecioaaaGreatDoor
