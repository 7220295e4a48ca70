/-
  Contracts of the functions that the law reaches, and plain lemmas. No condition.
-/
import Derived.Test.YtodkpgkefjegnaaGreatDoorK9
import Derived.Test.YtodkpgkefjegnaaGreatDoorK14
import Derived.Test.YtodkpgkefjegnaaGreatDoorK19
namespace Go.Proofs.YtodkpgkefjegnaaGreatDoor
set_option linter.unusedSimpArgs false
set_option linter.unusedVariables false
open Go.RowKit
/-- a part of a term, where it stands -/
def SeenT (w : World) (u : Tm) (e : Ending) (w' : World) : Prop :=
  ∃ k n ks A c, u = .mk k n ks ∧ e = .returned (.agg #[.int .i64 k, .int .i64 n, .slice A ks.length c]) ∧ ks.length ≤ 9223372036854775807 ∧ Rd w A 0 ks ∧ Below w.heap.size w w'
set_option maxHeartbeats 2000000 in
set_option maxRecDepth 100000 in
theorem iAt_any (k n : Int) (ks : List Tm) (A : Option Addr) (c : Nat) (xs : List Int) (P : Option Addr) (cp : Nat) (w : World) (hM : sizes ks ≤ 1000000000) (hx : xs.length ≤ 9223372036854775807) (hr : Rd w A 0 ks) (hi : RdI w P xs) {u : Tm} (hu : atT (.mk k n ks) xs = some u) :
    Calls Tryz.prog 61 #[.agg #[.int .i64 k, .int .i64 n, .slice A ks.length c], .slice P xs.length cp] w (SeenT w u) := by
  have hlen := length_le_sizes ks
  have hu' := hide hu
  clear hu
  go_enter Tryz.func61, Tryz.ntmps61
  go_wp2_with fail
  go_loopw [9] (fun i wr => ∃ (j : Nat) (k1 n1 : Int) (ks1 : List Tm) (A1 : Option Addr) (c1 : Nat), j ≤ xs.length ∧ i = .int .i64 j ∧ Hid (atT (.mk k n ks) (xs.take j) = some (.mk k1 n1 ks1)) ∧ ks1.length ≤ 9223372036854775807 ∧ Rd w A1 0 ks1 ∧ Blk wr w.heap.size #[.int .i64 k1, .int .i64 n1, .slice A1 ks1.length c1] ∧ Blk wr (w.heap.size + 1) #[.int .i64 0, .int .i64 0, .slice none 0 0] ∧ Below w.heap.size w wr)
    (fun i _ => xs.length - (intOf i).toNat)
  case atStart => exact ⟨0, k, n, ks, A, c, Nat.zero_le _, rfl, hide rfl, by omega, hr, (Blk.new_ _ _ _ rfl).alloc _, Blk.new_ _ _ _ (by simp), ((Below.refl _ _).alloc (by simp) _).alloc (by simp) _⟩
  case round =>
    obtain ⟨j, k1, n1, ks1, A1, c1, hj, rfl, hat, hl1, hr1, hB1, hB2, hb⟩ := hrel
    have lB2 := hB2.lt
    by_cases hlt : j < xs.length
    · obtain ⟨b, off, rfl, hc⟩ := hi.below hb j hlt
      have hnx := atT_take hlt hat.out
      have hne : atT (.mk k n ks) (xs.take (j + 1)) ≠ none := fun h => by have := atT_none h; rw [hu'.out] at this; cases this
      generalize hxj : xs[j] = x at hc hnx
      have hxj' := hide hxj
      clear hxj
      by_cases hin : 0 ≤ x ∧ x < ks1.length
      · obtain ⟨i, rfl⟩ : ∃ i : Nat, x = (i : Int) := ⟨x.toNat, by omega⟩
        have hik : i < ks1.length := by omega
        obtain ⟨b3, off3, k3, n3, ks3, A3, c3, rfl, hkj3, hd1, hd2, hd3, hl3, hr3⟩ := hr1.at_ hik
        have hst : atT (.mk k n ks) (xs.take (j + 1)) = some (.mk k3 n3 ks3) := by
          rw [hnx, if_pos (show 0 ≤ (i : Int) ∧ (i : Int) < (Tm.mk k1 n1 ks1).kids.length from hin), Int.toNat_natCast, show (Tm.mk k1 n1 ks1).kids = ks1 from rfl, List.getD_eq_getElem?_getD, List.getElem?_eq_getElem hik, Option.getD_some, hkj3]
        have hst' := hide hst
        clear hkj3 hst hnx hne
        have z2 := (Keeps.of_below hb) _ _ hd1
        have z3 := (Keeps.of_below hb) _ _ hd2
        have z4 := (Keeps.of_below hb) _ _ hd3
        have cc2 : wr.cell? ⟨w.heap.size, 2, none⟩ = some (.slice (some ⟨b3, off3, none⟩) ks1.length c1) := hB1.at_ rfl
        have cc0 : wr.cell? ⟨w.heap.size, 0, none⟩ = some (.int .i64 k1) := hB1.at_ rfl
        have cc1 : wr.cell? ⟨w.heap.size, 1, none⟩ = some (.int .i64 n1) := hB1.at_ rfl
        have f0 := hB1.frozen 0
        have f1 := hB1.frozen 1
        have f2 := hB1.frozen 2
        go_wp2_with fail
        go_roundw
        case rel => exact ⟨j + 1, k3, n3, ks3, A3, c3, by omega, by go_num, hst', hl3, hr3, ((hB1.set_ 0 _).set_ 1 _).set_ 2 _, ((hB2.far (by simp) _).far (by simp) _).far (by simp) _, ((hb.setCell (by simp) _).setCell (by simp) _).setCell (by simp) _⟩
        case measure => simp [intOf]; omega
      · exact absurd (by rw [hnx, if_neg (show ¬ (0 ≤ x ∧ x < (Tm.mk k1 n1 ks1).kids.length) from hin)]) hne
    · have hjl : j = xs.length := by omega
      subst hjl
      have hut : u = .mk k1 n1 ks1 := by have := hat.out; rw [List.take_length, hu'.out] at this; exact Option.some.inj this
      subst hut
      have cc0 : wr.cell? ⟨w.heap.size, 0, none⟩ = some (.int .i64 k1) := hB1.at_ rfl
      have cc1 : wr.cell? ⟨w.heap.size, 1, none⟩ = some (.int .i64 n1) := hB1.at_ rfl
      have cc2 : wr.cell? ⟨w.heap.size, 2, none⟩ = some (.slice A1 ks1.length c1) := hB1.at_ rfl
      have d0 : wr.cell? ⟨w.heap.size + 1, 0, none⟩ = some (.int .i64 0) := hB2.at_ rfl
      have d1 : wr.cell? ⟨w.heap.size + 1, 1, none⟩ = some (.int .i64 0) := hB2.at_ rfl
      have d2 : wr.cell? ⟨w.heap.size + 1, 2, none⟩ = some (.slice none 0 0) := hB2.at_ rfl
      have e0 := hB2.frozen 0
      have e1 := hB2.frozen 1
      have e2 := hB2.frozen 2
      go_wp2_with fail
      refine bodyPost_ret (v := .agg #[.int .i64 k1, .int .i64 n1, .slice A1 ks1.length c1]) (by simp [results, Tryz.results61, go_sem, d0, d1, d2]) rfl ⟨_, _, _, A1, c1, rfl, rfl, hl1, hr1, ?_⟩
      exact ((hb.setCell (by simp) _).setCell (by simp) _).setCell (by simp) _
open Go.RowKit
theorem sizes_set_lt {ks : List Tm} {i : Nat} (hi : i < ks.length) {t : Tm} : sizes (ks.set i t) + ks[i].size = sizes ks + t.size := by
  induction ks generalizing i with
  | nil => simp at hi
  | cons a ts ih =>
    cases i with
    | zero => rw [List.set_cons_zero, sizes, sizes, List.getElem_cons_zero]; omega
    | succ i => rw [List.set_cons_succ, sizes, sizes, List.getElem_cons_succ]; have := ih (i := i) (by simpa using hi); omega
theorem putN_size {u u0 : Tm} : ∀ {xs : List Int} {t : Tm}, atT t xs = some u0 → (putN t xs u).size ≤ t.size + u.size
  | [], t, _ => by rw [putN]; omega
  | i :: is, .mk k n ks, h => by
    rw [atT] at h
    split at h
    · rename_i hh
      have hlt : i.toNat < ks.length := by have := hh.2; simp only [Tm.kids] at this; omega
      rw [show (Tm.mk k n ks).kids = ks from rfl] at h
      have h1 := putN_size h (u := u)
      have h2 := sizes_set_lt hlt (t := putN (ks.getD i.toNat default) is u)
      have e : ks.getD i.toNat default = ks[i.toNat] := by simp [List.getD, List.getElem?_eq_getElem hlt]
      rw [e] at h1 h2
      rw [putN, Tm.size, Tm.size, e]
      omega
    · cases h
/-- put, where all can be read -/
theorem iPutR_any (ku nu : Int) (us : List Tm) (hus : sizes us ≤ 1000000) (xs : List Int) (k n : Int) (ks : List Tm) (A : Option Addr) (c : Nat) (P : Option Addr) (cp : Nat) (U : Option Addr) (cu : Nat) (w : World) (u0 : Tm) (h : atT (.mk k n ks) xs = some u0) (hcp : xs.length ≤ cp) (hM : sizes ks ≤ 1000000) (hr : Rd w A 0 ks) (hi : RdI w P xs) (hru : Rd w U 0 us) {kp np : Int} {ps : List Tm} (hp : putN (.mk k n ks) xs (.mk ku nu us) = .mk kp np ps) :
    Calls Tryz.prog 63 #[.agg #[.int .i64 k, .int .i64 n, .slice A ks.length c], .slice P xs.length cp, .agg #[.int .i64 ku, .int .i64 nu, .slice U us.length cu]] w fun e w' => ∃ B d, e = .returned (.agg #[.int .i64 kp, .int .i64 np, .slice B ps.length d]) ∧ ps.length ≤ 9223372036854775807 ∧ Rd w' B 0 ps ∧ Below w.heap.size w w' := by
  refine (iPut_any (· < w.heap.size) ku nu us hus xs k n ks A c P cp U cu w u0 h hcp hM hr.rdp hi hru.rdp (fun b hb => hb)).mono ?_
  rw [hp]
  rintro e w' hgo
  obtain ⟨B, d, rfl, hl, hr', hb⟩ := gotQ_mk hgo
  exact ⟨B, d, rfl, hl, hr'.rd, hb⟩
set_option maxHeartbeats 8000000 in
set_option maxRecDepth 100000 in
theorem iCtd_any (k n : Int) (ks : List Tm) (A : Option Addr) (c : Nat) (xs : List Int) (P : Option Addr) (cp : Nat) (w : World) {ku nu : Int} {us : List Tm} (hv : validT (.mk k n ks) = true) (hx : xs.length ≤ 1000) (hcp : xs.length ≤ cp) (hat : atT (.mk k n ks) xs = some (.mk ku nu us)) (hxu : rdx ku us ≠ 0) (hr : Rd w A 0 ks) (hp : RdI w P xs) :
    Calls Tryz.prog 40 #[.agg #[.int .i64 k, .int .i64 n, .slice A ks.length c], .slice P xs.length cp] w (GotO w (ctdI (.mk k n ks) xs)) := by
  have hz := validT_size' hv
  have hlen := length_le_sizes ks
  have hvu := atT_valid hat hv
  have hvu' := hide hvu
  have hat' := hide hat
  have hxu' := hide hxu
  have hzu := validT_size' hvu
  cases hc : ctrI (.mk ku nu us) with
  | none =>
    have hz2 : ctdI (.mk k n ks) xs = none := by rw [ctdI, hat]; simp only [hc]
    rw [hz2]
    have hc' := hide hc
    clear hz2 hc hat hvu hxu hv
    go_enter Tryz.func40, Tryz.ntmps40
    go_wp2_with (first
      | (go_at_call 60; have _t := tok1; refine (iContract_any ku nu us A2 c2 _ hvu'.out hxu'.out rU).mono ?_; rw [hc'.out]; intro e w2 hgo; obtain ⟨rfl, hb2⟩ := gotO_none hgo; have hZ2 := hZ1.keep hb2; have g2 := g1.trans (hb2.mono g1.size); obtain ⟨d0, d1, d2⟩ := hZ2.three; have e0 := hZ2.frozen 0; have e1 := hZ2.frozen 1; have e2 := hZ2.frozen 2; have lz := hZ2.lt; have n1 : w.heap.size + 1 ≠ w2.heap.size := (by omega))
      | (go_at_call 61; refine (iAt_any k n ks A c xs P cp _ (by omega) (by omega) ((hr.alloc _).alloc _) ((hp.alloc _).alloc _) hat'.out).mono ?_; rintro e w1 ⟨k', n', ks', A2, c2, hu, rfl, hl2, hr2, hb1⟩; injection hu with x1 x2 x3; subst x1 x2 x3; have hZ1 : Blk w1 (w.heap.size + 1) #[.int .i64 0, .int .i64 0, .slice none 0 0] := (Blk.new_ _ 25 _ (by simp)).keep hb1; have g1 : Below w.heap.size w w1 := (((Below.refl _ _).alloc (Nat.le_refl _) _).alloc (by simp) _).trans (hb1.mono (by simp; omega)); have rU := hr2.below hb1; have tok1 := trivial))
    have y := fun (o : Obj) => (((((hZ2.set_ 0 (.int .i64 0)).set_ 1 (.int .i64 0)).set_ 2 (.slice none 0 0)).alloc o : Blk _ _ #[.int .i64 0, .int .i64 0, .slice none 0 0])).three
    refine bodyPost_ret (v := .tuple #[zeroV, .bool false]) (by simp [results, Tryz.results40, go_sem, y, zeroV]) rfl ⟨rfl, ?_⟩
    exact (((g2.setCell (by simp) _).setCell (by simp) _).setCell (by simp) _).alloc (by simp [World.setCell]; exact g2.size) _
  | some v =>
    obtain ⟨kv, nv, vs⟩ := v
    have hvv := ctrI_valid hc
    have hzv := validT_size' hvv
    obtain ⟨kp, np, ps, hput⟩ : ∃ kp np ps, putN (.mk k n ks) xs (.mk kv nv vs) = .mk kp np ps := by cases putN (.mk k n ks) xs (.mk kv nv vs) with | mk a b c => exact ⟨a, b, c, rfl⟩
    have hzp : sizes ps ≤ 1000 := by
      have := putN_size hat (u := .mk kv nv vs)
      rw [hput] at this
      simp only [Tm.size] at this
      omega
    have hz2 : ctdI (.mk k n ks) xs = vO (.mk kp np ps) := by rw [ctdI, hat]; simp only [hc, hput]
    rw [hz2]
    have hc' := hide hc
    have hput' := hide hput
    clear hz2 hc hat hvu hxu hv hput hvv
    have hlp := length_le_sizes ps
    cases hvp : validT (.mk kp np ps) with
    | false =>
      have hz3 : vO (.mk kp np ps) = none := by rw [vO, hvp]; rfl
      rw [hz3]
      have hvp' := hide hvp
      clear hz3 hvp
      go_enter Tryz.func40, Tryz.ntmps40
      go_wp2_with (first
        | (go_at_call 62; have _t := tok4; refine (valid_noE kp np ps A8 c8 _ (by omega) hf8.rd hvp'.out).mono ?_; rintro e w9 ⟨rfl, hb9⟩; have hZ9 := hZ8.keep hb9; have g9 := g8.trans (hb9.mono g8.size); obtain ⟨d0, d1, d2⟩ := hZ9.three; have e0 := hZ9.frozen 0; have e1 := hZ9.frozen 1; have e2 := hZ9.frozen 2)
        | (go_at_call 39; have _t := tok3; refine (own_any 10000 kp np ps A7 c7 _ (by omega) (by omega) r7).mono ?_; rintro e w8 ⟨A8, c8, rfl, hl8, hf8, hb8⟩; have hZ8 := hZ7.keep hb8; have g8 := g7.trans (hb8.mono g7.size); have tok4 := trivial)
        | (go_at_call 63; have _t := tok2; refine (iPutR_any kv nv vs (by omega) xs k n ks A c P cp A3 c3 _ (.mk ku nu us) hat'.out hcp (by omega) ((hr.below g2).alloc _) ((hp.below g2).alloc _) (r3.alloc _) hput'.out).mono ?_; rintro e w7 ⟨A7, c7, rfl, hl7, r7, hb7⟩; have hZ7 := (hZ2.alloc (.cells #[.int .i64 kv, .int .i64 nv, .slice A3 vs.length c3] 25)).keep hb7; have g7 := (g2.alloc g2.size (.cells #[.int .i64 kv, .int .i64 nv, .slice A3 vs.length c3] 25)).trans (hb7.mono (by have := g2.size; simp; omega)); have tok3 := trivial)
        | (go_at_call 60; have _t := tok1; refine (iContract_any ku nu us A2 c2 _ hvu'.out hxu'.out rU).mono ?_; rw [hc'.out]; intro e w2 hgo; obtain ⟨A3, c3, rfl, hl3, hf3, hb2⟩ := gotO_some hgo; have hZ2 := hZ1.keep hb2; have hX2 := hX1.keep hb2; have g2 := g1.trans (hb2.mono g1.size); have r3 := hf3.rd; obtain ⟨x0, x1, x2⟩ := hX2.three; have lx := hX2.lt; have tok2 := trivial)
        | (go_at_call 61; refine (iAt_any k n ks A c xs P cp _ (by omega) (by omega) ((hr.alloc _).alloc _) ((hp.alloc _).alloc _) hat'.out).mono ?_; rintro e w1 ⟨k', n', ks', A2, c2, hu, rfl, hl2, hr2, hb1⟩; injection hu with y1 y2 y3; subst y1 y2 y3; have hX1 : Blk w1 w.heap.size #[.int .i64 k, .int .i64 n, .slice A ks.length c] := ((Blk.new_ _ 25 _ rfl).alloc _).keep hb1; have hZ1 : Blk w1 (w.heap.size + 1) #[.int .i64 0, .int .i64 0, .slice none 0 0] := (Blk.new_ _ 25 _ (by simp)).keep hb1; have g1 : Below w.heap.size w w1 := (((Below.refl _ _).alloc (Nat.le_refl _) _).alloc (by simp) _).trans (hb1.mono (by simp; omega)); have rU := hr2.below hb1; have tok1 := trivial))
      refine bodyPost_ret (v := .tuple #[zeroV, .bool false]) (by simp [results, Tryz.results40, go_sem, d0, d1, d2, zeroV]) rfl ⟨rfl, ?_⟩
      exact ((g9.setCell (by simp) _).setCell (by simp) _).setCell (by simp) _
    | true =>
      have hz3 : vO (.mk kp np ps) = some (.mk kp np ps) := by rw [vO, hvp]; rfl
      rw [hz3]
      have hvp' := hide hvp
      clear hz3 hvp
      go_enter Tryz.func40, Tryz.ntmps40
      go_wp2_with (first
        | (go_at_call 62; have _t := tok4; refine (valid_yes kp np ps A8 c8 _ (by omega) hf8.rd hvp'.out).mono ?_; rintro e w9 ⟨rfl, hb9⟩; have hZ9 := hZ8.keep hb9; have g9 := g8.trans (hb9.mono g8.size); have hf9 := hf8.below hb9; obtain ⟨d0, d1, d2⟩ := hZ9.three; have e0 := hZ9.frozen 0; have e1 := hZ9.frozen 1; have e2 := hZ9.frozen 2)
        | (go_at_call 39; have _t := tok3; refine (own_any 10000 kp np ps A7 c7 _ (by omega) (by omega) r7).mono ?_; rintro e w8 ⟨A8, c8, rfl, hl8, hf8, hb8⟩; have hZ8 := hZ7.keep hb8; have g8 := g7.trans (hb8.mono g7.size); have tok4 := trivial)
        | (go_at_call 63; have _t := tok2; refine (iPutR_any kv nv vs (by omega) xs k n ks A c P cp A3 c3 _ (.mk ku nu us) hat'.out hcp (by omega) ((hr.below g2).alloc _) ((hp.below g2).alloc _) (r3.alloc _) hput'.out).mono ?_; rintro e w7 ⟨A7, c7, rfl, hl7, r7, hb7⟩; have hZ7 := (hZ2.alloc (.cells #[.int .i64 kv, .int .i64 nv, .slice A3 vs.length c3] 25)).keep hb7; have g7 := (g2.alloc g2.size (.cells #[.int .i64 kv, .int .i64 nv, .slice A3 vs.length c3] 25)).trans (hb7.mono (by have := g2.size; simp; omega)); have tok3 := trivial)
        | (go_at_call 60; have _t := tok1; refine (iContract_any ku nu us A2 c2 _ hvu'.out hxu'.out rU).mono ?_; rw [hc'.out]; intro e w2 hgo; obtain ⟨A3, c3, rfl, hl3, hf3, hb2⟩ := gotO_some hgo; have hZ2 := hZ1.keep hb2; have hX2 := hX1.keep hb2; have g2 := g1.trans (hb2.mono g1.size); have r3 := hf3.rd; obtain ⟨x0, x1, x2⟩ := hX2.three; have lx := hX2.lt; have tok2 := trivial)
        | (go_at_call 61; refine (iAt_any k n ks A c xs P cp _ (by omega) (by omega) ((hr.alloc _).alloc _) ((hp.alloc _).alloc _) hat'.out).mono ?_; rintro e w1 ⟨k', n', ks', A2, c2, hu, rfl, hl2, hr2, hb1⟩; injection hu with y1 y2 y3; subst y1 y2 y3; have hX1 : Blk w1 w.heap.size #[.int .i64 k, .int .i64 n, .slice A ks.length c] := ((Blk.new_ _ 25 _ rfl).alloc _).keep hb1; have hZ1 : Blk w1 (w.heap.size + 1) #[.int .i64 0, .int .i64 0, .slice none 0 0] := (Blk.new_ _ 25 _ (by simp)).keep hb1; have g1 : Below w.heap.size w w1 := (((Below.refl _ _).alloc (Nat.le_refl _) _).alloc (by simp) _).trans (hb1.mono (by simp; omega)); have rU := hr2.below hb1; have tok1 := trivial))
      have s7 := g7.size
      have lz := hZ8.lt
      have lz1 := hZ1.lt
      have s12 := hb2.size
      have s27 := hb7.size
      refine bodyPost_ret (v := .tuple #[.agg #[.int .i64 kp, .int .i64 np, .slice A8 ps.length c8], .bool true]) (by simp [results, Tryz.results40, go_sem, d0, d1, d2]) rfl ⟨A8, c8, rfl, hl8, ?_, ?_⟩
      · exact (((hf9.setCell (by simp at s27; simp; omega) _).setCell (by simp at s27; simp; omega) _).setCell (by simp at s27; simp; omega) _).mono s7
      · exact ((g9.setCell (by simp) _).setCell (by simp) _).setCell (by simp) _
open Go.RowKit
theorem redI_none {find : Tm → Option (List Int)} {f : Nat} {t : Tm} (h : find t = none) : redI find f t = (some t, 0) := by rw [redI.eq_def]; simp only [h]
theorem redI_zero {find : Tm → Option (List Int)} {t : Tm} {p : List Int} (h : find t = some p) : redI find 0 t = (none, 1) := by rw [redI.eq_def]; simp only [h]
theorem redI_large {find : Tm → Option (List Int)} {f : Nat} {t : Tm} {p : List Int} (h : find t = some p) (h2 : ctdI t p = none) : redI find (f + 1) t = (none, 2) := by rw [redI.eq_def]; simp only [h, h2]
theorem redI_step {find : Tm → Option (List Int)} {f : Nat} {t t' : Tm} {p : List Int} (h : find t = some p) (h2 : ctdI t p = some t') : redI find (f + 1) t = redI find f t' := by rw [redI.eq_def]; simp only [h, h2]
/-- a term, the steps, a code -/
def GotN (w : World) (r : Option Tm × Int) (e : Ending) (w' : World) : Prop :=
  ∃ (k n : Int) (ks : List Tm) (A : Option Addr) (c : Nat) (st : Int), r.1.getD (.mk 0 0 []) = .mk k n ks ∧ e = .returned (.tuple #[.agg #[.int .i64 k, .int .i64 n, .slice A ks.length c], .int .i64 st, .int .i64 r.2]) ∧ ks.length ≤ 9223372036854775807 ∧ RdP (fun b => w.heap.size ≤ b) w' A 0 ks ∧ Below w.heap.size w w'
/-- a term, a code -/
def GotM (w : World) (r : Option Tm × Int) (e : Ending) (w' : World) : Prop :=
  ∃ (k n : Int) (ks : List Tm) (A : Option Addr) (c : Nat), r.1.getD (.mk 0 0 []) = .mk k n ks ∧ e = .returned (.tuple #[.agg #[.int .i64 k, .int .i64 n, .slice A ks.length c], .int .i64 r.2]) ∧ ks.length ≤ 9223372036854775807 ∧ RdP (fun b => w.heap.size ≤ b) w' A 0 ks ∧ Below w.heap.size w w'
theorem Fresh.rd' {B : Nat} {w : World} {A : Option Addr} {ks : List Tm} (h : Fresh B w A ks) : RdP (fun b => B ≤ b) w A 0 ks := h.rdp.mono fun b hb => hb.1
set_option maxHeartbeats 8000000 in
set_option maxRecDepth 100000 in
theorem iRedNorm_any (k n : Int) (ks : List Tm) (A : Option Addr) (c : Nat) (fuel : Nat) (w : World) (hv : validT (.mk k n ks) = true) (hf : fuel ≤ 200) (hr : Rd w A 0 ks) :
    Calls Tryz.prog 15 #[.agg #[.int .i64 k, .int .i64 n, .slice A ks.length c], .int .i64 fuel, .func (.func 16) #[] #[]] w (GotN w (redI outP fuel (.mk k n ks))) := by
  have hz := validT_size' hv
  have hv' := hide hv
  have hF : ∀ (args : Array Value) (w : World), (callFunc 16 args).run Tryz.prog w = .ok (.enter 16 args) w := run_enter Tryz.func16 (by kernel_rfl) (by kernel_rfl)
  have q1 : decide ((fuel : Int) ≤ 200) = true := decide_eq_true (by omega)
  clear hv
  go_enter Tryz.func15, Tryz.ntmps15
  go_wp2_with (first
    | (go_at_call 38; refine (within_any _ _ _ _).mono ?_; rintro e w9 ⟨rfl, rfl⟩)
    | (go_at_call 20; refine (iTermValid_any k n ks A c _ (by omega) ((hr.alloc _).alloc _)).mono ?_; rw [hv'.out]; rintro e w1 ⟨rfl, hb1⟩; have hT1 : Blk w1 w.heap.size #[.int .i64 k, .int .i64 n, .slice A ks.length c] := ((Blk.new_ _ 25 _ rfl).alloc _).keep hb1; have hZ1 : Blk w1 (w.heap.size + 1) #[.int .i64 0, .int .i64 0, .slice none 0 0] := (Blk.new_ _ 25 _ (by simp)).keep hb1; have g1 : Below w.heap.size w w1 := (((Below.refl _ _).alloc (Nat.le_refl _) _).alloc (by simp) _).trans (hb1.mono (by simp; omega)); have r1 := ((hr.alloc (.cells #[.int .i64 k, .int .i64 n, .slice A ks.length c] 25)).alloc (.cells #[.int .i64 0, .int .i64 0, .slice none 0 0] 25)).below hb1))
  go_loopw [9] (fun i wr => ∃ (j : Nat) (kj nj : Int) (ksj : List Tm) (Aj : Option Addr) (cj : Nat), j ≤ fuel ∧ i = .int .i64 j ∧ Hid (redI outP (fuel - j) (.mk kj nj ksj) = redI outP fuel (.mk k n ks)) ∧ Hid (validT (.mk kj nj ksj) = true) ∧ Rd wr Aj 0 ksj ∧ Blk wr w.heap.size #[.int .i64 kj, .int .i64 nj, .slice Aj ksj.length cj] ∧ Blk wr (w.heap.size + 1) #[.int .i64 0, .int .i64 0, .slice none 0 0] ∧ Below w.heap.size w wr)
    (fun i _ => fuel - (intOf i).toNat)
  case atStart => exact ⟨0, k, n, ks, A, c, Nat.zero_le _, rfl, hide rfl, hv', r1, hT1, hZ1, g1⟩
  case round =>
    obtain ⟨j, kj, nj, ksj, Aj, cj, hj, rfl, hred, hvj, hrj, hT, hZ, hb⟩ := hrel
    have hzj := validT_size' hvj.out
    obtain ⟨y0, y1, y2⟩ := hT.three
    cases hfind : outP (.mk kj nj ksj) with
    | none =>
      have hfo := hide hfind
      have hres : redI outP fuel (.mk k n ks) = (some (.mk kj nj ksj), 0) := by rw [← hred.out, redI_none hfind]
      rw [hres]
      clear hres hfind
      go_wp2_with (first
        | (go_at_call 39; have _t := tok1; refine (own_any 10000 kj nj ksj Aj cj _ (by omega) (by omega) r1).mono ?_; rintro e w2 ⟨A2, c2, rfl, hl2, hf2, hb2⟩; have hZ2 := hZ1.keep hb2; have g2 := g1.trans (hb2.mono g1.size); obtain ⟨d0, d1, d2⟩ := hZ2.three; have e0 := hZ2.frozen 0; have e1 := hZ2.frozen 1; have e2 := hZ2.frozen 2)
        | (go_at_call 16; refine (outX_any (sizes ksj + 1) 30 kj nj ksj Aj cj _ (by omega) (by omega) (validT_shape hvj.out) (by omega) hrj).mono ?_; rw [hfo.out]; intro e w1 hp1; obtain ⟨A1, m1, c1, rfl, hb1⟩ := hp1.none_; have hT1 := hT.keep hb1; have hZ1 := hZ.keep hb1; have g1 := hb.trans (hb1.mono hb.size); have r1 := hrj.below hb1; obtain ⟨x0, x1, x2⟩ := hT1.three; have tok1 := trivial))
      have lz := hZ1.lt
      refine bodyPost_ret (v := .tuple #[.agg #[.int .i64 kj, .int .i64 nj, .slice A2 ksj.length c2], .int .i64 j, .int .i64 0]) (by simp [results, Tryz.results15, go_sem, d0, d1, d2]) rfl ⟨kj, nj, ksj, A2, c2, j, rfl, rfl, hl2, ?_, ?_⟩
      · exact ((((hf2.rd'.setCell (by simp; omega) _).setCell (by simp; omega) _).setCell (by simp; omega) _)).mono (fun b hb => Nat.le_trans g1.size hb)
      · exact ((g2.setCell (by simp) _).setCell (by simp) _).setCell (by simp) _
    | some p =>
      obtain ⟨ku, nu, us, hat, hxu⟩ := outP_way _ _ hfind
      have hfo := hide hfind
      have hat' := hide hat
      have hxu' := hide hxu
      by_cases hjf : j = fuel
      · subst hjf
        have hres : redI outP j (.mk k n ks) = (none, 1) := by rw [← hred.out, Nat.sub_self, redI_zero hfind]
        rw [hres]
        clear hres hfind hat hxu
        go_wp2_with (go_at_call 16; refine (outX_any (sizes ksj + 1) 30 kj nj ksj Aj cj _ (by omega) (by omega) (validT_shape hvj.out) (by omega) hrj).mono ?_; rw [hfo.out]; intro e w1 hp1; obtain ⟨A1, m1, c1, rfl, hm1, hmc1, hme, hpx, hb1⟩ := hp1.some_; have hT1 := hT.keep hb1; have hZ1 := hZ.keep hb1; have g1 := hb.trans (hb1.mono hb.size); have r1 := hrj.below hb1; have ri := hpx.rdi; subst hme; obtain ⟨x0, x1, x2⟩ := hT1.three; have tok1 := trivial; obtain ⟨d0, d1, d2⟩ := hZ1.three; have e0 := hZ1.frozen 0; have e1 := hZ1.frozen 1; have e2 := hZ1.frozen 2)
        refine bodyPost_ret (v := .tuple #[.agg #[.int .i64 0, .int .i64 0, .slice none 0 0], .int .i64 j, .int .i64 1]) (by simp [results, Tryz.results15, go_sem, d0, d1, d2]) rfl ⟨0, 0, [], none, 0, j, rfl, rfl, by simp, RdP.nil, ?_⟩
        exact ((g1.setCell (by simp) _).setCell (by simp) _).setCell (by simp) _
      · have hjlt : j < fuel := by omega
        have hq : ((j : Int) == (fuel : Int)) = false := by simp; omega
        obtain ⟨f, hfe⟩ : ∃ f, fuel - j = f + 1 := ⟨fuel - j - 1, by omega⟩
        cases hct : ctdI (.mk kj nj ksj) p with
        | none =>
          have hres : redI outP fuel (.mk k n ks) = (none, 2) := by rw [← hred.out, hfe, redI_large hfind hct]
          rw [hres]
          have hct' := hide hct
          clear hres hfind hat hxu hct
          go_wp2_with (first
            | (go_at_call 40; have _t := tok1; refine (iCtd_any kj nj ksj Aj cj p A1 c1 _ hvj.out (by omega) hmc1 hat'.out hxu'.out r1 ri).mono ?_; rw [hct'.out]; intro e w2 hgo; obtain ⟨rfl, hb2⟩ := gotO_none hgo; have hZ2 := hZ1.keep hb2; have g2 := g1.trans (hb2.mono g1.size); obtain ⟨d0, d1, d2⟩ := hZ2.three; have e0 := hZ2.frozen 0; have e1 := hZ2.frozen 1; have e2 := hZ2.frozen 2; have lz := hZ2.lt; have n1 : w.heap.size + 1 ≠ w2.heap.size := (by omega))
            | (go_at_call 16; refine (outX_any (sizes ksj + 1) 30 kj nj ksj Aj cj _ (by omega) (by omega) (validT_shape hvj.out) (by omega) hrj).mono ?_; rw [hfo.out]; intro e w1 hp1; obtain ⟨A1, m1, c1, rfl, hm1, hmc1, hme, hpx, hb1⟩ := hp1.some_; have hT1 := hT.keep hb1; have hZ1 := hZ.keep hb1; have g1 := hb.trans (hb1.mono hb.size); have r1 := hrj.below hb1; have ri := hpx.rdi; subst hme; obtain ⟨x0, x1, x2⟩ := hT1.three; have tok1 := trivial))
          have y := fun (o : Obj) => (((((hZ2.set_ 0 (.int .i64 0)).set_ 1 (.int .i64 0)).set_ 2 (.slice none 0 0)).alloc o : Blk _ _ #[.int .i64 0, .int .i64 0, .slice none 0 0])).three
          refine bodyPost_ret (v := .tuple #[.agg #[.int .i64 0, .int .i64 0, .slice none 0 0], .int .i64 j, .int .i64 2]) (by simp [results, Tryz.results15, go_sem, y]) rfl ⟨0, 0, [], none, 0, j, rfl, rfl, by simp, RdP.nil, ?_⟩
          exact (((g2.setCell (by simp) _).setCell (by simp) _).setCell (by simp) _).alloc (by simp [World.setCell]; exact g2.size) _
        | some t' =>
          obtain ⟨kt, nt, kst⟩ := t'
          have hvt := hide (ctdI_valid hct)
          have hres := hide (show redI outP (fuel - (j + 1)) (.mk kt nt kst) = redI outP fuel (.mk k n ks) by rw [← hred.out, hfe, redI_step hfind hct]; congr 1; omega)
          have hct' := hide hct
          clear hfind hat hxu hct
          go_wp2_with (first
            | (go_at_call 40; have _t := tok1; refine (iCtd_any kj nj ksj Aj cj p A1 c1 _ hvj.out (by omega) hmc1 hat'.out hxu'.out r1 ri).mono ?_; rw [hct'.out]; intro e w2 hgo; obtain ⟨A2, c2, rfl, hl2, hf2, hb2⟩ := gotO_some hgo; have hT2 := hT1.keep hb2; have hZ2 := hZ1.keep hb2; have g2 := g1.trans (hb2.mono g1.size); have e0 := hT2.frozen 0; have e1 := hT2.frozen 1; have e2 := hT2.frozen 2; obtain ⟨d0, d1, d2⟩ := hT2.three; have lz := hT2.lt)
            | (go_at_call 16; refine (outX_any (sizes ksj + 1) 30 kj nj ksj Aj cj _ (by omega) (by omega) (validT_shape hvj.out) (by omega) hrj).mono ?_; rw [hfo.out]; intro e w1 hp1; obtain ⟨A1, m1, c1, rfl, hm1, hmc1, hme, hpx, hb1⟩ := hp1.some_; have hT1 := hT.keep hb1; have hZ1 := hZ.keep hb1; have g1 := hb.trans (hb1.mono hb.size); have r1 := hrj.below hb1; have ri := hpx.rdi; subst hme; obtain ⟨x0, x1, x2⟩ := hT1.three; have tok1 := trivial))
          have lt1 := hT1.lt
          go_roundw
          case rel =>
            refine ⟨j + 1, kt, nt, kst, A2, c2, by omega, by go_num, hres, hvt, ?_, (((hT2.set_ 0 _).set_ 1 _).set_ 2 _).alloc _, (((hZ2.far (by simp) _).far (by simp) _).far (by simp) _).alloc _, (((g2.setCell (by simp) _).setCell (by simp) _).setCell (by simp) _).alloc (by simp [World.setCell]; exact g2.size) _⟩
            exact ((((hf2.rd'.setCell (by simp; omega) _).setCell (by simp; omega) _).setCell (by simp; omega) _).alloc _).rd
          case measure => simp [intOf]; omega
set_option maxHeartbeats 4000000 in
set_option maxRecDepth 100000 in
theorem iNorm_any (k n : Int) (ks : List Tm) (A : Option Addr) (c : Nat) (fuel : Nat) (w : World) (hv : validT (.mk k n ks) = true) (hf : fuel ≤ 200) (hr : Rd w A 0 ks) :
    Calls Tryz.prog 5 #[.agg #[.int .i64 k, .int .i64 n, .slice A ks.length c], .int .i64 fuel] w (GotM w (redI outP fuel (.mk k n ks))) := by
  generalize hre : redI outP fuel (.mk k n ks) = re
  have hR := hide (fun (w : World) (hr : Rd w A 0 ks) => by have := iRedNorm_any k n ks A c fuel w hv hf hr; rwa [hre] at this)
  clear hre hv
  go_enter Tryz.func5, Tryz.ntmps5
  go_wp2_with (go_at_call 15; refine (hR.out _ ((hr.alloc _).alloc _)).mono ?_; rintro e w1 ⟨k1, n1', ks1, A1, c1, st, hk1, rfl, hl1, r1, hb1⟩; have hZ1 : Blk w1 (w.heap.size + 1) #[.int .i64 0, .int .i64 0, .slice none 0 0] := (Blk.new_ _ 25 _ (by simp)).keep hb1; have g1 : Below w.heap.size w w1 := (((Below.refl _ _).alloc (Nat.le_refl _) _).alloc (by simp) _).trans (hb1.mono (by simp; omega)); obtain ⟨d0, d1, d2⟩ := hZ1.three; have e0 := hZ1.frozen 0; have e1 := hZ1.frozen 1; have e2 := hZ1.frozen 2; have lz := hZ1.lt; have n1 : w.heap.size + 1 ≠ w1.heap.size := (by omega))
  have y := fun (o : Obj) => (((((hZ1.set_ 0 (.int .i64 k1)).set_ 1 (.int .i64 n1')).set_ 2 (.slice A1 ks1.length c1)).alloc o : Blk _ _ #[.int .i64 k1, .int .i64 n1', .slice A1 ks1.length c1])).three
  refine bodyPost_ret (v := .tuple #[.agg #[.int .i64 k1, .int .i64 n1', .slice A1 ks1.length c1], .int .i64 re.2]) (by simp [results, Tryz.results5, go_sem, y]) rfl ⟨k1, n1', ks1, A1, c1, hk1, rfl, hl1, ?_, ?_⟩
  · exact ((((r1.setCell (by simp) _).setCell (by simp) _).setCell (by simp) _).alloc _).mono (fun b hb => by simp at hb; omega)
  · exact (((g1.setCell (by simp) _).setCell (by simp) _).setCell (by simp) _).alloc (by simp [World.setCell]; exact g1.size) _
open Go.RowKit
theorem Tx.cast {d : Nat} {t : Tm} {b b' : List UInt8} (h : Tx d t b) (e : b = b') : Tx d t b' := e ▸ h
/-- each text is its term's -/
def GoodL : List Tm → List (List UInt8) → Prop
  | [], [] => True
  | t :: ts, x :: xs => Good t x ∧ GoodL ts xs
  | _, _ => False
theorem GoodL.at_ : ∀ {ts : List Tm} {xs : List (List UInt8)}, GoodL ts xs → ∀ (j : Nat) (t : Tm) (x : List UInt8), ts[j]? = some t → xs[j]? = some x → Good t x
  | [], _, _, j, t, x, h1, _ => by simp at h1
  | _ :: _, [], h, _, _, _, _, _ => h.elim
  | a :: ts, b :: xs, h, 0, t, x, h1, h2 => by
    simp only [List.getElem?_cons_zero, Option.some.injEq] at h1 h2
    subst h1 h2; exact h.1
  | a :: ts, b :: xs, h, j + 1, t, x, h1, h2 => by
    simp only [List.getElem?_cons_succ] at h1 h2
    exact h.2.at_ j t x h1 h2
end Go.Proofs.YtodkpgkefjegnaaGreatDoor
