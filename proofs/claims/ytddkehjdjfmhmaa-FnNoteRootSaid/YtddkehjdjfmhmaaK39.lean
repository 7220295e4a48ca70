/-
 Contracts of the functions that the law reaches, and plain lemmas. No condition.
-/
import Derived.Test.YtddkehjdjfmhmaaK1
import Derived.Test.YtddkehjdjfmhmaaK2
import Derived.Test.YtddkehjdjfmhmaaK3
import Derived.Test.YtddkehjdjfmhmaaK5
import Derived.Test.YtddkehjdjfmhmaaK6
import Derived.Test.YtddkehjdjfmhmaaK38
import Derived.WalkSpells
import Derived.WalkLawsBesides
namespace Go.Proofs.Ytddkehjdjfmhmaa
set_option linter.unusedSimpArgs false
set_option linter.unusedVariables false
open Go.RowKit
def idxT : Tm → List Int → Nat
 | _, [] => 0
 | t, i :: is => 1 + sizes (t.kids.take i.toNat) + idxT (t.kids.getD i.toNat default) is
theorem kid_size {ks : List Tm} {i : Nat} (hi : i < ks.length) : sizes (ks.take i) + (ks.getD i default).size ≤ sizes ks := by
 have h1 := sizes_take ks i hi
 have h2 := sizes_take_le ks (i + 1)
 rw [List.getD_eq_getElem?_getD, List.getElem?_eq_getElem hi, Option.getD_some]
 omega
theorem idx_lt {u : Tm} : ∀ {xs : List Int} {t : Tm}, atT t xs = some u → idxT t xs + u.size ≤ t.size
 | [], t, h => by cases h; simp [idxT]
 | i :: is, t, h => by
  rw [atT] at h
  split at h
  ·rename_i hh
   obtain ⟨k, n, ks⟩ := t
   have h1 := idx_lt h
   simp only [Tm.kids] at h1 hh
   have h2 := kid_size (ks := ks) (i := i.toNat) (by omega)
   rw [idxT, Tm.size]
   simp only [Tm.kids]
   omega
  ·cases h
def noteS (t : Tm) (notes : List Tm) (xs : List Int) : Option Tm :=
 if (termAt t xs).isSome = true ∧ notes.length = t.size then (if validT (notes.getD (idxT t xs) default) = true then some (notes.getD (idxT t xs) default) else none) else none
set_option maxHeartbeats 2000000 in
set_option maxRecDepth 100000 in
theorem sNoteAt_any (k n : Int) (ks : List Tm) (A : Option Addr) (c : Nat) (notes : List Tm) (B : Option Addr) (cb : Nat) (xs : List Int) (P : Option Addr) (cp : Nat) (w : World) (hM : sizes ks ≤ 1048576) (hMn : sizes notes ≤ 1048576) (hx : xs.length ≤ 1048576) (hr : Rd w A 0 ks) (hrB : Rd w B 0 notes) (hi : RdI w P xs) :
  Calls Try.prog 6 #[.agg #[.int .i64 k, .int .i64 n, .slice A ks.length c], .slice B notes.length cb, .slice P xs.length cp] w (GotO w (noteS (.mk k n ks) notes xs)) := by
 have hlen := length_le_sizes ks
 have hlenB := length_le_sizes notes
 cases hta : termAt (.mk k n ks) xs with
 | none =>
  have hz : noteS (.mk k n ks) notes xs = none := by rw [noteS, if_neg]; rintro ⟨h, -⟩; rw [hta] at h; cases h
  rw [hz]
  have hta' := hide hta
  clear hz hta
  go_enter Try.func6, Try.ntmps6
  go_wp2_with (go_at_call 21; refine (sTermAt_any k n ks A c xs P cp _ hM (by omega) ((hr.alloc _).alloc _) ((hi.alloc _).alloc _)).mono ?_; rw [hta'.out]; intro e w1 hgo; obtain ⟨he, hb1⟩ := gotO_none hgo; subst he; clear hgo; have hB1 : Blk w1 w.heap.size #[.int .i64 k, .int .i64 n, .slice A ks.length c] := ((Blk.new_ w 25 #[.int .i64 k, .int .i64 n, .slice A ks.length c] rfl).alloc _).keep hb1; obtain ⟨p0, p1, p2⟩ := hB1.three; have hT1 : Blk w1 (w.heap.size + 1) #[.int .i64 0, .int .i64 0, .slice none 0 0] := (Blk.new_ _ 25 _ (by simp)).keep hb1; obtain ⟨d0, d1, d2⟩ := hT1.three; have e0 := hT1.frozen 0; have e1 := hT1.frozen 1; have e2 := hT1.frozen 2; have lB := hB1.lt; have lT := hT1.lt; replace hb1 : Below w.heap.size w w1 := (((Below.refl _ _).alloc (Nat.le_refl _) _).alloc (by simp) _).trans (hb1.mono (by simp; omega)))
  have y := fun (o : Obj) => (((((hT1.set_ 0 (.int .i64 0)).set_ 1 (.int .i64 0)).set_ 2 (.slice none 0 0)).alloc o : Blk _ _ #[.int .i64 0, .int .i64 0, .slice none 0 0])).three
  refine bodyPost_ret (v := .tuple #[zeroV, .bool false]) (by simp [results, Try.results6, go_sem, d0, d1, d2, zeroV, y]) rfl ⟨rfl, ?_⟩
  first
   | exact (((hb1.setCell (by simp) _).setCell (by simp) _).setCell (by simp) _).alloc (by have := hb1.size; simp; omega) _
   | exact ((((hb1.alloc hb1.size _)).setCell (by simp) _).setCell (by simp) _).setCell (by simp) _
 | some u =>
  have hv : validT (.mk k n ks) = true := by
   unfold termAt at hta; split at hta
   ·assumption
   ·cases hta
  have hat : atT (.mk k n ks) xs = some u := by rw [termAt, if_pos hv] at hta; exact hta
  have hsz := validT_size hv
  rw [Tm.size] at hsz
  replace hsz := hide hsz
  obtain ⟨ku, nu, us⟩ := u
  by_cases hln : notes.length = sizes ks + 1
  ·have hid := idx_lt hat
   have hnn : noteS (.mk k n ks) notes xs = if validT (notes.getD (idxT (.mk k n ks) xs) default) = true then some (notes.getD (idxT (.mk k n ks) xs) default) else none := by rw [noteS, if_pos ⟨by rw [hta]; rfl, hln⟩]
   rw [hnn]
   have hIl : idxT (.mk k n ks) xs < notes.length := by rw [hln]; simp only [Tm.size] at hid; omega
   generalize hI : idxT (.mk k n ks) xs = I at hid hIl
   have hta' := hide hta
   have hat' := hide hat
   have hI' := hide hI
   have hln' := hide hln
   have q1 : ((notes.length : Int) != ((sizes ks + 1 : Nat) : Int)) = false := by simp [hln]
   have q1b : ((notes.length : Int) != (sizes ks : Int) + 1) = false := by simp [hln]
   have hsz2 := hsz.out
   obtain ⟨oo, hoo⟩ : ∃ oo, (if validT (notes.getD I default) = true then some (notes.getD I default) else none) = oo := ⟨_, rfl⟩
   rw [hoo]
   have hoo' := hide hoo
   clear hta hat hI hnn hoo hid
   go_enter Try.func6, Try.ntmps6
   go_wp2_with (first | (go_at_call 22; refine (sCount_any k n ks A c _ (by have := hsz.out; omega) ((hr.below hb1).alloc _)).mono ?_; rintro e w2 ⟨rfl, hb2⟩; have hB2 := (hB1.alloc _).keep hb2; have hT2 := (hT1.alloc _).keep hb2; clear d0 d1 d2 p0 p1 p2 e0 e1 e2; obtain ⟨d0, d1, d2⟩ := hT2.three; have e0 := hT2.frozen 0; have e1 := hT2.frozen 1; have e2 := hT2.frozen 2; replace hb2 : Below w.heap.size w w2 := (hb1.alloc hb1.size _).trans (hb2.mono (by have := hb1.size; simp; omega))) | (go_at_call 21; refine (sTermAt_any k n ks A c xs P cp _ hM (by omega) ((hr.alloc _).alloc _) ((hi.alloc _).alloc _)).mono ?_; rw [hta'.out]; intro e w1 hgo; obtain ⟨A1, c1, rfl, hl1, hf1, hb1⟩ := gotO_some hgo; clear hgo; have hB1 : Blk w1 w.heap.size #[.int .i64 k, .int .i64 n, .slice A ks.length c] := ((Blk.new_ w 25 #[.int .i64 k, .int .i64 n, .slice A ks.length c] rfl).alloc _).keep hb1; obtain ⟨p0, p1, p2⟩ := hB1.three; have hT1 : Blk w1 (w.heap.size + 1) #[.int .i64 0, .int .i64 0, .slice none 0 0] := (Blk.new_ _ 25 _ (by simp)).keep hb1; obtain ⟨d0, d1, d2⟩ := hT1.three; have e0 := hT1.frozen 0; have e1 := hT1.frozen 1; have e2 := hT1.frozen 2; have lB := hB1.lt; have lT := hT1.lt; replace hb1 : Below w.heap.size w w1 := (((Below.refl _ _).alloc (Nat.le_refl _) _).alloc (by simp) _).trans (hb1.mono (by simp; omega))))
   have hB3 := hB2
   have hT3 := hT2
   go_loopw [10, 11] (fun a i wr => ∃ (j acc : Nat) (k1 n1 : Int) (ks1 : List Tm) (A1 : Option Addr) (c1 : Nat), j ≤ xs.length ∧ i = .int .i64 j ∧ a = .int .i64 acc ∧ Hid (atT (.mk k1 n1 ks1) (xs.drop j) = some (.mk ku nu us)) ∧ Hid (acc + idxT (.mk k1 n1 ks1) (xs.drop j) = I) ∧ acc + sizes ks1 ≤ sizes ks ∧ ks1.length ≤ 9223372036854775807 ∧ Rd w A1 0 ks1 ∧ Blk wr w.heap.size #[.int .i64 k1, .int .i64 n1, .slice A1 ks1.length c1] ∧ Blk wr (w.heap.size + 1) #[.int .i64 0, .int .i64 0, .slice none 0 0] ∧ Below w.heap.size w wr) (fun _ i _ => xs.length - (intOf i).toNat)
   case atStart => exact ⟨0, 0, k, n, ks, A, c, Nat.zero_le _, rfl, rfl, hide (by simpa using hat'.out), hide (by simpa using hI'.out), by omega, by omega, hr, hB3, hT3, hb2⟩
   case round =>
    obtain ⟨j, acc, k1, n1, ks1, A1, c1, hj, rfl, rfl, hatj, hidj, hacc, hl1, hr1, hB1, hT1, hb⟩ := hrel
    have hlen1 := length_le_sizes ks1
    by_cases hlt : j < xs.length
    ·obtain ⟨b, off, rfl, hcw⟩ := hi j hlt
     have ha := hatj.out
     have hd := hidj.out
     rw [List.drop_eq_getElem_cons hlt, atT] at ha
     rw [List.drop_eq_getElem_cons hlt, idxT] at hd
     by_cases hin : 0 ≤ xs[j] ∧ xs[j] < ((Tm.mk k1 n1 ks1).kids.length : Int)
     ·rw [if_pos hin] at ha
      simp only [Tm.kids] at ha hd hin
      obtain ⟨i, hxi⟩ : ∃ i : Nat, xs[j] = (i : Int) := ⟨xs[j].toNat, by omega⟩
      rw [hxi] at ha hd hin hcw
      rw [Int.toNat_natCast] at ha hd
      have hik : i < ks1.length := by omega
      have ha' := hide ha
      have hd' := hide hd
      have hks := kid_size hik
      obtain ⟨b3, off3, k3, n3, ks3, A3, c3, rfl, hkj3, hd1, hd2, hd3, hl3, hr3⟩ := hr1.at_ hik
      have hgd : ks1.getD i default = .mk k3 n3 ks3 := by rw [← hkj3]; simp [List.getD, List.getElem?_eq_getElem hik]
      rw [hgd] at ha hd hks
      replace ha' := hide ha
      replace hd' := hide hd
      rw [Tm.size] at hks
      clear ha hd hgd hkj3 hxi
      have hkw := Keeps.of_below hb
      have pc := hkw _ _ hcw
      go_wp2_with fail
      go_loopw [10, 12] (fun a i2 wr2 => ∃ j2 : Nat, j2 ≤ i ∧ i2 = .int .i64 j2 ∧ a = .int .i64 (acc + 1 + sizes (ks1.take j2)) ∧ Blk wr2 w.heap.size #[.int .i64 k1, .int .i64 n1, .slice (some ⟨b3, off3, none⟩) ks1.length c1] ∧ Blk wr2 (w.heap.size + 1) #[.int .i64 0, .int .i64 0, .slice none 0 0] ∧ Below w.heap.size w wr2) (fun _ i2 _ => i - (intOf i2).toNat)
      case atStart => exact ⟨0, Nat.zero_le _, rfl, by simp [sizes], hB1, hT1, hb⟩
      case round =>
       obtain ⟨j2, hj2, rfl, rfl, hB2, hT2, hb2⟩ := hrel
       have pc2 := (Keeps.of_below hb2) _ _ hcw
       have bb2 := hB2.at_ (i := 2) rfl
       have hsk := sizes_take_le ks1 j2
       by_cases hlt2 : j2 < i
       ·obtain ⟨b4, off4, k4, n4, ks4, A4, c4, hA4, hkj4, hf1, hf2, hf3, hl4, hr4⟩ := hr1.at_ (j := j2) (by omega)
        cases hA4
        have g1 := (Keeps.of_below hb2) _ _ hf1
        have g2 := (Keeps.of_below hb2) _ _ hf2
        have g3 := (Keeps.of_below hb2) _ _ hf3
        have hst := sizes_take ks1 j2 (by omega)
        have hst2 := sizes_take_le ks1 (j2 + 1)
        rw [hkj4, Tm.size] at hst
        have hst' := hide hst
        clear hkj4
        go_wp2_with (go_at_call 22; refine (sCount_any k4 n4 ks4 A4 c4 _ (by omega) (hr4.below hb2)).mono ?_; rintro e w3 ⟨rfl, hb3⟩)
        go_roundw
        case rel => exact ⟨j2 + 1, by omega, by go_num, by first | (go_num; done) | (go_num; have := hst'.out; omega), hB2.keep hb3, hT2.keep hb3, hb2.trans (hb3.mono hb2.size)⟩
        case measure => simp [intOf]; omega
       ·have hji : j2 = i := by omega
        subst hji
        go_wp2_with fail
        have z2 := rule_of ((Keeps.of_below hb2) _ _ hd1)
        have z3 := rule_of ((Keeps.of_below hb2) _ _ hd2)
        have z4 := rule_of ((Keeps.of_below hb2) _ _ hd3)
        have z0 := rule_of pc2
        have z1 := hB2.rule (i := 2) rfl
        refine wp_region_firstY (fun w' => Below wr.heap.size wr w') [0, 1, 2, 3, 4, 5, 6, 7] [] [8] [_, _, _, _, _, _, _, _] [] [_] (by kernel_rfl) (by kernel_rfl) rfl rfl rfl (fun _ _ d _ _ h => by cases d <;> exact h) (Below.refl _ _).drew ?_
        repeat ((first | ((refine takeY_skip (a' := ?_) ?_ ?_ ?_); (rotate_left); (· (simp [Region.wanted, yielded]; done))) | ((refine takeY_step (v := ?_) (a' := ?_) ?_ ?_ ?_ ?_); (rotate_left 2); (· (simp [Region.wanted, yielded]; done)); (· (intro w' hS'; go_simp; try (with_reducible rfl))))); (· (simp only [List.getElem_toArray, List.getElem_cons_zero, List.getElem_cons_succ, Act.put, List.setIfInBounds_toArray, List.set_cons_zero, List.set_cons_succ]; exact rfl)))
        refine takeY_nil (then_nil ?_)
        clear z0 z1 z2 z3 z4
        have cc0 := hB2.drew.at_ (i := 0) rfl
        have cc1 := hB2.drew.at_ (i := 1) rfl
        have cc2 := hB2.drew.at_ (i := 2) rfl
        have f0 := hB2.drew.frozen 0
        have f1 := hB2.drew.frozen 1
        have f2 := hB2.drew.frozen 2
        have cc0' := hB2.at_ (i := 0) rfl
        have cc1' := hB2.at_ (i := 1) rfl
        have cc2' := hB2.at_ (i := 2) rfl
        have f0' := hB2.frozen 0
        have f1' := hB2.frozen 1
        have f2' := hB2.frozen 2
        go_wp2_with fail
        go_roundw
        case rel => exact ⟨j + 1, acc + 1 + sizes (ks1.take j2), k3, n3, ks3, A3, c3, by omega, by go_num, by go_num, ha', hide (by have := hd'.out; omega), by omega, hl3, hr3, ((hB2.drew.set_ 0 _).set_ 1 _).set_ 2 _, ((hT2.drew.far (by simp) _).far (by simp) _).far (by simp) _, ((hb2.drew.setCell (by simp) _).setCell (by simp) _).setCell (by simp) _⟩
        case measure => simp [intOf]; omega
     ·rw [if_neg hin] at ha; cases ha
    ·have hjl : j = xs.length := by omega
     subst hjl
     have hII : acc = I := by have := hidj.out; rw [List.drop_length] at this; simpa [idxT] using this
     subst hII
     have hIn : acc < notes.length := hIl
     obtain ⟨b5, off5, kd, nd, ksd, Ad, cd, rfl, hkd, m1, m2, m3, hld, hrd⟩ := (hrB.below hb).at_ hIn
     have hgd : notes.getD acc default = .mk kd nd ksd := by rw [← hkd]; simp [List.getD, List.getElem?_eq_getElem hIn]
     have hsd := sizes_le (List.getElem_mem hIn)
     rw [hkd, Tm.size] at hsd
     rw [hgd] at hoo'
     have hIl2 : (acc : Int) < (notes.length : Int) := by omega
     clear hkd hgd
     cases hvd : validT (.mk kd nd ksd) with
     | false =>
      have hno : oo = none := by rw [← hoo'.out, if_neg]; rw [hvd]; exact Bool.false_ne_true
      subst hno
      have hvd' := hide hvd
      clear hvd
      go_wp2_with (first
       | (go_at_call 23; refine (made_no 0 0 [] A6 c6 _ (by simp [sizes]) hf6.rd (by decide)).mono ?_; rintro e w7 ⟨rfl, hb7⟩; replace hT6 := hT6.keep hb7; obtain ⟨d0, d1, d2⟩ := hT6.three; have f0 := hT6.frozen 0; have f1 := hT6.frozen 1; have f2 := hT6.frozen 2; replace hb7 : Below w.heap.size w w7 := hb6.trans (hb7.mono hb6.size))
       | (go_at_call 24; refine (sDeep_any kd nd ksd Ad cd _ (by omega) hrd (if_neg (by rw [hvd'.out]; exact Bool.false_ne_true))).mono ?_; rintro e w6 ⟨A6, c6, rfl, hl6, hf6, hb6⟩; have hT6 := hT1.keep hb6; replace hb6 : Below w.heap.size w w6 := hb.trans (hb6.mono hb.size)))
      refine bodyPost_ret (v := .tuple #[zeroV, .bool false]) (by simp [results, Try.results6, go_sem, d0, d1, d2, zeroV]) rfl ⟨rfl, ?_⟩
      exact ((hb7.setCell (by simp) _).setCell (by simp) _).setCell (by simp) _
     | true =>
      have hyes : oo = some (.mk kd nd ksd) := by rw [← hoo'.out, if_pos hvd]
      subst hyes
      have hvd' := hide hvd
      clear hvd
      go_wp2_with (first
       | (go_at_call 23; refine (made_yes kd nd ksd A6 c6 _ (by omega) hf6.rd hvd'.out).mono ?_; rintro e w7 ⟨rfl, hb7⟩; replace hT6 := hT6.keep hb7; obtain ⟨d0, d1, d2⟩ := hT6.three; have f0 := hT6.frozen 0; have f1 := hT6.frozen 1; have f2 := hT6.frozen 2; have lT6 := hT1.lt; replace hf6 := (hf6.below hb7).mono (B' := w.heap.size + 2) (by omega); replace hb7 : Below w.heap.size w w7 := hb6.trans (hb7.mono hb6.size))
       | (go_at_call 24; refine (sDeep_any kd nd ksd Ad cd _ (by omega) hrd (if_pos hvd'.out)).mono ?_; rintro e w6 ⟨A6, c6, rfl, hl6, hf6, hb6⟩; have hT6 := hT1.keep hb6; replace hb6 : Below w.heap.size w w6 := hb.trans (hb6.mono hb.size)))
      refine bodyPost_ret (v := .tuple #[.agg #[.int .i64 kd, .int .i64 nd, .slice A6 ksd.length c6], .bool true]) (by simp [results, Try.results6, go_sem, d0, d1, d2]) rfl ⟨A6, c6, rfl, hl6, ?_, ?_⟩
      ·exact (((hf6.setCell (by simp) _).setCell (by simp) _).setCell (by simp) _).mono (by omega)
      ·exact ((hb7.setCell (by simp) _).setCell (by simp) _).setCell (by simp) _
  ·have hz : noteS (.mk k n ks) notes xs = none := by rw [noteS, if_neg]; rintro ⟨-, h⟩; exact hln h
   rw [hz]
   have hta' := hide hta
   have q1 : ((notes.length : Int) != ((sizes ks + 1 : Nat) : Int)) = true := by simp; omega
   have q1b : ((notes.length : Int) != (sizes ks : Int) + 1) = true := by simp; omega
   clear hz hta hln hat
   go_enter Try.func6, Try.ntmps6
   go_wp2_with (first | (go_at_call 22; refine (sCount_any k n ks A c _ (by have := hsz.out; omega) ((hr.below hb1).alloc _)).mono ?_; rintro e w2 ⟨rfl, hb2⟩; have hB2 := (hB1.alloc _).keep hb2; have hT2 := (hT1.alloc _).keep hb2; clear d0 d1 d2 p0 p1 p2 e0 e1 e2; obtain ⟨d0, d1, d2⟩ := hT2.three; have e0 := hT2.frozen 0; have e1 := hT2.frozen 1; have e2 := hT2.frozen 2; replace hb2 : Below w.heap.size w w2 := (hb1.alloc hb1.size _).trans (hb2.mono (by have := hb1.size; simp; omega))) | (go_at_call 21; refine (sTermAt_any k n ks A c xs P cp _ hM (by omega) ((hr.alloc _).alloc _) ((hi.alloc _).alloc _)).mono ?_; rw [hta'.out]; intro e w1 hgo; obtain ⟨A1, c1, rfl, hl1, hf1, hb1⟩ := gotO_some hgo; clear hgo; have hB1 : Blk w1 w.heap.size #[.int .i64 k, .int .i64 n, .slice A ks.length c] := ((Blk.new_ w 25 #[.int .i64 k, .int .i64 n, .slice A ks.length c] rfl).alloc _).keep hb1; obtain ⟨p0, p1, p2⟩ := hB1.three; have hT1 : Blk w1 (w.heap.size + 1) #[.int .i64 0, .int .i64 0, .slice none 0 0] := (Blk.new_ _ 25 _ (by simp)).keep hb1; obtain ⟨d0, d1, d2⟩ := hT1.three; have e0 := hT1.frozen 0; have e1 := hT1.frozen 1; have e2 := hT1.frozen 2; have lB := hB1.lt; have lT := hT1.lt; replace hb1 : Below w.heap.size w w1 := (((Below.refl _ _).alloc (Nat.le_refl _) _).alloc (by simp) _).trans (hb1.mono (by simp; omega))))
   refine bodyPost_ret (v := .tuple #[zeroV, .bool false]) (by simp [results, Try.results6, go_sem, d0, d1, d2, zeroV]) rfl ⟨rfl, ?_⟩
   exact ((hb2.setCell (by simp) _).setCell (by simp) _).setCell (by simp) _
open Go.RowKit
def RowT (B : Nat) (w : World) (v : Value) (m : Nat) : Prop := ∃ xs, w.ownsRow B 25 3 v m xs
theorem RowT.nil {B : Nat} {w : World} : RowT B w (.slice none 0 0) 0 := ⟨[], World.ownsRow_nil _ _ _ _⟩
theorem RowT.keep {B : Nat} {w w' : World} {v : Value} {m : Nat} (h : RowT B w v m) (hk : ∀ b, B ≤ b → b < w.heap.size → w'.heap[b]? = w.heap[b]?) : RowT B w' v m := by
 obtain ⟨xs, h1⟩ := h
 refine ⟨xs, h1.1, ?_⟩
 rcases h1.2 with hn | ⟨g, cap, cur, rfl, hb, hg, r⟩
 ·exact .inl hn
 ·exact .inr ⟨g, cap, cur, rfl, hb, (hk g hb (Array.getElem?_eq_some_iff.1 hg).1).trans hg, r⟩
theorem RowT.below {B : Nat} {w w' : World} {v : Value} {m : Nat} (h : RowT B w v m) (hb : Below w.heap.size w w') : RowT B w' v m := h.keep fun b _ hl => hb.block b hl
theorem RowT.setCell {B : Nat} {w : World} {v : Value} {m : Nat} (h : RowT B w v m) {a : Addr} (ha : a.block < B) (u : Value) : RowT B (w.setCell a u) v m :=
 h.keep fun b hb _ => Below.heap_setCell w a u b (by omega)
theorem wpList_append_row {B : Nat} {w : World} {v : Value} {m : Nat} {k n : Int} {s0 : Value} (h0 : s0.oneCell' = true) (hp : RowT B w v m) (hB : B ≤ w.heap.size) (hm : m ≤ 1099511627776)
  {ops : Array Oper} {rest : List Oper} {o : Oper} {a : Act} {Q : Exit → Act → World → Prop} (hgd : o.guard = none) (s x : Operand)
  (ho : o.op = .call { callee := .builtin .append, args := #[s, x], argTypes := #[23, 23] }) (hs : a.eval s = v) (hx : a.eval x = .slice (some ⟨w.heap.size, 0, none⟩) 1 1)
  (h : ∀ v' w', RowT B w' v' (m + 1) → Below B w w' → wpList Try.prog ops Q rest (a.put o.dst v') w') :
  wpList Try.prog ops Q (o :: rest) a (w.alloc (.cells #[.int .i64 k, .int .i64 n, s0] 25)) := by
 refine wpList_plain hgd fun K hK => ?_
 obtain ⟨i, hi, hz, hz1, hz2⟩ := info_parts tm_info
 obtain ⟨xs, h1⟩ := hp
 have hge : ∀ g, v.ownBlock = some g → B ≤ g := fun g hg => (h1.lt g hg).1
 obtain ⟨v', w', hrun, hown, hg, _, hat⟩ := run_append_own_at (P := Try.prog) (w.alloc (.cells #[.int .i64 k, .int .i64 n, s0] 25)) B 23 o.type 25 i _ 3 40 Try.underlying23 hi hz hz1 hz2 rfl (by omega) v m xs (h1.alloc _) ⟨w.heap.size, 0, none⟩ 1 1 [.int .i64 k, .int .i64 n, s0] rfl (by
  intro j u hj
  match j, hj with
  | 0, hj => simp only [List.getElem?_cons_zero, Option.some.injEq] at hj; subst hj; simp [Addr.add]
  | 1, hj => simp only [List.getElem?_cons_succ, List.getElem?_cons_zero, Option.some.injEq] at hj; subst hj; simp [Addr.add]
  | 2, hj => simp only [List.getElem?_cons_succ, List.getElem?_cons_zero, Option.some.injEq] at hj; subst hj; simp [Addr.add]) (by
  intro u hu
  simp only [List.mem_cons, List.not_mem_nil, or_false] at hu
  rcases hu with rfl | rfl | rfl
  ·rfl
  ·rfl
  ·exact h0) (by simp only [maxLen]; omega) (by omega) (by simp; omega)
 unfold Oper.wp execOp
 simp only [ho, resolve, invoke, builtin, Sem.run_bind, Sem.run_pure, Result.andThen_ok, List.map_toArray, List.map_cons, List.map_nil, hs, hx, hrun]
 refine hK _ _ (h v' w' ⟨_, hown⟩ ?_)
 exact ((Below.refl _ _).alloc hB _).trans ⟨hg.os, hg.tape, hg.output, hg.size, fun k hk => hg.block k (by simp; omega) (fun e => by have := hge k e.symm; omega)⟩
def WalkedO (w : World) (o : Option Tm) (e : Ending) (w' : World) : Prop :=
 Below w.heap.size w w' ∧ match o with
 | none => e = .returned (.tuple #[.agg #[.int .i64 0, .int .i64 0, .slice none 0 0], .slice none 0 0, .bool false])
 | some (.mk k n ks) => ∃ A c v, e = .returned (.tuple #[.agg #[.int .i64 k, .int .i64 n, .slice A ks.length c], v, .bool true]) ∧ ks.length ≤ 9223372036854775807 ∧ Rd w A 0 ks
set_option maxHeartbeats 2000000 in
set_option maxRecDepth 100000 in
theorem iWalked_any (k n : Int) (ks : List Tm) (A : Option Addr) (c : Nat) (xs : List Int) (P : Option Addr) (cp : Nat) (w : World) (hM : sizes ks ≤ 1000000000) (hx : xs.length ≤ 1000000000) (hr : Rd w A 0 ks) (hi : RdI w P xs) :
  Calls Try.prog 15 #[.agg #[.int .i64 k, .int .i64 n, .slice A ks.length c], .slice P xs.length cp] w (WalkedO w (atT (.mk k n ks) xs)) := by
 have hlen := length_le_sizes ks
 go_enter Try.func15, Try.ntmps15
 go_wp2_with fail
 go_loopw [7, 12] (fun v i wr => ∃ (j m : Nat) (k1 n1 : Int) (ks1 : List Tm) (A1 : Option Addr) (c1 : Nat), j ≤ xs.length ∧ m ≤ j ∧ i = .int .i64 j ∧ RowT (w.heap.size + 2) wr v m ∧ Hid (atT (.mk k n ks) (xs.take j) = some (.mk k1 n1 ks1)) ∧ ks1.length ≤ 9223372036854775807 ∧ Rd w A1 0 ks1 ∧ Blk wr w.heap.size #[.int .i64 k1, .int .i64 n1, .slice A1 ks1.length c1] ∧ Blk wr (w.heap.size + 1) #[.int .i64 0, .int .i64 0, .slice none 0 0] ∧ Below w.heap.size w wr)
  (fun _ i _ => xs.length - (intOf i).toNat)
 case atStart => exact ⟨0, 0, k, n, ks, A, c, Nat.zero_le _, Nat.le_refl _, rfl, RowT.nil, hide rfl, by omega, hr, (Blk.new_ _ _ _ rfl).alloc _, Blk.new_ _ _ _ (by simp), ((Below.refl _ _).alloc (by simp) _).alloc (by simp) _⟩
 case round =>
  obtain ⟨j, m, k1, n1, ks1, A1, c1, hj, hmj, rfl, hR, hat, hl1, hr1, hB1, hB2, hb⟩ := hrel
  by_cases hlt : j < xs.length
  ·obtain ⟨b, off, rfl, hc⟩ := hi.below hb j hlt
   have hnx := hide (atT_take hlt hat.out)
   generalize hxj : xs[j] = x at hc hnx
   have hxj' := hide hxj
   have lB1 := hB1.lt
   have lB2 := hB2.lt
   have p0 := hB1.at_ (i := 0) rfl
   have p2 := hB1.at_ (i := 2) rfl
   clear hxj
   by_cases hin : 0 ≤ x ∧ x < ks1.length
   ·obtain ⟨i, rfl⟩ : ∃ i : Nat, x = (i : Int) := ⟨x.toNat, by omega⟩
    have hik : i < ks1.length := by omega
    obtain ⟨b3, off3, k3, n3, ks3, A3, c3, rfl, hkj3, hd1, hd2, hd3, hl3, hr3⟩ := hr1.at_ hik
    have hst : atT (.mk k n ks) (xs.take (j + 1)) = some (.mk k3 n3 ks3) := by
     rw [hnx.out, if_pos (show 0 ≤ (i : Int) ∧ (i : Int) < (Tm.mk k1 n1 ks1).kids.length from hin), Int.toNat_natCast, show (Tm.mk k1 n1 ks1).kids = ks1 from rfl, List.getD_eq_getElem?_getD, List.getElem?_eq_getElem hik, Option.getD_some, hkj3]
    have hst' := hide hst
    have hw1 : (decide ((0 : Int) ≤ (i : Int)) && decide ((i : Int) ≤ (ks1.length : Int) - 1)) = true := by simp; omega
    clear hkj3 hst hnx
    by_cases hun : under k1 i = 1
    ·obtain ⟨b4, off4, k4, n4, ks4, A4, c4, hA4, hkj4, g1, g2, g3, hl4, hr4⟩ := hr1.at_ (j := 0) (by omega)
     cases hA4
     simp only [Nat.zero_mul, Nat.add_zero] at g1 g2 g3
     have hkw := Keeps.of_below hb
     have e1 := hkw _ _ g1
     have e2 := hkw _ _ g2
     have e3 := hkw _ _ g3
     clear hkj4 g1 g2 g3
     go_wp2_with (first | (go_at_call 37; refine (within_any _ _ _ _).mono ?_; rw [hw1]; rintro e w3 ⟨rfl, rfl⟩) | (go_at_call 38; refine (iUnder_any _ _ _).mono ?_; rw [hun]; rintro e w4 ⟨rfl, rfl⟩) | (at_builtin; refine wpList_append_row (B := w.heap.size + 2) (m := m) rfl hR (by omega) (by omega) rfl (.tmp 29) (.tmp 34) rfl rfl rfl ?_; intro v2 w2 hRq hgq; have hBq : Blk w2 w.heap.size #[.int .i64 k1, .int .i64 n1, .slice (some ⟨b3, off3, none⟩) ks1.length c1] := hB1.below hgq (by omega); have hTq : Blk w2 (w.heap.size + 1) #[.int .i64 0, .int .i64 0, .slice none 0 0] := hB2.below hgq (by omega); have hbq : Below w.heap.size w w2 := hb.trans (hgq.mono (by omega)); clear p0 p2 e1 e2 e3 hc; have cc0 := hBq.at_ (i := 0) rfl; have cc1 := hBq.at_ (i := 1) rfl; have cc2 := hBq.at_ (i := 2) rfl; have f0 := hBq.frozen 0; have f1 := hBq.frozen 1; have f2 := hBq.frozen 2; have hkq := Keeps.of_below hbq; have z2 := hkq _ _ hd1; have z3 := hkq _ _ hd2; have z4 := hkq _ _ hd3))
     go_roundw
     case rel => exact ⟨j + 1, m + 1, k3, n3, ks3, A3, c3, by omega, by omega, by go_num, ((hRq.setCell (by simp) _).setCell (by simp) _).setCell (by simp) _, hst', hl3, hr3, ((hBq.set_ 0 _).set_ 1 _).set_ 2 _, ((hTq.far (by simp) _).far (by simp) _).far (by simp) _, ((hbq.setCell (by simp) _).setCell (by simp) _).setCell (by simp) _⟩
     case measure => simp [intOf]; omega
    ·have hun0 : under k1 i = 0 := by have := under_le k1 i; omega
     have hkw := Keeps.of_below hb
     have z2 := hkw _ _ hd1
     have z3 := hkw _ _ hd2
     have z4 := hkw _ _ hd3
     have p1 := hB1.at_ (i := 1) rfl
     have f0 := hB1.frozen 0
     have f1 := hB1.frozen 1
     have f2 := hB1.frozen 2
     clear hun
     go_wp2_with (first | (go_at_call 37; refine (within_any _ _ _ _).mono ?_; rw [hw1]; rintro e w3 ⟨rfl, rfl⟩) | (go_at_call 38; refine (iUnder_any _ _ _).mono ?_; rw [hun0]; rintro e w4 ⟨rfl, rfl⟩))
     go_roundw
     case rel => exact ⟨j + 1, m, k3, n3, ks3, A3, c3, by omega, by omega, by go_num, ((hR.setCell (by simp) _).setCell (by simp) _).setCell (by simp) _, hst', hl3, hr3, ((hB1.set_ 0 _).set_ 1 _).set_ 2 _, ((hB2.far (by simp) _).far (by simp) _).far (by simp) _, ((hb.setCell (by simp) _).setCell (by simp) _).setCell (by simp) _⟩
     case measure => simp [intOf]; omega
   ·have hst : atT (.mk k n ks) (xs.take (j + 1)) = none := by rw [hnx.out, if_neg (show ¬ (0 ≤ x ∧ x < (Tm.mk k1 n1 ks1).kids.length) from hin)]
    have hno := hide (atT_none hst)
    have hw0 : (decide (0 ≤ x) && decide (x ≤ (ks1.length : Int) - 1)) = false := by
     cases h : (decide (0 ≤ x) && decide (x ≤ (ks1.length : Int) - 1)) with
     | false => rfl
     | true =>
      simp only [Bool.and_eq_true, decide_eq_true_eq] at h
      exact absurd ⟨h.1, by omega⟩ hin
    have d0 := hB2.at_ (i := 0) rfl
    have d1 := hB2.at_ (i := 1) rfl
    have d2 := hB2.at_ (i := 2) rfl
    have e0 := hB2.frozen 0
    have e1 := hB2.frozen 1
    have e2 := hB2.frozen 2
    clear hst hnx hin
    go_wp2_with (go_at_call 37; refine (within_any _ _ _ _).mono ?_; rw [hw0]; rintro e w3 ⟨rfl, rfl⟩)
    refine bodyPost_ret (v := .tuple #[.agg #[.int .i64 0, .int .i64 0, .slice none 0 0], .slice none 0 0, .bool false]) (by simp [results, Try.results15, go_sem, d0, d1, d2]) rfl ?_
    rw [hno.out]
    exact ⟨((hb.setCell (by simp) _).setCell (by simp) _).setCell (by simp) _, rfl⟩
  ·have hjl : j = xs.length := by omega
   subst hjl
   have h5 := hat.out
   rw [List.take_length] at h5
   have h5' := hide h5
   clear h5
   have cc0 := hB1.at_ (i := 0) rfl
   have cc1 := hB1.at_ (i := 1) rfl
   have cc2 := hB1.at_ (i := 2) rfl
   have d0 := hB2.at_ (i := 0) rfl
   have d1 := hB2.at_ (i := 1) rfl
   have d2 := hB2.at_ (i := 2) rfl
   have e0 := hB2.frozen 0
   have e1 := hB2.frozen 1
   have e2 := hB2.frozen 2
   go_wp2_with fail
   refine bodyPost_ret (v := .tuple #[.agg #[.int .i64 k1, .int .i64 n1, .slice A1 ks1.length c1], u7, .bool true]) (by simp [results, Try.results15, go_sem, d0, d1, d2]) rfl ?_
   rw [h5'.out]
   exact ⟨((hb.setCell (by simp) _).setCell (by simp) _).setCell (by simp) _, A1, c1, _, rfl, hl1, hr1⟩
open Go.RowKit
set_option maxHeartbeats 1000000 in
set_option maxRecDepth 100000 in
theorem own_any (N : Nat) : ∀ (k n : Int) (ks : List Tm) (A : Option Addr) (c : Nat) (w : World), sizes ks < N → sizes ks ≤ 1099511627776 → Rd w A 0 ks →
  Calls Try.prog 20 #[.agg #[.int .i64 k, .int .i64 n, .slice A ks.length c]] w (GotT w k n ks) := by
 induction N with
 | zero => intro k n ks A c w hN; exact absurd hN (Nat.not_lt_zero _)
 | succ N ih =>
 intro k n ks A c w hN hM hr
 have hlen := length_le_sizes ks
 go_enter Try.func20, Try.ntmps20
 go_wp2_with fail
 go_loopw [14] (fun i wr => ∃ (j : Nat) (v : Value), j ≤ ks.length ∧ i = .int .i64 j ∧ Part (w.heap.size + 3) wr v (ks.take j) ∧ Blk wr (w.heap.size + 1 + 1) #[.int .i64 k, .int .i64 n, v] ∧ Blk wr (w.heap.size + 1) #[.int .i64 0, .int .i64 0, .slice none 0 0] ∧ Below w.heap.size w wr)
  (fun i _ => ks.length - (intOf i).toNat)
 case atStart => exact ⟨0, _, Nat.zero_le _, rfl, Part.nil, Blk.new_ _ _ _ (by simp), (Blk.new_ _ _ _ (by simp)).alloc _, (((Below.refl _ _).alloc (by simp) _).alloc (by simp) _).alloc (by simp; omega) _⟩
 case round =>
  obtain ⟨j, v, hj, rfl, hp, hB3, hB2, hb⟩ := hrel
  by_cases hlt : j < ks.length
  ·obtain ⟨b, off, k', n', ks', A', c', rfl, hkj, hc1, hc2, hc3, hl', hr'⟩ := (hr.below hb).at_ hlt
   have hbl := World.block_lt_of_cell? _ _ hc1
   have hsz := sizes_le (List.getElem_mem hlt)
   rw [hkj] at hsz
   simp only [Tm.size] at hsz
   have H3 := hide hkj
   clear hkj
   have hz := hB3.lt
   have c2 : wr.cell? ⟨w.heap.size + 1 + 1, 2, none⟩ = some v := hB3.at_ rfl
   go_wp2_with fail
   refine name_world ?_
   intro wx hwx
   have hXB : Blk wx wr.heap.size #[.int .i64 k', .int .i64 n', .slice A' ks'.length c'] := by rw [hwx]; exact Blk.new_ _ _ _ rfl
   have hpx : Part (w.heap.size + 3) wx v (ks.take j) := by rw [hwx]; exact hp.alloc _
   have hrx : Rd wx A' 0 ks' := by rw [hwx]; exact hr'.alloc _
   have hB3x : Blk wx (w.heap.size + 1 + 1) #[.int .i64 k, .int .i64 n, v] := by rw [hwx]; exact hB3.alloc _
   have hB2x : Blk wx (w.heap.size + 1) #[.int .i64 0, .int .i64 0, .slice none 0 0] := by rw [hwx]; exact hB2.alloc _
   have hbx : Below w.heap.size w wx := by rw [hwx]; exact hb.alloc hb.size _
   have hs1 : wr.heap.size < wx.heap.size := by rw [hwx]; simp
   have hs2 : w.heap.size + 1 + 1 < wx.heap.size := by omega
   have x2 := hB3x.rule (i := 2) rfl
   have y0 := hXB.rule (i := 0) rfl
   have y1 := hXB.rule (i := 1) rfl
   have y2 := hXB.rule (i := 2) rfl
   clear hwx
   refine wp_region_first (fun w' => Below wx.heap.size wx w') [0, 1, 2] [3, 4] [5, 6, 7] [_, _, _] [_, _] [_, _, _] (by kernel_rfl) (by kernel_rfl) rfl rfl rfl (fun _ _ d _ _ h => by cases d <;> exact h) (Below.refl _ _).drew ?_
   repeat (first | ((refine take_skip (a' := ?_) ?_ ?_ ?_); (rotate_left); (· (simp [Region.wanted, yielded]; done)); (· (simp only [Act.put, List.setIfInBounds_toArray, List.set_cons_zero, List.set_cons_succ]; exact rfl))) | ((refine take_step (v := ?_) (a' := ?_) ?_ ?_ ?_ ?_); (rotate_left 2); (· (simp [Region.wanted, yielded]; done)); (· (intro w' hS'; go_simp; try (with_reducible rfl))); (· (simp only [Act.put, List.setIfInBounds_toArray, List.set_cons_zero, List.set_cons_succ]; exact rfl))))
   refine take_nil (then_cons ?_)
   go_wp2_with (go_at_call 20; refine (ih k' n' ks' A' c' _ (by omega) (by omega) hrx.drew).mono ?_; rintro e w1 ⟨A1, c1, rfl, hl1, hf1, hb1⟩)
   have hx1 : Below wx.heap.size wx w1 := (Below.refl wx.heap.size wx).drew.trans hb1
   refine mid_intro hx1 (then_cons ?_)
   go_wp2_with fail
   refine mid_intro (hx1.alloc hx1.size _) (then_nil ?_)
   refine wpList_append_built (B := w.heap.size + 3) (m := j) hpx.drew hb1 (by simp; omega) hf1 hl1 (by simp; omega) (by omega) rfl (.tmp 19) (.tmp 22) rfl rfl rfl ?_
   intro A2 c2 w2 hp2 hb2 hg2
   have q3 : Blk w2 (w.heap.size + 1 + 1) #[.int .i64 k, .int .i64 n, v] := (hB3x.below hx1 (by omega)).below hb2 (by omega)
   have q2 : Blk w2 (w.heap.size + 1) #[.int .i64 0, .int .i64 0, .slice none 0 0] := (hB2x.below hx1 (by omega)).below hb2 (by omega)
   have c3 : w2.cell? ⟨w.heap.size + 1 + 1, 2, none⟩ = some v := q3.at_ rfl
   have z3 := q3.frozen 2
   have hbf : Below w.heap.size w w2 := (hbx.trans (hx1.mono (by omega))).trans (hb2.mono (by omega))
   clear x2 y0 y1 y2 hpx hrx hB3x hB2x hbx
   go_wp2_with fail
   go_roundw
   case rel => exact ⟨j + 1, _, by omega, by go_num, by rw [List.take_succ_eq_append_getElem hlt, H3.out]; exact hp2.setCell (by simp) _, q3.set_ 2 _, q2.far (by simp) _, hbf.setCell (by simp; omega) _⟩
   case measure => simp [intOf]; omega
  ·have hjl : j = ks.length := by omega
   subst hjl
   rw [List.take_length] at hp
   obtain ⟨Ar, cr, rfl, hfr⟩ := hp.fresh
   have c0 : wr.cell? ⟨w.heap.size + 1 + 1, 0, none⟩ = some (.int .i64 k) := hB3.at_ rfl
   have c1 : wr.cell? ⟨w.heap.size + 1 + 1, 1, none⟩ = some (.int .i64 n) := hB3.at_ rfl
   have c2 : wr.cell? ⟨w.heap.size + 1 + 1, 2, none⟩ = some (.slice Ar ks.length cr) := hB3.at_ rfl
   have d0 : wr.cell? ⟨w.heap.size + 1, 0, none⟩ = some (.int .i64 0) := hB2.at_ rfl
   have d1 : wr.cell? ⟨w.heap.size + 1, 1, none⟩ = some (.int .i64 0) := hB2.at_ rfl
   have d2 : wr.cell? ⟨w.heap.size + 1, 2, none⟩ = some (.slice none 0 0) := hB2.at_ rfl
   have e0 := hB2.frozen 0
   have e1 := hB2.frozen 1
   have e2 := hB2.frozen 2
   go_wp2_with fail
   refine bodyPost_ret (v := .agg #[.int .i64 k, .int .i64 n, .slice Ar ks.length cr]) (by simp [results, Try.results20, go_sem, d0, d1, d2]) rfl ⟨Ar, cr, rfl, by omega, ?_, ?_⟩
   ·exact (((hfr.setCell (by simp) _).setCell (by simp) _).setCell (by simp) _).mono (by omega)
   ·exact ((hb.setCell (by simp) _).setCell (by simp) _).setCell (by simp) _
open Go.RowKit
set_option maxHeartbeats 2000000 in
set_option maxRecDepth 100000 in
theorem iEqual_any (xs ys : List Int) (A B : Option Addr) (c d : Nat) (w : World) (hx : xs.length ≤ 9223372036854775807) (hy : ys.length ≤ 9223372036854775807) (hr : RdI w A xs) (hr' : RdI w B ys) :
  Calls Try.prog 19 #[.slice A xs.length c, .slice B ys.length d] w fun e w' => e = .returned (.bool (decide (xs = ys))) ∧ Below w.heap.size w w' := by
 by_cases hlen : xs.length = ys.length
 ·have hq : ((xs.length : Int) != (ys.length : Int)) = false := by simp [hlen]
  have hH := hide hlen
  have hle : ys.length ≤ xs.length := by omega
  have hge : xs.length ≤ ys.length := by omega
  clear hlen
  generalize hdd : decide (xs = ys) = dd
  have hdd' := hide hdd
  clear hdd
  go_enter Try.func19, Try.ntmps19
  go_wp2_with fail
  go_loopw [13] (fun i wr => ∃ j : Nat, j ≤ xs.length ∧ i = .int .i64 j ∧ Hid (xs.take j = ys.take j) ∧ Below w.heap.size w wr) (fun i _ => xs.length - (intOf i).toNat)
  case atStart => exact ⟨0, Nat.zero_le _, rfl, hide (by simp), Below.refl _ _⟩
  case round =>
   obtain ⟨j, hj, rfl, heq, hb⟩ := hrel
   by_cases hlt : j < xs.length
   ·have hlt' : j < ys.length := by omega
    obtain ⟨b, off, rfl, hc⟩ := hr.below hb j hlt
    obtain ⟨b2, off2, rfl, hd⟩ := hr'.below hb j hlt'
    generalize hxj : xs[j] = x at hc
    generalize hyj : ys[j] = y at hd
    have hxj' := hide hxj
    have hyj' := hide hyj
    clear hxj hyj
    go_wp2_with fail
    have r1 := rule_of hc
    have r2 := rule_of hd
    refine wp_region_firstY (fun w' => Below wr.heap.size wr w') [0, 1, 2, 3, 4, 5, 6, 7, 8] [] [] [_, _, _, _, _, _, _, _, _] [] [] (by kernel_rfl) (by kernel_rfl) rfl rfl rfl (fun _ _ d _ _ h => by cases d <;> exact h) (Below.refl _ _).drew ?_
    repeat ((first | ((refine takeY_skip (a' := ?_) ?_ ?_ ?_); (rotate_left); (· (simp [Region.wanted, yielded]; done))) | ((refine takeY_step (v := ?_) (a' := ?_) ?_ ?_ ?_ ?_); (rotate_left 2); (· (simp [Region.wanted, yielded]; done)); (· (intro w' hS'; go_simp; try (with_reducible rfl))))); (· (simp only [List.getElem_toArray, List.getElem_cons_zero, List.getElem_cons_succ, Act.put, List.setIfInBounds_toArray, List.set_cons_zero, List.set_cons_succ]; exact rfl)))
    refine takeY_nil (then_nil ?_)
    clear r1 r2
    by_cases hne : x = y
    ·have q : (x != y) = false := by simpa using hne
     have hne' := hide hne
     clear hne
     go_wp2_with fail
     go_roundw
     case rel => exact ⟨j + 1, by omega, by go_num, hide (by rw [List.take_succ_eq_append_getElem hlt, List.take_succ_eq_append_getElem hlt', heq.out, hxj'.out, hyj'.out, hne'.out]), hb.drew⟩
     case measure => simp [intOf]; omega
    ·have q : (x != y) = true := by simpa using hne
     have hdf : dd = false := by
      rw [← hdd'.out]
      refine decide_eq_false fun e => hne ?_
      rw [← hxj'.out, ← hyj'.out]
      subst e; rfl
     subst hdf
     clear hne
     go_wp2_with fail
     go_ret
     exact ⟨rfl, hb.drew⟩
   ·have hjl : j = xs.length := by omega
    have hdt : dd = true := by
     rw [← hdd'.out]
     have h5 := heq.out
     rw [hjl, List.take_length, hH.out, List.take_length] at h5
     exact decide_eq_true h5
    subst hdt
    go_wp2_with fail
    go_ret
    exact ⟨rfl, hb⟩
 ·have hq : ((xs.length : Int) != (ys.length : Int)) = true := by simp; omega
  rw [decide_eq_false (fun e => hlen (by rw [e]))]
  clear hlen
  go_enter Try.func19, Try.ntmps19
  go_wp2_with fail
  go_ret
  exact ⟨rfl, Below.refl _ _⟩
end Go.Proofs.Ytddkehjdjfmhmaa
