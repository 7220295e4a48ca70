/-
  NoteAt of the reference. No condition.
-/
import Derived.Test.YtefifcmieicnlaaTermAt
import Derived.Test.YtefifcmieicnlaaSFillT
namespace Go.Proofs.Ytefifcmieicnlaa
open Go.RowKit
set_option linter.unusedSimpArgs false
set_option linter.unusedVariables false

/-- which node of a term a path leads to, counted from the root on -/
def idxT : Tm → List Int → Nat
  | _, [] => 0
  | t, i :: is => 1 + sizes (t.kids.take i.toNat) + idxT (t.kids.getD i.toNat default) is
theorem kid_size {ks : List Tm} {i : Nat} (hi : i < ks.length) : sizes (ks.take i) + (ks.getD i default).size ≤ sizes ks := by
  have h1 := sizes_take ks i hi
  have h2 := sizes_take_le ks (i + 1)
  rw [List.getD_eq_getElem?_getD, List.getElem?_eq_getElem hi, Option.getD_some]
  omega
theorem idx_lt {u : Tm} : ∀ {xs : List Int} {t : Tm}, atT t xs = some u → idxT t xs + u.size ≤ t.size
  | [], t, h => by cases h; simp [idxT]
  | i :: is, t, h => by
    rw [atT] at h
    split at h
    · rename_i hh
      obtain ⟨k, n, ks⟩ := t
      have h1 := idx_lt h
      simp only [Tm.kids] at h1 hh
      have h2 := kid_size (ks := ks) (i := i.toNat) (by omega)
      rw [idxT, Tm.size]
      simp only [Tm.kids]
      omega
    · cases h
/-- what NoteAt answers -/
def noteS (t : Tm) (notes : List Tm) (xs : List Int) : Option Tm :=
  if (termAt t xs).isSome = true ∧ notes.length = t.size then (if validT (notes.getD (idxT t xs) default) = true then some (notes.getD (idxT t xs) default) else none) else none

set_option maxHeartbeats 2000000 in
set_option maxRecDepth 100000 in
theorem sNoteAt_any (k n : Int) (ks : List Tm) (A : Option Addr) (c : Nat) (notes : List Tm) (B : Option Addr) (cb : Nat) (xs : List Int) (P : Option Addr) (cp : Nat) (w : World) (hM : sizes ks ≤ 1048576) (hMn : sizes notes ≤ 1048576) (hx : xs.length ≤ 1048576) (hr : Rd w A 0 ks) (hrB : Rd w B 0 notes) (hi : RdI w P xs) :
    Calls Try.prog 33 #[.agg #[.int .i64 k, .int .i64 n, .slice A ks.length c], .slice B notes.length cb, .slice P xs.length cp] w (GotO w (noteS (.mk k n ks) notes xs)) := by
  have hlen := length_le_sizes ks
  have hlenB := length_le_sizes notes
  cases hta : termAt (.mk k n ks) xs with
  | none =>
    have hz : noteS (.mk k n ks) notes xs = none := by rw [noteS, if_neg]; rintro ⟨h, -⟩; rw [hta] at h; cases h
    rw [hz]
    have hta' := hide hta
    clear hz hta
    go_enter Try.func33, Try.ntmps33
    go_wp2_with (go_at_call 64; refine (sTermAt_any k n ks A c xs P cp _ hM (by omega) ((hr.alloc _).alloc _) ((hi.alloc _).alloc _)).mono ?_; rw [hta'.out]; intro e w1 hgo; obtain ⟨he, hb1⟩ := gotO_none hgo; subst he; clear hgo; have hB1 : Blk w1 w.heap.size #[.int .i64 k, .int .i64 n, .slice A ks.length c] := ((Blk.new_ w 29 #[.int .i64 k, .int .i64 n, .slice A ks.length c] rfl).alloc _).keep hb1; obtain ⟨p0, p1, p2⟩ := hB1.three; have hT1 : Blk w1 (w.heap.size + 1) #[.int .i64 0, .int .i64 0, .slice none 0 0] := (Blk.new_ _ 29 _ (by simp)).keep hb1; obtain ⟨d0, d1, d2⟩ := hT1.three; have e0 := hT1.frozen 0; have e1 := hT1.frozen 1; have e2 := hT1.frozen 2; have lB := hB1.lt; have lT := hT1.lt; replace hb1 : Below w.heap.size w w1 := (((Below.refl _ _).alloc (Nat.le_refl _) _).alloc (by simp) _).trans (hb1.mono (by simp; omega)))
    have y := fun (o : Obj) => (((((hT1.set_ 0 (.int .i64 0)).set_ 1 (.int .i64 0)).set_ 2 (.slice none 0 0)).alloc o : Blk _ _ #[.int .i64 0, .int .i64 0, .slice none 0 0])).three
    refine bodyPost_ret (v := .tuple #[zeroV, .bool false]) (by simp [results, Try.results33, go_sem, d0, d1, d2, zeroV, y]) rfl ⟨rfl, ?_⟩
    first
      | exact (((hb1.setCell (by simp) _).setCell (by simp) _).setCell (by simp) _).alloc (by have := hb1.size; simp; omega) _
      | exact ((((hb1.alloc hb1.size _)).setCell (by simp) _).setCell (by simp) _).setCell (by simp) _
  | some u =>
    have hv : validT (.mk k n ks) = true := by
      unfold termAt at hta; split at hta
      · assumption
      · cases hta
    have hat : atT (.mk k n ks) xs = some u := by rw [termAt, if_pos hv] at hta; exact hta
    have hsz := validT_size hv
    rw [Tm.size] at hsz
    replace hsz := hide hsz
    obtain ⟨ku, nu, us⟩ := u
    by_cases hln : notes.length = sizes ks + 1
    · have hid := idx_lt hat
      have hnn : noteS (.mk k n ks) notes xs = if validT (notes.getD (idxT (.mk k n ks) xs) default) = true then some (notes.getD (idxT (.mk k n ks) xs) default) else none := by rw [noteS, if_pos ⟨by rw [hta]; rfl, hln⟩]
      rw [hnn]
      have hIl : idxT (.mk k n ks) xs < notes.length := by rw [hln]; simp only [Tm.size] at hid; omega
      generalize hI : idxT (.mk k n ks) xs = I at hid hIl
      have hta' := hide hta
      have hat' := hide hat
      have hI' := hide hI
      have hln' := hide hln
      have q1 : ((notes.length : Int) != ((sizes ks + 1 : Nat) : Int)) = false := by simp [hln]
      have q1b : ((notes.length : Int) != (sizes ks : Int) + 1) = false := by simp [hln]
      have hsz2 := hsz.out
      obtain ⟨oo, hoo⟩ : ∃ oo, (if validT (notes.getD I default) = true then some (notes.getD I default) else none) = oo := ⟨_, rfl⟩
      rw [hoo]
      have hoo' := hide hoo
      clear hta hat hI hnn hoo hid
      go_enter Try.func33, Try.ntmps33
      go_wp2_with (first | (go_at_call 65; refine (sCount_any k n ks A c _ (by have := hsz.out; omega) ((hr.below hb1).alloc _)).mono ?_; rintro e w2 ⟨rfl, hb2⟩; have hB2 := (hB1.alloc _).keep hb2; have hT2 := (hT1.alloc _).keep hb2; clear d0 d1 d2 p0 p1 p2 e0 e1 e2; obtain ⟨d0, d1, d2⟩ := hT2.three; have e0 := hT2.frozen 0; have e1 := hT2.frozen 1; have e2 := hT2.frozen 2; replace hb2 : Below w.heap.size w w2 := (hb1.alloc hb1.size _).trans (hb2.mono (by have := hb1.size; simp; omega))) | (go_at_call 64; refine (sTermAt_any k n ks A c xs P cp _ hM (by omega) ((hr.alloc _).alloc _) ((hi.alloc _).alloc _)).mono ?_; rw [hta'.out]; intro e w1 hgo; obtain ⟨A1, c1, rfl, hl1, hf1, hb1⟩ := gotO_some hgo; clear hgo; have hB1 : Blk w1 w.heap.size #[.int .i64 k, .int .i64 n, .slice A ks.length c] := ((Blk.new_ w 29 #[.int .i64 k, .int .i64 n, .slice A ks.length c] rfl).alloc _).keep hb1; obtain ⟨p0, p1, p2⟩ := hB1.three; have hT1 : Blk w1 (w.heap.size + 1) #[.int .i64 0, .int .i64 0, .slice none 0 0] := (Blk.new_ _ 29 _ (by simp)).keep hb1; obtain ⟨d0, d1, d2⟩ := hT1.three; have e0 := hT1.frozen 0; have e1 := hT1.frozen 1; have e2 := hT1.frozen 2; have lB := hB1.lt; have lT := hT1.lt; replace hb1 : Below w.heap.size w w1 := (((Below.refl _ _).alloc (Nat.le_refl _) _).alloc (by simp) _).trans (hb1.mono (by simp; omega))))
      have hB3 := hB2
      have hT3 := hT2
      go_loopw [10, 11] (fun a i wr => ∃ (j acc : Nat) (k1 n1 : Int) (ks1 : List Tm) (A1 : Option Addr) (c1 : Nat), j ≤ xs.length ∧ i = .int .i64 j ∧ a = .int .i64 acc ∧ Hid (atT (.mk k1 n1 ks1) (xs.drop j) = some (.mk ku nu us)) ∧ Hid (acc + idxT (.mk k1 n1 ks1) (xs.drop j) = I) ∧ acc + sizes ks1 ≤ sizes ks ∧ ks1.length ≤ 9223372036854775807 ∧ Rd w A1 0 ks1 ∧ Blk wr w.heap.size #[.int .i64 k1, .int .i64 n1, .slice A1 ks1.length c1] ∧ Blk wr (w.heap.size + 1) #[.int .i64 0, .int .i64 0, .slice none 0 0] ∧ Below w.heap.size w wr) (fun _ i _ => xs.length - (intOf i).toNat)
      case atStart => exact ⟨0, 0, k, n, ks, A, c, Nat.zero_le _, rfl, rfl, hide (by simpa using hat'.out), hide (by simpa using hI'.out), by omega, by omega, hr, hB3, hT3, hb2⟩
      case round =>
        obtain ⟨j, acc, k1, n1, ks1, A1, c1, hj, rfl, rfl, hatj, hidj, hacc, hl1, hr1, hB1, hT1, hb⟩ := hrel
        have hlen1 := length_le_sizes ks1
        by_cases hlt : j < xs.length
        · obtain ⟨b, off, rfl, hcw⟩ := hi j hlt
          have ha := hatj.out
          have hd := hidj.out
          rw [List.drop_eq_getElem_cons hlt, atT] at ha
          rw [List.drop_eq_getElem_cons hlt, idxT] at hd
          by_cases hin : 0 ≤ xs[j] ∧ xs[j] < ((Tm.mk k1 n1 ks1).kids.length : Int)
          · rw [if_pos hin] at ha
            simp only [Tm.kids] at ha hd hin
            obtain ⟨i, hxi⟩ : ∃ i : Nat, xs[j] = (i : Int) := ⟨xs[j].toNat, by omega⟩
            rw [hxi] at ha hd hin hcw
            rw [Int.toNat_natCast] at ha hd
            have hik : i < ks1.length := by omega
            have ha' := hide ha
            have hd' := hide hd
            have hks := kid_size hik
            obtain ⟨b3, off3, k3, n3, ks3, A3, c3, rfl, hkj3, hd1, hd2, hd3, hl3, hr3⟩ := hr1.at_ hik
            have hgd : ks1.getD i default = .mk k3 n3 ks3 := by rw [← hkj3]; simp [List.getD, List.getElem?_eq_getElem hik]
            rw [hgd] at ha hd hks
            replace ha' := hide ha
            replace hd' := hide hd
            rw [Tm.size] at hks
            clear ha hd hgd hkj3 hxi
            have hkw := Keeps.of_below hb
            have pc := hkw _ _ hcw
            go_wp2_with fail
            go_loopw [10, 12] (fun a i2 wr2 => ∃ j2 : Nat, j2 ≤ i ∧ i2 = .int .i64 j2 ∧ a = .int .i64 (acc + 1 + sizes (ks1.take j2)) ∧ Blk wr2 w.heap.size #[.int .i64 k1, .int .i64 n1, .slice (some ⟨b3, off3, none⟩) ks1.length c1] ∧ Blk wr2 (w.heap.size + 1) #[.int .i64 0, .int .i64 0, .slice none 0 0] ∧ Below w.heap.size w wr2) (fun _ i2 _ => i - (intOf i2).toNat)
            case atStart => exact ⟨0, Nat.zero_le _, rfl, by simp [sizes], hB1, hT1, hb⟩
            case round =>
              obtain ⟨j2, hj2, rfl, rfl, hB2, hT2, hb2⟩ := hrel
              have pc2 := (Keeps.of_below hb2) _ _ hcw
              have bb2 := hB2.at_ (i := 2) rfl
              have hsk := sizes_take_le ks1 j2
              by_cases hlt2 : j2 < i
              · obtain ⟨b4, off4, k4, n4, ks4, A4, c4, hA4, hkj4, hf1, hf2, hf3, hl4, hr4⟩ := hr1.at_ (j := j2) (by omega)
                cases hA4
                have g1 := (Keeps.of_below hb2) _ _ hf1
                have g2 := (Keeps.of_below hb2) _ _ hf2
                have g3 := (Keeps.of_below hb2) _ _ hf3
                have hst := sizes_take ks1 j2 (by omega)
                have hst2 := sizes_take_le ks1 (j2 + 1)
                rw [hkj4, Tm.size] at hst
                have hst' := hide hst
                clear hkj4
                go_wp2_with (go_at_call 65; refine (sCount_any k4 n4 ks4 A4 c4 _ (by omega) (hr4.below hb2)).mono ?_; rintro e w3 ⟨rfl, hb3⟩)
                go_roundw
                case rel => exact ⟨j2 + 1, by omega, by go_num, by first | (go_num; done) | (go_num; have := hst'.out; omega), hB2.keep hb3, hT2.keep hb3, hb2.trans (hb3.mono hb2.size)⟩
                case measure => simp [intOf]; omega
              · have hji : j2 = i := by omega
                subst hji
                go_wp2_with fail
                have z2 := rule_of ((Keeps.of_below hb2) _ _ hd1)
                have z3 := rule_of ((Keeps.of_below hb2) _ _ hd2)
                have z4 := rule_of ((Keeps.of_below hb2) _ _ hd3)
                have z0 := rule_of pc2
                have z1 := hB2.rule (i := 2) rfl
                refine wp_region_firstY (fun w' => Below wr.heap.size wr w') [0, 1, 2, 3, 4, 5, 6, 7] [] [8] [_, _, _, _, _, _, _, _] [] [_] (by kernel_rfl) (by kernel_rfl) rfl rfl rfl (fun _ _ d _ _ h => by cases d <;> exact h) (Below.refl _ _).drew ?_
                repeat (first | ((refine takeY_skip (a' := ?_) ?_ ?_ ?_); (rotate_left); (· (simp [Region.wanted, yielded]; done)); (· (simp only [List.getElem_toArray, List.getElem_cons_zero, List.getElem_cons_succ, Act.put, List.setIfInBounds_toArray, List.set_cons_zero, List.set_cons_succ]; exact rfl))) | ((refine takeY_step (v := ?_) (a' := ?_) ?_ ?_ ?_ ?_); (rotate_left 2); (· (simp [Region.wanted, yielded]; done)); (· (intro w' hS'; go_simp; try (with_reducible rfl))); (· (simp only [List.getElem_toArray, List.getElem_cons_zero, List.getElem_cons_succ, Act.put, List.setIfInBounds_toArray, List.set_cons_zero, List.set_cons_succ]; exact rfl))))
                refine takeY_nil (then_nil ?_)
                clear z0 z1 z2 z3 z4
                have cc0 := hB2.drew.at_ (i := 0) rfl
                have cc1 := hB2.drew.at_ (i := 1) rfl
                have cc2 := hB2.drew.at_ (i := 2) rfl
                have f0 := hB2.drew.frozen 0
                have f1 := hB2.drew.frozen 1
                have f2 := hB2.drew.frozen 2
                have cc0' := hB2.at_ (i := 0) rfl
                have cc1' := hB2.at_ (i := 1) rfl
                have cc2' := hB2.at_ (i := 2) rfl
                have f0' := hB2.frozen 0
                have f1' := hB2.frozen 1
                have f2' := hB2.frozen 2
                go_wp2_with fail
                go_roundw
                case rel => exact ⟨j + 1, acc + 1 + sizes (ks1.take j2), k3, n3, ks3, A3, c3, by omega, by go_num, by go_num, ha', hide (by have := hd'.out; omega), by omega, hl3, hr3, ((hB2.drew.set_ 0 _).set_ 1 _).set_ 2 _, ((hT2.drew.far (by simp) _).far (by simp) _).far (by simp) _, ((hb2.drew.setCell (by simp) _).setCell (by simp) _).setCell (by simp) _⟩
                case measure => simp [intOf]; omega
          · rw [if_neg hin] at ha; cases ha
        · have hjl : j = xs.length := by omega
          subst hjl
          have hII : acc = I := by have := hidj.out; rw [List.drop_length] at this; simpa [idxT] using this
          subst hII
          have hIn : acc < notes.length := hIl
          obtain ⟨b5, off5, kd, nd, ksd, Ad, cd, rfl, hkd, m1, m2, m3, hld, hrd⟩ := (hrB.below hb).at_ hIn
          have hgd : notes.getD acc default = .mk kd nd ksd := by rw [← hkd]; simp [List.getD, List.getElem?_eq_getElem hIn]
          have hsd := sizes_le (List.getElem_mem hIn)
          rw [hkd, Tm.size] at hsd
          rw [hgd] at hoo'
          have hIl2 : (acc : Int) < (notes.length : Int) := by omega
          clear hkd hgd
          cases hvd : validT (.mk kd nd ksd) with
          | false =>
            have hno : oo = none := by rw [← hoo'.out, if_neg]; rw [hvd]; exact Bool.false_ne_true
            subst hno
            have hvd' := hide hvd
            clear hvd
            go_wp2_with (first
              | (go_at_call 58; refine (made_no 0 0 [] A6 c6 _ (by simp [sizes]) hf6.rd (by decide)).mono ?_; rintro e w7 ⟨rfl, hb7⟩; replace hT6 := hT6.keep hb7; obtain ⟨d0, d1, d2⟩ := hT6.three; have f0 := hT6.frozen 0; have f1 := hT6.frozen 1; have f2 := hT6.frozen 2; replace hb7 : Below w.heap.size w w7 := hb6.trans (hb7.mono hb6.size))
              | (go_at_call 66; refine (sDeep_any kd nd ksd Ad cd _ (by omega) hrd (if_neg (by rw [hvd'.out]; exact Bool.false_ne_true))).mono ?_; rintro e w6 ⟨A6, c6, rfl, hl6, hf6, hb6⟩; have hT6 := hT1.keep hb6; replace hb6 : Below w.heap.size w w6 := hb.trans (hb6.mono hb.size)))
            refine bodyPost_ret (v := .tuple #[zeroV, .bool false]) (by simp [results, Try.results33, go_sem, d0, d1, d2, zeroV]) rfl ⟨rfl, ?_⟩
            exact ((hb7.setCell (by simp) _).setCell (by simp) _).setCell (by simp) _
          | true =>
            have hyes : oo = some (.mk kd nd ksd) := by rw [← hoo'.out, if_pos hvd]
            subst hyes
            have hvd' := hide hvd
            clear hvd
            go_wp2_with (first
              | (go_at_call 58; refine (made_yes kd nd ksd A6 c6 _ (by omega) hf6.rd hvd'.out).mono ?_; rintro e w7 ⟨rfl, hb7⟩; replace hT6 := hT6.keep hb7; obtain ⟨d0, d1, d2⟩ := hT6.three; have f0 := hT6.frozen 0; have f1 := hT6.frozen 1; have f2 := hT6.frozen 2; have lT6 := hT1.lt; replace hf6 := (hf6.below hb7).mono (B' := w.heap.size + 2) (by omega); replace hb7 : Below w.heap.size w w7 := hb6.trans (hb7.mono hb6.size))
              | (go_at_call 66; refine (sDeep_any kd nd ksd Ad cd _ (by omega) hrd (if_pos hvd'.out)).mono ?_; rintro e w6 ⟨A6, c6, rfl, hl6, hf6, hb6⟩; have hT6 := hT1.keep hb6; replace hb6 : Below w.heap.size w w6 := hb.trans (hb6.mono hb.size)))
            refine bodyPost_ret (v := .tuple #[.agg #[.int .i64 kd, .int .i64 nd, .slice A6 ksd.length c6], .bool true]) (by simp [results, Try.results33, go_sem, d0, d1, d2]) rfl ⟨A6, c6, rfl, hl6, ?_, ?_⟩
            · exact (((hf6.setCell (by simp) _).setCell (by simp) _).setCell (by simp) _).mono (by omega)
            · exact ((hb7.setCell (by simp) _).setCell (by simp) _).setCell (by simp) _
    · have hz : noteS (.mk k n ks) notes xs = none := by rw [noteS, if_neg]; rintro ⟨-, h⟩; exact hln h
      rw [hz]
      have hta' := hide hta
      have q1 : ((notes.length : Int) != ((sizes ks + 1 : Nat) : Int)) = true := by simp; omega
      have q1b : ((notes.length : Int) != (sizes ks : Int) + 1) = true := by simp; omega
      clear hz hta hln hat
      go_enter Try.func33, Try.ntmps33
      go_wp2_with (first | (go_at_call 65; refine (sCount_any k n ks A c _ (by have := hsz.out; omega) ((hr.below hb1).alloc _)).mono ?_; rintro e w2 ⟨rfl, hb2⟩; have hB2 := (hB1.alloc _).keep hb2; have hT2 := (hT1.alloc _).keep hb2; clear d0 d1 d2 p0 p1 p2 e0 e1 e2; obtain ⟨d0, d1, d2⟩ := hT2.three; have e0 := hT2.frozen 0; have e1 := hT2.frozen 1; have e2 := hT2.frozen 2; replace hb2 : Below w.heap.size w w2 := (hb1.alloc hb1.size _).trans (hb2.mono (by have := hb1.size; simp; omega))) | (go_at_call 64; refine (sTermAt_any k n ks A c xs P cp _ hM (by omega) ((hr.alloc _).alloc _) ((hi.alloc _).alloc _)).mono ?_; rw [hta'.out]; intro e w1 hgo; obtain ⟨A1, c1, rfl, hl1, hf1, hb1⟩ := gotO_some hgo; clear hgo; have hB1 : Blk w1 w.heap.size #[.int .i64 k, .int .i64 n, .slice A ks.length c] := ((Blk.new_ w 29 #[.int .i64 k, .int .i64 n, .slice A ks.length c] rfl).alloc _).keep hb1; obtain ⟨p0, p1, p2⟩ := hB1.three; have hT1 : Blk w1 (w.heap.size + 1) #[.int .i64 0, .int .i64 0, .slice none 0 0] := (Blk.new_ _ 29 _ (by simp)).keep hb1; obtain ⟨d0, d1, d2⟩ := hT1.three; have e0 := hT1.frozen 0; have e1 := hT1.frozen 1; have e2 := hT1.frozen 2; have lB := hB1.lt; have lT := hT1.lt; replace hb1 : Below w.heap.size w w1 := (((Below.refl _ _).alloc (Nat.le_refl _) _).alloc (by simp) _).trans (hb1.mono (by simp; omega))))
      refine bodyPost_ret (v := .tuple #[zeroV, .bool false]) (by simp [results, Try.results33, go_sem, d0, d1, d2, zeroV]) rfl ⟨rfl, ?_⟩
      exact ((hb2.setCell (by simp) _).setCell (by simp) _).setCell (by simp) _
end Go.Proofs.Ytefifcmieicnlaa
