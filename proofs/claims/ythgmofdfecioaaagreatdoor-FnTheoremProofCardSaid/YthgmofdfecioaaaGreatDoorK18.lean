/-
  Contracts of the functions that the law reaches, and plain lemmas. No condition.
-/
import Derived.Test.YthgmofdfecioaaaGreatDoorK1
import Derived.Test.YthgmofdfecioaaaGreatDoorK2
import Derived.Test.YthgmofdfecioaaaGreatDoorK7
import Derived.Test.YthgmofdfecioaaaGreatDoorK8
import Derived.Test.YthgmofdfecioaaaGreatDoorK17
import Derived.WalkSpells
import Derived.WalkLawsBesides
namespace Go.Proofs.YthgmofdfecioaaaGreatDoor
set_option linter.unusedSimpArgs false
set_option linter.unusedVariables false
open Go.RowKit
/-- a term that can be read -/
def GotQ (p : Nat → Prop) (w : World) (t : Tm) (e : Ending) (w' : World) : Prop :=
  ∃ A c, e = .returned (.agg #[.int .i64 t.k, .int .i64 t.n, .slice A t.ks.length c]) ∧ t.ks.length ≤ 9223372036854775807 ∧ RdP (fun b => p b ∨ w.heap.size ≤ b) w' A 0 t.ks ∧ Below w.heap.size w w'
theorem gotQ_mk {p : Nat → Prop} {w : World} {k n : Int} {ks : List Tm} {e : Ending} {w' : World} (h : GotQ p w (.mk k n ks) e w') : ∃ A c, e = .returned (.agg #[.int .i64 k, .int .i64 n, .slice A ks.length c]) ∧ ks.length ≤ 9223372036854775807 ∧ RdP (fun b => p b ∨ w.heap.size ≤ b) w' A 0 ks ∧ Below w.heap.size w w' := h
theorem run_tailX {b off cp : Nat} {is : List Int} {x : Int} {w0 : World} (hcp : is.length + 1 ≤ cp) (hi : RdI w0 (some ⟨b, off, none⟩) (x :: is)) :
    ∃ off', (∀ w, (Instr.sliceAt 46 (.slice (some ⟨b, off, none⟩) (is.length + 1) cp) (some (.int .i64 1)) none none).run Tryz.prog w = .ok (.slice (some ⟨b, off', none⟩) is.length (cp - 1)) w) ∧ RdI w0 (some ⟨b, off', none⟩) is := by
  have hu : Tryz.prog.underlying 46 = some (.slice (Tryz.prog.elem 46)) := by kernel_rfl
  have he : Tryz.prog.elem 46 = 3 := by kernel_rfl
  have hs : ∀ w, (sizeOf 3).run Tryz.prog w = .ok 1 w := fun w => by kernel_rfl
  refine ⟨if cp = 1 then off else off + 1, fun w => ?_, fun j hj => ?_⟩
  · rw [run_sliceAt_slice (t := 46) (h := hu), run_slice_l (t := 46) (ht := hu) (h0 := by omega) (h1 := by omega), he, hs]
    simp only [Result.andThen, sliced]
    by_cases h : cp = 1
    · simp [h]
    · simp [h, Addr.add]
  · obtain ⟨b1, off1, hA, hc⟩ := hi (j + 1) (by simpa using hj)
    injection hA with hA
    injection hA with e1 e2
    subst e1 e2
    refine ⟨_, _, rfl, ?_⟩
    rw [if_neg (by omega)]
    rw [show off + 1 + j = off + (j + 1) from by omega]
    simpa using hc
set_option maxHeartbeats 8000000 in
set_option maxRecDepth 100000 in
theorem iPut_any (p : Nat → Prop) (ku nu : Int) (us : List Tm) (hus : sizes us ≤ 1000000) : ∀ (xs : List Int) (k n : Int) (ks : List Tm) (A : Option Addr) (c : Nat) (P : Option Addr) (cp : Nat) (U : Option Addr) (cu : Nat) (w : World) (u0 : Tm), atT (.mk k n ks) xs = some u0 → xs.length ≤ cp → sizes ks ≤ 1000000 → RdP p w A 0 ks → RdI w P xs → RdP p w U 0 us → (∀ b, p b → b < w.heap.size) →
    Calls Tryz.prog 100 #[.agg #[.int .i64 k, .int .i64 n, .slice A ks.length c], .slice P xs.length cp, .agg #[.int .i64 ku, .int .i64 nu, .slice U us.length cu]] w (GotQ p w (putN (.mk k n ks) xs (.mk ku nu us)))
  | [], k, n, ks, A, c, P, cp, U, cu, w, u0, h, hcp, hM, hr, hi, hru, hpw => by
    have hlu := length_le_sizes us
    rw [putN]
    go_enter Tryz.func100, Tryz.ntmps100
    go_wp2_with fail
    refine bodyPost_ret (v := .agg #[.int .i64 ku, .int .i64 nu, .slice U us.length cu]) (by simp [results, Tryz.results100, go_sem]) rfl ⟨U, cu, rfl, by simp [Tm.ks]; omega, ?_, ?_⟩
    · exact (((hru.alloc _).alloc _).alloc _).mono (fun b h => Or.inl h)
    · exact (((Below.refl _ _).alloc (Nat.le_refl _) _).alloc (by simp) _).alloc (by simp; omega) _
  | x :: is, k, n, ks, A, c, P, cp, U, cu, w, u0, h, hcp, hM, hr, hi, hru, hpw => by
    have hlen := length_le_sizes ks
    have hlu := length_le_sizes us
    rw [atT] at h
    split at h
    case isFalse => cases h
    rename_i hh
    have hx2 : x < ks.length := hh.2
    obtain ⟨i, rfl⟩ : ∃ i : Nat, x = (i : Int) := ⟨x.toNat, by omega⟩
    have hik : i < ks.length := by omega
    have h0 := hide h
    clear h hh
    obtain ⟨b3, o3, k3, n3, ks3, A3, c3, rfl, hkj, hc1, hc2, hc3, hl3, hr3⟩ := hr.at_ hik
    have hsz := sizes_le (List.getElem_mem hik)
    rw [hkj] at hsz
    simp only [Tm.size] at hsz
    have e3 : ks.getD (i : Int).toNat default = .mk k3 n3 ks3 := by rw [Int.toNat_natCast, List.getD_eq_getElem?_getD, List.getElem?_eq_getElem hik, Option.getD_some, hkj]
    have h1 : atT (.mk k3 n3 ks3) is = some u0 := by have := h0.out; rw [show (Tm.mk k n ks).kids = ks from rfl, e3] at this; exact this
    have h1' := hide h1
    obtain ⟨b, off, rfl, hp0⟩ := hi 0 (by simp)
    obtain ⟨off', ht, hti⟩ := run_tailX (by simpa using hcp) hi
    simp only [List.getElem_cons_zero, Nat.add_zero] at hp0
    obtain ⟨pk, pn, pks, hput⟩ : ∃ pk pn pks, putN (.mk k3 n3 ks3) is (.mk ku nu us) = .mk pk pn pks := by cases putN (.mk k3 n3 ks3) is (.mk ku nu us) with | mk a b c => exact ⟨a, b, c, rfl⟩
    have hput' := hide hput
    have hres : putN (.mk k n ks) ((i : Int) :: is) (.mk ku nu us) = .mk k n (ks.set i (.mk pk pn pks)) := by rw [putN, e3, hput, Int.toNat_natCast]
    have hres' := hide hres
    have hcp' : is.length + 1 ≤ cp := by simpa using hcp
    have q3 : (((is.length : Nat) : Int) + 1 == 0) = false := by simp; omega
    have q4 : (0 : Int) < ((is.length : Nat) : Int) + 1 := by omega
    have hlk : (i : Int) < (ks.length : Int) := by omega
    clear h1 hput hres e3 hkj hx2
    rw [List.length_cons]
    go_enter Tryz.func100, Tryz.ntmps100
    go_wp2_with fail
    refine name_world ?_
    intro wx hwx
    have h0x : Blk wx w.heap.size #[.int .i64 k, .int .i64 n, .slice (some ⟨b3, o3, none⟩) ks.length c] := by rw [hwx]; exact ((Blk.new_ _ 27 _ rfl).alloc _).alloc _
    have h1x : Blk wx (w.heap.size + 1) #[.int .i64 ku, .int .i64 nu, .slice U us.length cu] := by rw [hwx]; exact (Blk.new_ _ 27 _ (by simp)).alloc _
    have h2x : Blk wx (w.heap.size + 1 + 1) #[.int .i64 0, .int .i64 0, .slice none 0 0] := by rw [hwx]; exact Blk.new_ _ 27 _ (by simp)
    have bx : Below w.heap.size w wx := by rw [hwx]; exact (((Below.refl _ _).alloc (Nat.le_refl _) _).alloc (by simp) _).alloc (by simp; omega) _
    have lx := h2x.lt
    clear hwx
    have rx := hr.below bx
    have g0 := rule_of h0x.three.1
    have g1 := rule_of h0x.three.2.1
    have g2 := rule_of h0x.three.2.2
    go_cut [7] (fun s7 wy => ∃ (g7 g c7 : Nat) (q : Nat → Prop), s7 = .pointer (some ⟨g7, 0, none⟩) ∧ Blk wy g7 #[.int .i64 k, .int .i64 n, .slice (some ⟨g, 0, none⟩) ks.length c7] ∧ RowT q wy g ks ∧ ¬ q g ∧ (∀ b, q b → p b ∨ wx.heap.size ≤ b) ∧ Below wx.heap.size wx wy ∧ wx.heap.size ≤ g7 ∧ wx.heap.size ≤ g ∧ g ≠ g7)
    case first =>
      obtain ⟨q0, hq0⟩ : ∃ q0, q0 = wx.drew := ⟨_, rfl⟩
      have bq0 : Below wx.heap.size wx q0 := by rw [hq0]; exact (Below.refl _ _).drew
      refine gC_start (fun w' => Below wx.heap.size wx w') [7, 9] 10 (by kernel_rfl) rfl ?_
      refine gC_take [0, 1, 2, 3, 4, 5] (f := 4) (l' := #[true, true, true, true, true, true, false, false, false, false]) (lT := [_, _, _, _, _, _]) (by rw [← hq0]; exact bq0) rfl (by kernel_rfl) (by kernel_rfl) (by kernel_rfl) rfl (fun _ _ d _ _ h => by cases d <;> exact h) ?_
      repeat (first | ((refine takeY_skip (a' := ?_) ?_ ?_ ?_); (rotate_left); (· (simp [Region.wanted, yielded, Go.undef]; done)); (· (simp only [List.getElem_toArray, List.getElem_cons_zero, List.getElem_cons_succ, Act.put, List.setIfInBounds_toArray, List.set_cons_zero, List.set_cons_succ]; exact rfl))) | ((refine takeY_step (v := ?_) (a' := ?_) ?_ ?_ ?_ ?_); (rotate_left 2); (· (simp [Region.wanted, yielded, Go.undef]; done)); (· (intro w' hS'; go_simp; try (with_reducible rfl))); (· (simp only [List.getElem_toArray, List.getElem_cons_zero, List.getElem_cons_succ, Act.put, List.setIfInBounds_toArray, List.set_cons_zero, List.set_cons_succ]; exact rfl))))
      refine takeY_nil ?_
      rw [← hq0]
      clear hq0
      refine gC_two (i := 6) (j := 8) (by kernel_rfl) rfl rfl ?_ ?_
      · have swq1 := bq0.size
        go_wp2_with (go_at_call 137; refine (iClone_any p ks _ c _ (by omega) (rx.below bq0) (fun b hb => by have := hpw b hb; omega)).mono ?_; rintro e q1 ⟨A7, c7, rfl, hPq1, hbq1⟩; obtain ⟨g, rfl, -, hBg, hgl, hRq1⟩ := hPq1.rowS (by omega))
        have bq1 : Below wx.heap.size wx q1 := bq0.trans (hbq1.mono bq0.size)
        have lq1 := hbq1.size
        refine mid_intro bq1 ?_
        refine gC_takeT [7] (f := 2) (l' := #[true, true, true, true, true, true, true, true, false, false]) (lT := [_]) rfl (by kernel_rfl) (by kernel_rfl) (by kernel_rfl) rfl (fun _ _ d _ _ h => by cases d <;> exact h) ?_
        repeat (first | ((refine takeY_skip (a' := ?_) ?_ ?_ ?_); (rotate_left); (· (simp [Region.wanted, yielded, Go.undef]; done)); (· (simp only [List.getElem_toArray, List.getElem_cons_zero, List.getElem_cons_succ, Act.put, List.setIfInBounds_toArray, List.set_cons_zero, List.set_cons_succ]; exact rfl))) | ((refine takeY_step (v := ?_) (a' := ?_) ?_ ?_ ?_ ?_); (rotate_left 2); (· (simp [Region.wanted, yielded, Go.undef]; done)); (· (intro w' hS'; go_simp; try (with_reducible rfl))); (· (simp only [List.getElem_toArray, List.getElem_cons_zero, List.getElem_cons_succ, Act.put, List.setIfInBounds_toArray, List.set_cons_zero, List.set_cons_succ]; exact rfl))))
        refine takeY_nil ?_
        refine gC_one (i := 8) (by kernel_rfl) rfl ?_
        · have szq2 := bq1.size
          go_wp2_with fail
          refine name_midw ?_
          intro q2 hn
          have bq2 : Below wx.heap.size wx q2 := by rw [hn]; exact bq1.alloc szq2 _
          have zq2 : Blk q2 q1.heap.size #[.int .i64 0, .int .i64 0, .slice none 0 0] := by rw [hn]; exact Blk.new_ _ 27 _ rfl
          have eq2 : q2.heap.size = q1.heap.size + 1 := by rw [hn]; simp
          have kq2 : Below q1.heap.size q1 q2 := by rw [hn]; exact (Below.refl _ _).alloc (Nat.le_refl _) _
          have seq2 : q1.heap.size < q2.heap.size := by omega
          clear hn eq2
          have Rq2 := hRq1.below kq2
          refine mid_intro bq2 ?_
          refine gC_end [9] (lB := [_]) (by simp) (by kernel_rfl) (by kernel_rfl) rfl ?_
          obtain ⟨d0, d1, d2⟩ := zq2.three
          have e0 := zq2.frozen 0
          have e1 := zq2.frozen 1
          have e2 := zq2.frozen 2
          have szl := zq2.lt
          have szb : wx.heap.size ≤ q1.heap.size := by first | exact bq0.size | exact bq1.size
          have sxx := bx.size
          have hgb : wx.heap.size ≤ g := by have := bq0.size; omega
          have hgz : g ≠ q1.heap.size := by omega
          have hnz : ¬ ((p q1.heap.size ∨ q0.heap.size ≤ q1.heap.size) ∧ q1.heap.size < q1.heap.size ∧ q1.heap.size ≠ g) := by
            rintro ⟨h | h, h2, -⟩
            · have := hpw _ h; omega
            · omega
          go_wp2_with fail
          go_meet
          exact ⟨q1.heap.size, g, c7, _, rfl, ((zq2.set_ 0 _).set_ 1 _).set_ 2 _, ((Rq2.setCell (a := ⟨q1.heap.size, 0, none⟩) hnz hgz _).setCell (a := ⟨q1.heap.size, 1, none⟩) hnz hgz _).setCell (a := ⟨q1.heap.size, 2, none⟩) hnz hgz _, (fun h => h.2.2 rfl), (fun b hb => hb.1.imp id fun h => Nat.le_trans (by have := bq0.size; omega) h), ((bq2.setCell (by simp <;> omega) _).setCell (by simp <;> omega) _).setCell (by simp <;> omega) _, szb, hgb, hgz⟩
      · have szq3 := bq0.size
        go_wp2_with fail
        refine name_midw ?_
        intro q3 hn
        have bq3 : Below wx.heap.size wx q3 := by rw [hn]; exact bq0.alloc szq3 _
        have zq3 : Blk q3 q0.heap.size #[.int .i64 0, .int .i64 0, .slice none 0 0] := by rw [hn]; exact Blk.new_ _ 27 _ rfl
        have eq3 : q3.heap.size = q0.heap.size + 1 := by rw [hn]; simp
        have kq3 : Below q0.heap.size q0 q3 := by rw [hn]; exact (Below.refl _ _).alloc (Nat.le_refl _) _
        have seq3 : q0.heap.size < q3.heap.size := by omega
        clear hn eq3
        refine mid_intro bq3 ?_
        refine gC_one (i := 6) (by kernel_rfl) rfl ?_
        · have swq4 := bq3.size
          have szzq4 := zq3.lt
          go_wp2_with (go_at_call 137; refine (iClone_any p ks _ c _ (by omega) (rx.below bq3) (fun b hb => by have := hpw b hb; omega)).mono ?_; rintro e q4 ⟨A7, c7, rfl, hPq4, hbq4⟩; obtain ⟨g, rfl, -, hBg, hgl, hRq4⟩ := hPq4.rowS (by omega))
          have zq4 := zq3.keep hbq4
          have bq4 : Below wx.heap.size wx q4 := bq3.trans (hbq4.mono bq3.size)
          have lq4 := hbq4.size
          refine mid_intro bq4 ?_
          refine gC_takeT [7] (f := 1) (l' := #[true, true, true, true, true, true, true, true, true, false]) (lT := [_]) rfl (by kernel_rfl) (by kernel_rfl) (by kernel_rfl) rfl (fun _ _ d _ _ h => by cases d <;> exact h) ?_
          repeat (first | ((refine takeY_skip (a' := ?_) ?_ ?_ ?_); (rotate_left); (· (simp [Region.wanted, yielded, Go.undef]; done)); (· (simp only [List.getElem_toArray, List.getElem_cons_zero, List.getElem_cons_succ, Act.put, List.setIfInBounds_toArray, List.set_cons_zero, List.set_cons_succ]; exact rfl))) | ((refine takeY_step (v := ?_) (a' := ?_) ?_ ?_ ?_ ?_); (rotate_left 2); (· (simp [Region.wanted, yielded, Go.undef]; done)); (· (intro w' hS'; go_simp; try (with_reducible rfl))); (· (simp only [List.getElem_toArray, List.getElem_cons_zero, List.getElem_cons_succ, Act.put, List.setIfInBounds_toArray, List.set_cons_zero, List.set_cons_succ]; exact rfl))))
          refine takeY_nil ?_
          refine gC_end [9] (lB := [_]) (by simp) (by kernel_rfl) (by kernel_rfl) rfl ?_
          obtain ⟨d0, d1, d2⟩ := zq4.three
          have e0 := zq4.frozen 0
          have e1 := zq4.frozen 1
          have e2 := zq4.frozen 2
          have szl := zq4.lt
          have szb : wx.heap.size ≤ q0.heap.size := by first | exact bq0.size | exact bq0.size
          have sxx := bx.size
          have hgb : wx.heap.size ≤ g := by have := bq3.size; omega
          have hgz : g ≠ q0.heap.size := by omega
          have hnz : ¬ ((p q0.heap.size ∨ q3.heap.size ≤ q0.heap.size) ∧ q0.heap.size < q4.heap.size ∧ q0.heap.size ≠ g) := by
            rintro ⟨h | h, h2, -⟩
            · have := hpw _ h; omega
            · omega
          go_wp2_with fail
          go_meet
          exact ⟨q0.heap.size, g, c7, _, rfl, ((zq4.set_ 0 _).set_ 1 _).set_ 2 _, ((hRq4.setCell (a := ⟨q0.heap.size, 0, none⟩) hnz hgz _).setCell (a := ⟨q0.heap.size, 1, none⟩) hnz hgz _).setCell (a := ⟨q0.heap.size, 2, none⟩) hnz hgz _, (fun h => h.2.2 rfl), (fun b hb => hb.1.imp id fun h => Nat.le_trans (by have := bq3.size; omega) h), ((bq4.setCell (by simp <;> omega) _).setCell (by simp <;> omega) _).setCell (by simp <;> omega) _, szb, hgb, hgz⟩
    case rest =>
      obtain ⟨g7, g, c7, q, rfl, hT7, hRow, hqg, hqp, hxy, hg7, hg, hgne⟩ := hcut
      clear g0 g1 g2
      go_upto_region 4 with fail
      refine name_world ?_
      intro wy hwy
      subst hwy
      have sxy := hxy.size
      have by_ : Below w.heap.size w wy := bx.trans (hxy.mono bx.size)
      have h0y := h0x.keep hxy
      have h1y := h1x.keep hxy
      have h2y := h2x.keep hxy
      have ruy := hru.below by_
      have r3y := hr3.below by_
      have hiy := hti.below by_
      have g0 := rule_of h0y.three.1
      have g1 := rule_of h0y.three.2.1
      have g2 := rule_of h0y.three.2.2
      have v0 := rule_of h1y.three.1
      have v1 := rule_of h1y.three.2.1
      have v2 := rule_of h1y.three.2.2
      have u0' := rule_of hT7.three.1
      have u1' := rule_of hT7.three.2.1
      have u2' := rule_of hT7.three.2.2
      have y0 := rule_of ((Keeps.of_below by_) _ _ hc1)
      have y1 := rule_of ((Keeps.of_below by_) _ _ hc2)
      have y2 := rule_of ((Keeps.of_below by_) _ _ hc3)
      have p0 := rule_of ((Keeps.of_below by_) _ _ hp0)
      have htk := hide (fun w => ht w)
      clear hc1 hc2 hc3 hp0
      refine wp_region_firstY (fun w' => Below wy.heap.size wy w') [0, 1, 2, 3, 4, 5, 6, 7, 8, 9, 10, 11, 12, 13, 14] [15] [16, 17] [_, _, _, _, _, _, _, _, _, _, _, _, _, _, _] [_] [_, _] (by kernel_rfl) (by kernel_rfl) rfl rfl rfl (fun _ _ d _ _ h => by cases d <;> exact h) (Below.refl _ _).drew ?_
      repeat (first | ((refine takeY_skip (a' := ?_) ?_ ?_ ?_); (rotate_left); (· (simp [Region.wanted, yielded, Go.undef]; done)); (· (simp only [List.getElem_toArray, List.getElem_cons_zero, List.getElem_cons_succ, Act.put, List.setIfInBounds_toArray, List.set_cons_zero, List.set_cons_succ]; exact rfl))) | ((refine takeY_step (v := ?_) (a' := ?_) ?_ ?_ ?_ ?_); (rotate_left 2); (· (simp [Region.wanted, yielded, Go.undef]; done)); (· (intro w' hS'; go_simp; try (with_reducible rfl))); (· (simp only [List.getElem_toArray, List.getElem_cons_zero, List.getElem_cons_succ, Act.put, List.setIfInBounds_toArray, List.set_cons_zero, List.set_cons_succ]; exact rfl))))
      refine takeY_nil (then_cons ?_)
      clear g0 g1 g2 v0 v1 v2 y0 y1 y2 p0 ht u0' u1' u2'
      have lg7 := hT7.lt
      have lg := hRow.1.lt
      go_wp2_with (go_at_call 100; refine (iPut_any p ku nu us hus is k3 n3 ks3 A3 c3 (some ⟨b, off', none⟩) (cp - 1) U cu wy.drew u0 h1'.out (by omega) (by omega) r3y.drew (hiy.below (Below.refl _ _).drew) ruy.drew (fun b hb => by have := hpw b hb; show b < wy.heap.size; omega)).mono ?_; rw [hput'.out]; intro e w1 hgo; obtain ⟨A1, c1, rfl, hl1, hq1, hb1⟩ := gotQ_mk hgo; have b1 : Below wy.heap.size wy w1 := (Below.refl _ _).drew.trans hb1)
      refine mid_intro b1 (then_nil ?_)
      have s1 := b1.size
      have hT7a := hT7.keep b1
      have h2a := h2y.keep b1
      have hRow1 := hRow.below b1
      obtain ⟨a0, ha0⟩ := hRow1.1.cell (j := i * 3) (by omega)
      obtain ⟨a1, ha1⟩ := hRow1.1.cell (j := i * 3 + 1) (by omega)
      obtain ⟨a2, ha2⟩ := hRow1.1.cell (j := i * 3 + 2) (by omega)
      have z0 := hRow1.1.frozen (i * 3)
      have z1 := hRow1.1.frozen (i * 3 + 1)
      have z2 := hRow1.1.frozen (i * 3 + 2)
      have q1 : ¬ (fun b => p b ∨ wy.heap.size ≤ b) g := by rintro (h | h); have := hpw _ h; have := bx.size; omega; omega
      have hfin := hRow1.1.set hqg hik (cu := c1) hl1 hq1 q1 (r := fun b => p b ∨ wx.heap.size ≤ b) (fun b hb => hqp b hb) (fun b hb => hb.imp id fun h => Nat.le_trans sxy h) (.inr hg) (ku := pk) (nu := pn)
      obtain ⟨t0, t1, t2⟩ := hT7a.three
      obtain ⟨d0, d1, d2⟩ := h2a.three
      have e0 := h2a.frozen 0
      have e1 := h2a.frozen 1
      have e2 := h2a.frozen 2
      have sx0 := bx.size
      have n1 : g ≠ w.heap.size + 1 + 1 := by omega
      have n2 : g7 ≠ w.heap.size + 1 + 1 := by omega
      go_wp2_with fail
      have hnr : ∀ o, ¬ (fun b => p b ∨ wx.heap.size ≤ b) (⟨w.heap.size + 1 + 1, o, none⟩ : Addr).block := by
        rintro o (h | h)
        · have := hpw _ h; simp at this; omega
        · simp at h; omega
      refine bodyPost_ret (v := .agg #[.int .i64 k, .int .i64 n, .slice (some ⟨g, 0, none⟩) ks.length c7]) (by simp [results, Tryz.results100, go_sem, d0, d1, d2, n1, n2]) rfl ?_
      rw [hres'.out]
      refine ⟨some ⟨g, 0, none⟩, c7, by simp [Tm.ks, Tm.k, Tm.n], by simp [Tm.ks]; omega, ?_, ?_⟩
      · exact (((hfin.setCell (hnr 0) _).setCell (hnr 1) _).setCell (hnr 2) _).mono (fun b h => h.imp id fun h => by omega)
      · have hbb := by_.trans (b1.mono by_.size)
        exact (((((hbb.setCell (by simp; omega) _).setCell (by simp; omega) _).setCell (by simp; omega) _).setCell (by simp; omega) _).setCell (by simp; omega) _).setCell (by simp; omega) _
open Go.RowKit
theorem validT_shape {t : Tm} (h : validT t = true) : shape 30 t = true := by simp only [validT, Bool.and_eq_true] at h; exact h.1
theorem validT_arity {k n : Int} {ks : List Tm} (h : validT (.mk k n ks) = true) : arity k = (ks.length : Int) ∧ 0 ≤ n ∧ n ≤ mostN k := by
  have := (shape_split 29 k n ks).1 (validT_shape h)
  exact ⟨this.1, this.2.1, this.2.2.1⟩
theorem len1 {α : Type} : ∀ {l : List α}, l.length = 1 → ∃ a, l = [a]
  | [a], _ => ⟨a, rfl⟩
theorem len2 {α : Type} : ∀ {l : List α}, l.length = 2 → ∃ a b, l = [a, b]
  | [a, b], _ => ⟨a, b, rfl⟩
theorem len3 {α : Type} : ∀ {l : List α}, l.length = 3 → ∃ a b c, l = [a, b, c]
  | [a, b, c], _ => ⟨a, b, c, rfl⟩
theorem len4 {α : Type} : ∀ {l : List α}, l.length = 4 → ∃ a b c d, l = [a, b, c, d]
  | [a, b, c, d], _ => ⟨a, b, c, d, rfl⟩
theorem rdx_inv {k : Int} {ks : List Tm} (h : rdx k ks ≠ 0) :
    (rdx k ks = 1 ∧ k = 5 ∧ kat ks 0 = 4) ∨ (rdx k ks = 2 ∧ k = 9 ∧ kat ks 3 = 7) ∨ (rdx k ks = 3 ∧ k = 9 ∧ kat ks 3 = 8) ∨ (rdx k ks = 4 ∧ k = 12 ∧ kat ks 1 = 11) ∨ (rdx k ks = 5 ∧ k = 15 ∧ kat ks 0 = 14) ∨ (rdx k ks = 6 ∧ k = 16 ∧ kat ks 0 = 14) := by
  unfold rdx at h ⊢
  by_cases h5 : k = 5
  · rw [if_pos h5] at h ⊢
    by_cases h4 : kat ks 0 = 4
    · exact .inl ⟨by rw [if_pos h4], h5, h4⟩
    · rw [if_neg h4] at h; exact absurd rfl h
  rw [if_neg h5] at h ⊢
  by_cases h9 : k = 9
  · rw [if_pos h9] at h ⊢
    by_cases h7 : kat ks 3 = 7
    · exact .inr (.inl ⟨by rw [if_pos h7], h9, h7⟩)
    · rw [if_neg h7] at h ⊢
      by_cases h8 : kat ks 3 = 8
      · exact .inr (.inr (.inl ⟨by rw [if_pos h8], h9, h8⟩))
      · rw [if_neg h8] at h; exact absurd rfl h
  rw [if_neg h9] at h ⊢
  by_cases h12 : k = 12
  · rw [if_pos h12] at h ⊢
    by_cases h4 : kat ks 1 = 11
    · exact .inr (.inr (.inr (.inl ⟨by rw [if_pos h4], h12, h4⟩)))
    · rw [if_neg h4] at h; exact absurd rfl h
  rw [if_neg h12] at h ⊢
  by_cases h15 : k = 15
  · rw [if_pos h15] at h ⊢
    by_cases h4 : kat ks 0 = 14
    · exact .inr (.inr (.inr (.inr (.inl ⟨by rw [if_pos h4], h15, h4⟩))))
    · rw [if_neg h4] at h; exact absurd rfl h
  rw [if_neg h15] at h ⊢
  by_cases h16 : k = 16
  · rw [if_pos h16] at h ⊢
    by_cases h4 : kat ks 0 = 14
    · exact .inr (.inr (.inr (.inr (.inr ⟨by rw [if_pos h4], h16, h4⟩))))
    · rw [if_neg h4] at h; exact absurd rfl h
  rw [if_neg h16] at h
  exact absurd rfl h
section
variable {w : World} {g : Nat} {k0 n0 k1 n1 k2 n2 k3 n3 : Int} {s0 s1 s2 s3 : List Tm} {A0 A1 A2 A3 : Option Addr} {c0 c1 c2 c3 : Nat}
theorem rd_row1 (hB : Blk w g #[.int .i64 k0, .int .i64 n0, .slice A0 s0.length c0]) (l0 : s0.length ≤ 9223372036854775807) (r0 : Rd w A0 0 s0) : Rd w (some ⟨g, 0, none⟩) 0 [.mk k0 n0 s0] :=
  Rd.cons_iff.2 ⟨⟨g, 0, rfl, RdC.iff.2 ⟨hB.at_ (i := 0) rfl, hB.at_ (i := 1) rfl, A0, c0, hB.at_ (i := 2) rfl, l0, r0⟩⟩, Rd.nil⟩
theorem rd_row2 (hB : Blk w g #[.int .i64 k0, .int .i64 n0, .slice A0 s0.length c0, .int .i64 k1, .int .i64 n1, .slice A1 s1.length c1]) (l0 : s0.length ≤ 9223372036854775807) (l1 : s1.length ≤ 9223372036854775807) (r0 : Rd w A0 0 s0) (r1 : Rd w A1 0 s1) : Rd w (some ⟨g, 0, none⟩) 0 [.mk k0 n0 s0, .mk k1 n1 s1] :=
  Rd.cons_iff.2 ⟨⟨g, 0, rfl, RdC.iff.2 ⟨hB.at_ (i := 0) rfl, hB.at_ (i := 1) rfl, A0, c0, hB.at_ (i := 2) rfl, l0, r0⟩⟩,
    Rd.cons_iff.2 ⟨⟨g, 0, rfl, RdC.iff.2 ⟨hB.at_ (i := 3) rfl, hB.at_ (i := 4) rfl, A1, c1, hB.at_ (i := 5) rfl, l1, r1⟩⟩, Rd.nil⟩⟩
theorem rd_row3 (hB : Blk w g #[.int .i64 k0, .int .i64 n0, .slice A0 s0.length c0, .int .i64 k1, .int .i64 n1, .slice A1 s1.length c1, .int .i64 k2, .int .i64 n2, .slice A2 s2.length c2]) (l0 : s0.length ≤ 9223372036854775807) (l1 : s1.length ≤ 9223372036854775807) (l2 : s2.length ≤ 9223372036854775807) (r0 : Rd w A0 0 s0) (r1 : Rd w A1 0 s1) (r2 : Rd w A2 0 s2) : Rd w (some ⟨g, 0, none⟩) 0 [.mk k0 n0 s0, .mk k1 n1 s1, .mk k2 n2 s2] :=
  Rd.cons_iff.2 ⟨⟨g, 0, rfl, RdC.iff.2 ⟨hB.at_ (i := 0) rfl, hB.at_ (i := 1) rfl, A0, c0, hB.at_ (i := 2) rfl, l0, r0⟩⟩,
    Rd.cons_iff.2 ⟨⟨g, 0, rfl, RdC.iff.2 ⟨hB.at_ (i := 3) rfl, hB.at_ (i := 4) rfl, A1, c1, hB.at_ (i := 5) rfl, l1, r1⟩⟩,
    Rd.cons_iff.2 ⟨⟨g, 0, rfl, RdC.iff.2 ⟨hB.at_ (i := 6) rfl, hB.at_ (i := 7) rfl, A2, c2, hB.at_ (i := 8) rfl, l2, r2⟩⟩, Rd.nil⟩⟩⟩
theorem rd_row4 (hB : Blk w g #[.int .i64 k0, .int .i64 n0, .slice A0 s0.length c0, .int .i64 k1, .int .i64 n1, .slice A1 s1.length c1, .int .i64 k2, .int .i64 n2, .slice A2 s2.length c2, .int .i64 k3, .int .i64 n3, .slice A3 s3.length c3]) (l0 : s0.length ≤ 9223372036854775807) (l1 : s1.length ≤ 9223372036854775807) (l2 : s2.length ≤ 9223372036854775807) (l3 : s3.length ≤ 9223372036854775807) (r0 : Rd w A0 0 s0) (r1 : Rd w A1 0 s1) (r2 : Rd w A2 0 s2) (r3 : Rd w A3 0 s3) : Rd w (some ⟨g, 0, none⟩) 0 [.mk k0 n0 s0, .mk k1 n1 s1, .mk k2 n2 s2, .mk k3 n3 s3] :=
  Rd.cons_iff.2 ⟨⟨g, 0, rfl, RdC.iff.2 ⟨hB.at_ (i := 0) rfl, hB.at_ (i := 1) rfl, A0, c0, hB.at_ (i := 2) rfl, l0, r0⟩⟩,
    Rd.cons_iff.2 ⟨⟨g, 0, rfl, RdC.iff.2 ⟨hB.at_ (i := 3) rfl, hB.at_ (i := 4) rfl, A1, c1, hB.at_ (i := 5) rfl, l1, r1⟩⟩,
    Rd.cons_iff.2 ⟨⟨g, 0, rfl, RdC.iff.2 ⟨hB.at_ (i := 6) rfl, hB.at_ (i := 7) rfl, A2, c2, hB.at_ (i := 8) rfl, l2, r2⟩⟩,
    Rd.cons_iff.2 ⟨⟨g, 0, rfl, RdC.iff.2 ⟨hB.at_ (i := 9) rfl, hB.at_ (i := 10) rfl, A3, c3, hB.at_ (i := 11) rfl, l3, r3⟩⟩, Rd.nil⟩⟩⟩⟩
end
section
variable {P : Program} {ops : Array Oper} {Q : Exit → Act → World → Prop} {S : World → Prop} {B : List Nat}
theorem gC_three {i j m : Nat} {l : Array Bool} {a : Act} {w : World} {f : Nat} {o o2 o3 : Oper} (hr : Region.ready .any ops l = [i, j, m]) (ho : ops[i]? = some o) (ho2 : ops[j]? = some o2) (ho3 : ops[m]? = some o3)
    (h : wpList P ops (Mid S (gC P ops Q S B f (l.setIfInBounds i true)) Q) [o] a w) (h2 : wpList P ops (Mid S (gC P ops Q S B f (l.setIfInBounds j true)) Q) [o2] a w) (h3 : wpList P ops (Mid S (gC P ops Q S B f (l.setIfInBounds m true)) Q) [o3] a w) : gC P ops Q S B (f + 1) l a w := by
  refine gC_any (by rw [hr]; simp) fun i' hi o' ho' => ?_
  rw [hr] at hi
  simp only [List.mem_cons, List.not_mem_nil, or_false] at hi
  rcases hi with rfl | rfl | rfl
  · rw [ho] at ho'
    injection ho' with ho'
    subst ho'
    exact h
  · rw [ho2] at ho'
    injection ho' with ho'
    subst ho'
    exact h2
  · rw [ho3] at ho'
    injection ho' with ho'
    subst ho'
    exact h3
theorem gC_four {i j m q : Nat} {l : Array Bool} {a : Act} {w : World} {f : Nat} {o o2 o3 o4 : Oper} (hr : Region.ready .any ops l = [i, j, m, q]) (ho : ops[i]? = some o) (ho2 : ops[j]? = some o2) (ho3 : ops[m]? = some o3) (ho4 : ops[q]? = some o4)
    (h : wpList P ops (Mid S (gC P ops Q S B f (l.setIfInBounds i true)) Q) [o] a w) (h2 : wpList P ops (Mid S (gC P ops Q S B f (l.setIfInBounds j true)) Q) [o2] a w) (h3 : wpList P ops (Mid S (gC P ops Q S B f (l.setIfInBounds m true)) Q) [o3] a w) (h4 : wpList P ops (Mid S (gC P ops Q S B f (l.setIfInBounds q true)) Q) [o4] a w) : gC P ops Q S B (f + 1) l a w := by
  refine gC_any (by rw [hr]; simp) fun i' hi o' ho' => ?_
  rw [hr] at hi
  simp only [List.mem_cons, List.not_mem_nil, or_false] at hi
  rcases hi with rfl | rfl | rfl | rfl
  · rw [ho] at ho'
    injection ho' with ho'
    subst ho'
    exact h
  · rw [ho2] at ho'
    injection ho' with ho'
    subst ho'
    exact h2
  · rw [ho3] at ho'
    injection ho' with ho'
    subst ho'
    exact h3
  · rw [ho4] at ho'
    injection ho' with ho'
    subst ho'
    exact h4
end
open Go.RowKit
set_option maxHeartbeats 1000000 in
set_option maxRecDepth 100000 in
theorem own_any (N : Nat) : ∀ (k n : Int) (ks : List Tm) (A : Option Addr) (c : Nat) (w : World), sizes ks < N → sizes ks ≤ 1099511627776 → Rd w A 0 ks →
    Calls Tryz.prog 73 #[.agg #[.int .i64 k, .int .i64 n, .slice A ks.length c]] w (GotT w k n ks) := by
  induction N with
  | zero => intro k n ks A c w hN; exact absurd hN (Nat.not_lt_zero _)
  | succ N ih =>
  intro k n ks A c w hN hM hr
  have hlen := length_le_sizes ks
  go_enter Tryz.func73, Tryz.ntmps73
  go_wp2_with fail
  go_loopw [14] (fun i wr => ∃ (j : Nat) (v : Value), j ≤ ks.length ∧ i = .int .i64 j ∧ Part (w.heap.size + 3) wr v (ks.take j) ∧ Blk wr (w.heap.size + 1 + 1) #[.int .i64 k, .int .i64 n, v] ∧ Blk wr (w.heap.size + 1) #[.int .i64 0, .int .i64 0, .slice none 0 0] ∧ Below w.heap.size w wr)
    (fun i _ => ks.length - (intOf i).toNat)
  case atStart => exact ⟨0, _, Nat.zero_le _, rfl, Part.nil, Blk.new_ _ _ _ (by simp), (Blk.new_ _ _ _ (by simp)).alloc _, (((Below.refl _ _).alloc (by simp) _).alloc (by simp) _).alloc (by simp; omega) _⟩
  case round =>
    obtain ⟨j, v, hj, rfl, hp, hB3, hB2, hb⟩ := hrel
    by_cases hlt : j < ks.length
    · obtain ⟨b, off, k', n', ks', A', c', rfl, hkj, hc1, hc2, hc3, hl', hr'⟩ := (hr.below hb).at_ hlt
      have hbl := World.block_lt_of_cell? _ _ hc1
      have hsz := sizes_le (List.getElem_mem hlt)
      rw [hkj] at hsz
      simp only [Tm.size] at hsz
      have H3 := hide hkj
      clear hkj
      have hz := hB3.lt
      have c2 : wr.cell? ⟨w.heap.size + 1 + 1, 2, none⟩ = some v := hB3.at_ rfl
      go_wp2_with fail
      refine name_world ?_
      intro wx hwx
      have hXB : Blk wx wr.heap.size #[.int .i64 k', .int .i64 n', .slice A' ks'.length c'] := by rw [hwx]; exact Blk.new_ _ _ _ rfl
      have hpx : Part (w.heap.size + 3) wx v (ks.take j) := by rw [hwx]; exact hp.alloc _
      have hrx : Rd wx A' 0 ks' := by rw [hwx]; exact hr'.alloc _
      have hB3x : Blk wx (w.heap.size + 1 + 1) #[.int .i64 k, .int .i64 n, v] := by rw [hwx]; exact hB3.alloc _
      have hB2x : Blk wx (w.heap.size + 1) #[.int .i64 0, .int .i64 0, .slice none 0 0] := by rw [hwx]; exact hB2.alloc _
      have hbx : Below w.heap.size w wx := by rw [hwx]; exact hb.alloc hb.size _
      have hs1 : wr.heap.size < wx.heap.size := by rw [hwx]; simp
      have hs2 : w.heap.size + 1 + 1 < wx.heap.size := by omega
      have x2 := hB3x.rule (i := 2) rfl
      have y0 := hXB.rule (i := 0) rfl
      have y1 := hXB.rule (i := 1) rfl
      have y2 := hXB.rule (i := 2) rfl
      clear hwx
      refine wp_region_first (fun w' => Below wx.heap.size wx w') [0, 1, 2] [3, 4] [5, 6, 7] [_, _, _] [_, _] [_, _, _] (by kernel_rfl) (by kernel_rfl) rfl rfl rfl (fun _ _ d _ _ h => by cases d <;> exact h) (Below.refl _ _).drew ?_
      repeat (first | ((refine take_skip (a' := ?_) ?_ ?_ ?_); (rotate_left); (· (simp [Region.wanted, yielded]; done)); (· (simp only [Act.put, List.setIfInBounds_toArray, List.set_cons_zero, List.set_cons_succ]; exact rfl))) | ((refine take_step (v := ?_) (a' := ?_) ?_ ?_ ?_ ?_); (rotate_left 2); (· (simp [Region.wanted, yielded]; done)); (· (intro w' hS'; go_simp; try (with_reducible rfl))); (· (simp only [Act.put, List.setIfInBounds_toArray, List.set_cons_zero, List.set_cons_succ]; exact rfl))))
      refine take_nil (then_cons ?_)
      go_wp2_with (go_at_call 73; refine (ih k' n' ks' A' c' _ (by omega) (by omega) hrx.drew).mono ?_; rintro e w1 ⟨A1, c1, rfl, hl1, hf1, hb1⟩)
      have hx1 : Below wx.heap.size wx w1 := (Below.refl wx.heap.size wx).drew.trans hb1
      refine mid_intro hx1 (then_cons ?_)
      go_wp2_with fail
      refine mid_intro (hx1.alloc hx1.size _) (then_nil ?_)
      refine wpList_append_built (B := w.heap.size + 3) (m := j) hpx.drew hb1 (by simp; omega) hf1 hl1 (by simp; omega) (by omega) rfl (.tmp 19) (.tmp 22) rfl rfl rfl ?_
      intro A2 c2 w2 hp2 hb2 hg2
      have q3 : Blk w2 (w.heap.size + 1 + 1) #[.int .i64 k, .int .i64 n, v] := (hB3x.below hx1 (by omega)).below hb2 (by omega)
      have q2 : Blk w2 (w.heap.size + 1) #[.int .i64 0, .int .i64 0, .slice none 0 0] := (hB2x.below hx1 (by omega)).below hb2 (by omega)
      have c3 : w2.cell? ⟨w.heap.size + 1 + 1, 2, none⟩ = some v := q3.at_ rfl
      have z3 := q3.frozen 2
      have hbf : Below w.heap.size w w2 := (hbx.trans (hx1.mono (by omega))).trans (hb2.mono (by omega))
      clear x2 y0 y1 y2 hpx hrx hB3x hB2x hbx
      go_wp2_with fail
      go_roundw
      case rel => exact ⟨j + 1, _, by omega, by go_num, by rw [List.take_succ_eq_append_getElem hlt, H3.out]; exact hp2.setCell (by simp) _, q3.set_ 2 _, q2.far (by simp) _, hbf.setCell (by simp; omega) _⟩
      case measure => simp [intOf]; omega
    · have hjl : j = ks.length := by omega
      subst hjl
      rw [List.take_length] at hp
      obtain ⟨Ar, cr, rfl, hfr⟩ := hp.fresh
      have c0 : wr.cell? ⟨w.heap.size + 1 + 1, 0, none⟩ = some (.int .i64 k) := hB3.at_ rfl
      have c1 : wr.cell? ⟨w.heap.size + 1 + 1, 1, none⟩ = some (.int .i64 n) := hB3.at_ rfl
      have c2 : wr.cell? ⟨w.heap.size + 1 + 1, 2, none⟩ = some (.slice Ar ks.length cr) := hB3.at_ rfl
      have d0 : wr.cell? ⟨w.heap.size + 1, 0, none⟩ = some (.int .i64 0) := hB2.at_ rfl
      have d1 : wr.cell? ⟨w.heap.size + 1, 1, none⟩ = some (.int .i64 0) := hB2.at_ rfl
      have d2 : wr.cell? ⟨w.heap.size + 1, 2, none⟩ = some (.slice none 0 0) := hB2.at_ rfl
      have e0 := hB2.frozen 0
      have e1 := hB2.frozen 1
      have e2 := hB2.frozen 2
      go_wp2_with fail
      refine bodyPost_ret (v := .agg #[.int .i64 k, .int .i64 n, .slice Ar ks.length cr]) (by simp [results, Tryz.results73, go_sem, d0, d1, d2]) rfl ⟨Ar, cr, rfl, by omega, ?_, ?_⟩
      · exact (((hfr.setCell (by simp) _).setCell (by simp) _).setCell (by simp) _).mono (by omega)
      · exact ((hb.setCell (by simp) _).setCell (by simp) _).setCell (by simp) _
end Go.Proofs.YthgmofdfecioaaaGreatDoor
