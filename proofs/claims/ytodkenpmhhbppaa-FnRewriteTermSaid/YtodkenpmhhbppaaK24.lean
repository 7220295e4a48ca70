/-
  Contracts of the functions that the law reaches, and plain lemmas. No condition.
-/
import Derived.Test.YtodkenpmhhbppaaK12
import Derived.Test.YtodkenpmhhbppaaK20
import Derived.Test.YtodkenpmhhbppaaK23
import Derived.Deep.DeepCutAuto
namespace Go.Proofs.Ytodkenpmhhbppaa
set_option linter.unusedSimpArgs false
set_option linter.unusedVariables false
open Go.RowKit
theorem name_midw {S : World → Prop} {K : Act → World → Prop} {Q : Exit → Act → World → Prop} {a : Act} {w : World} (h : ∀ wx, wx = w → Mid S K Q .normal a wx) : Mid S K Q .normal a w := h w rfl
/-- a term that can be read -/
def GotQ (p : Nat → Prop) (w : World) (t : Tm) (e : Ending) (w' : World) : Prop :=
  ∃ A c, e = .returned (.agg #[.int .i64 t.k, .int .i64 t.n, .slice A t.ks.length c]) ∧ t.ks.length ≤ 9223372036854775807 ∧ RdP (fun b => p b ∨ w.heap.size ≤ b) w' A 0 t.ks ∧ Below w.heap.size w w'
theorem gotQ_mk {p : Nat → Prop} {w : World} {k n : Int} {ks : List Tm} {e : Ending} {w' : World} (h : GotQ p w (.mk k n ks) e w') : ∃ A c, e = .returned (.agg #[.int .i64 k, .int .i64 n, .slice A ks.length c]) ∧ ks.length ≤ 9223372036854775807 ∧ RdP (fun b => p b ∨ w.heap.size ≤ b) w' A 0 ks ∧ Below w.heap.size w w' := h
theorem run_tailX {b off cp : Nat} {is : List Int} {x : Int} {w0 : World} (hcp : is.length + 1 ≤ cp) (hi : RdI w0 (some ⟨b, off, none⟩) (x :: is)) :
    ∃ off', (∀ w, (Instr.sliceAt 73 (.slice (some ⟨b, off, none⟩) (is.length + 1) cp) (some (.int .i64 1)) none none).run Try.prog w = .ok (.slice (some ⟨b, off', none⟩) is.length (cp - 1)) w) ∧ RdI w0 (some ⟨b, off', none⟩) is := by
  have hu : Try.prog.underlying 73 = some (.slice (Try.prog.elem 73)) := by kernel_rfl
  have he : Try.prog.elem 73 = 3 := by kernel_rfl
  have hs : ∀ w, (sizeOf 3).run Try.prog w = .ok 1 w := fun w => by kernel_rfl
  refine ⟨if cp = 1 then off else off + 1, fun w => ?_, fun j hj => ?_⟩
  · rw [run_sliceAt_slice (t := 73) (h := hu), run_slice_l (t := 73) (ht := hu) (h0 := by omega) (h1 := by omega), he, hs]
    simp only [Result.andThen, sliced]
    by_cases h : cp = 1
    · simp [h]
    · simp [h, Addr.add]
  · obtain ⟨b1, off1, hA, hc⟩ := hi (j + 1) (by simpa using hj)
    injection hA with hA
    injection hA with e1 e2
    subst e1 e2
    refine ⟨_, _, rfl, ?_⟩
    rw [if_neg (by omega)]
    rw [show off + 1 + j = off + (j + 1) from by omega]
    simpa using hc
set_option maxHeartbeats 8000000 in
set_option maxRecDepth 100000 in
theorem iPut_any (p : Nat → Prop) (ku nu : Int) (us : List Tm) (hus : sizes us ≤ 1000000) : ∀ (xs : List Int) (k n : Int) (ks : List Tm) (A : Option Addr) (c : Nat) (P : Option Addr) (cp : Nat) (U : Option Addr) (cu : Nat) (w : World) (u0 : Tm), atT (.mk k n ks) xs = some u0 → xs.length ≤ cp → sizes ks ≤ 1000000 → RdP p w A 0 ks → RdI w P xs → RdP p w U 0 us → (∀ b, p b → b < w.heap.size) →
    Calls Try.prog 95 #[.agg #[.int .i64 k, .int .i64 n, .slice A ks.length c], .slice P xs.length cp, .agg #[.int .i64 ku, .int .i64 nu, .slice U us.length cu]] w (GotQ p w (putN (.mk k n ks) xs (.mk ku nu us)))
  | [], k, n, ks, A, c, P, cp, U, cu, w, u0, h, hcp, hM, hr, hi, hru, hpw => by
    have hlu := length_le_sizes us
    rw [putN]
    go_enter Try.func95, Try.ntmps95
    go_wp2_with fail
    refine bodyPost_ret (v := .agg #[.int .i64 ku, .int .i64 nu, .slice U us.length cu]) (by simp [results, Try.results95, go_sem]) rfl ⟨U, cu, rfl, by simp [Tm.ks]; omega, ?_, ?_⟩
    · exact (((hru.alloc _).alloc _).alloc _).mono (fun b h => Or.inl h)
    · exact (((Below.refl _ _).alloc (Nat.le_refl _) _).alloc (by simp) _).alloc (by simp; omega) _
  | x :: is, k, n, ks, A, c, P, cp, U, cu, w, u0, h, hcp, hM, hr, hi, hru, hpw => by
    have hlen := length_le_sizes ks
    have hlu := length_le_sizes us
    rw [atT] at h
    split at h
    case isFalse => cases h
    rename_i hh
    have hx2 : x < ks.length := hh.2
    obtain ⟨i, rfl⟩ : ∃ i : Nat, x = (i : Int) := ⟨x.toNat, by omega⟩
    have hik : i < ks.length := by omega
    have h0 := hide h
    clear h hh
    obtain ⟨b3, o3, k3, n3, ks3, A3, c3, rfl, hkj, hc1, hc2, hc3, hl3, hr3⟩ := hr.at_ hik
    have hsz := sizes_le (List.getElem_mem hik)
    rw [hkj] at hsz
    simp only [Tm.size] at hsz
    have e3 : ks.getD (i : Int).toNat default = .mk k3 n3 ks3 := by rw [Int.toNat_natCast, List.getD_eq_getElem?_getD, List.getElem?_eq_getElem hik, Option.getD_some, hkj]
    have h1 : atT (.mk k3 n3 ks3) is = some u0 := by have := h0.out; rw [show (Tm.mk k n ks).kids = ks from rfl, e3] at this; exact this
    have h1' := hide h1
    obtain ⟨b, off, rfl, hp0⟩ := hi 0 (by simp)
    obtain ⟨off', ht, hti⟩ := run_tailX (by simpa using hcp) hi
    simp only [List.getElem_cons_zero, Nat.add_zero] at hp0
    obtain ⟨pk, pn, pks, hput⟩ : ∃ pk pn pks, putN (.mk k3 n3 ks3) is (.mk ku nu us) = .mk pk pn pks := by cases putN (.mk k3 n3 ks3) is (.mk ku nu us) with | mk a b c => exact ⟨a, b, c, rfl⟩
    have hput' := hide hput
    have hres : putN (.mk k n ks) ((i : Int) :: is) (.mk ku nu us) = .mk k n (ks.set i (.mk pk pn pks)) := by rw [putN, e3, hput, Int.toNat_natCast]
    have hres' := hide hres
    have hcp' : is.length + 1 ≤ cp := by simpa using hcp
    have q3 : (((is.length : Nat) : Int) + 1 == 0) = false := by simp; omega
    have q4 : (0 : Int) < ((is.length : Nat) : Int) + 1 := by omega
    have hlk : (i : Int) < (ks.length : Int) := by omega
    clear h1 hput hres e3 hkj hx2
    rw [List.length_cons]
    go_enter Try.func95, Try.ntmps95
    go_wp2_with fail
    refine name_world ?_
    intro wx hwx
    have h0x : Blk wx w.heap.size #[.int .i64 k, .int .i64 n, .slice (some ⟨b3, o3, none⟩) ks.length c] := by rw [hwx]; exact ((Blk.new_ _ 25 _ rfl).alloc _).alloc _
    have h1x : Blk wx (w.heap.size + 1) #[.int .i64 ku, .int .i64 nu, .slice U us.length cu] := by rw [hwx]; exact (Blk.new_ _ 25 _ (by simp)).alloc _
    have h2x : Blk wx (w.heap.size + 1 + 1) #[.int .i64 0, .int .i64 0, .slice none 0 0] := by rw [hwx]; exact Blk.new_ _ 25 _ (by simp)
    have bx : Below w.heap.size w wx := by rw [hwx]; exact (((Below.refl _ _).alloc (Nat.le_refl _) _).alloc (by simp) _).alloc (by simp; omega) _
    have lx := h2x.lt
    clear hwx
    have rx := hr.below bx
    have g0 := rule_of h0x.three.1
    have g1 := rule_of h0x.three.2.1
    have g2 := rule_of h0x.three.2.2
    go_cut [7] (fun s7 wy => ∃ (g7 g c7 : Nat) (q : Nat → Prop), s7 = .pointer (some ⟨g7, 0, none⟩) ∧ Blk wy g7 #[.int .i64 k, .int .i64 n, .slice (some ⟨g, 0, none⟩) ks.length c7] ∧ RowT q wy g ks ∧ ¬ q g ∧ (∀ b, q b → p b ∨ wx.heap.size ≤ b) ∧ Below wx.heap.size wx wy ∧ wx.heap.size ≤ g7 ∧ wx.heap.size ≤ g ∧ g ≠ g7)
    case first =>
      obtain ⟨q0, hq0⟩ : ∃ q0, q0 = wx.drew := ⟨_, rfl⟩
      have bq0 : Below wx.heap.size wx q0 := by rw [hq0]; exact (Below.refl _ _).drew
      refine gC_start (fun w' => Below wx.heap.size wx w') [7, 9] 10 (by kernel_rfl) rfl ?_
      refine gC_take [0, 1, 2, 3, 4, 5] (f := 4) (l' := #[true, true, true, true, true, true, false, false, false, false]) (lT := [_, _, _, _, _, _]) (by rw [← hq0]; exact bq0) rfl (by kernel_rfl) (by kernel_rfl) (by kernel_rfl) rfl (fun _ _ d _ _ h => by cases d <;> exact h) ?_
      repeat (first | ((refine takeY_skip (a' := ?_) ?_ ?_ ?_); (rotate_left); (· (simp [Region.wanted, yielded, Go.undef]; done)); (· (simp only [List.getElem_toArray, List.getElem_cons_zero, List.getElem_cons_succ, Act.put, List.setIfInBounds_toArray, List.set_cons_zero, List.set_cons_succ]; exact rfl))) | ((refine takeY_step (v := ?_) (a' := ?_) ?_ ?_ ?_ ?_); (rotate_left 2); (· (simp [Region.wanted, yielded, Go.undef]; done)); (· (intro w' hS'; go_simp; try (with_reducible rfl))); (· (simp only [List.getElem_toArray, List.getElem_cons_zero, List.getElem_cons_succ, Act.put, List.setIfInBounds_toArray, List.set_cons_zero, List.set_cons_succ]; exact rfl))))
      refine takeY_nil ?_
      rw [← hq0]
      clear hq0
      refine gC_two (i := 6) (j := 8) (by kernel_rfl) rfl rfl ?_ ?_
      · have swq1 := bq0.size
        go_wp2_with (go_at_call 138; refine (iClone_any p ks _ c _ (by omega) (rx.below bq0) (fun b hb => by have := hpw b hb; omega)).mono ?_; rintro e q1 ⟨A7, c7, rfl, hPq1, hbq1⟩; obtain ⟨g, rfl, -, hBg, hgl, hRq1⟩ := hPq1.rowS (by omega))
        have bq1 : Below wx.heap.size wx q1 := bq0.trans (hbq1.mono bq0.size)
        have lq1 := hbq1.size
        refine mid_intro bq1 ?_
        refine gC_takeT [7] (f := 2) (l' := #[true, true, true, true, true, true, true, true, false, false]) (lT := [_]) rfl (by kernel_rfl) (by kernel_rfl) (by kernel_rfl) rfl (fun _ _ d _ _ h => by cases d <;> exact h) ?_
        repeat (first | ((refine takeY_skip (a' := ?_) ?_ ?_ ?_); (rotate_left); (· (simp [Region.wanted, yielded, Go.undef]; done)); (· (simp only [List.getElem_toArray, List.getElem_cons_zero, List.getElem_cons_succ, Act.put, List.setIfInBounds_toArray, List.set_cons_zero, List.set_cons_succ]; exact rfl))) | ((refine takeY_step (v := ?_) (a' := ?_) ?_ ?_ ?_ ?_); (rotate_left 2); (· (simp [Region.wanted, yielded, Go.undef]; done)); (· (intro w' hS'; go_simp; try (with_reducible rfl))); (· (simp only [List.getElem_toArray, List.getElem_cons_zero, List.getElem_cons_succ, Act.put, List.setIfInBounds_toArray, List.set_cons_zero, List.set_cons_succ]; exact rfl))))
        refine takeY_nil ?_
        refine gC_one (i := 8) (by kernel_rfl) rfl ?_
        · have szq2 := bq1.size
          go_wp2_with fail
          refine name_midw ?_
          intro q2 hn
          have bq2 : Below wx.heap.size wx q2 := by rw [hn]; exact bq1.alloc szq2 _
          have zq2 : Blk q2 q1.heap.size #[.int .i64 0, .int .i64 0, .slice none 0 0] := by rw [hn]; exact Blk.new_ _ 25 _ rfl
          have eq2 : q2.heap.size = q1.heap.size + 1 := by rw [hn]; simp
          have kq2 : Below q1.heap.size q1 q2 := by rw [hn]; exact (Below.refl _ _).alloc (Nat.le_refl _) _
          have seq2 : q1.heap.size < q2.heap.size := by omega
          clear hn eq2
          have Rq2 := hRq1.below kq2
          refine mid_intro bq2 ?_
          refine gC_end [9] (lB := [_]) (by simp) (by kernel_rfl) (by kernel_rfl) rfl ?_
          obtain ⟨d0, d1, d2⟩ := zq2.three
          have e0 := zq2.frozen 0
          have e1 := zq2.frozen 1
          have e2 := zq2.frozen 2
          have szl := zq2.lt
          have szb : wx.heap.size ≤ q1.heap.size := by first | exact bq0.size | exact bq1.size
          have sxx := bx.size
          have hgb : wx.heap.size ≤ g := by have := bq0.size; omega
          have hgz : g ≠ q1.heap.size := by omega
          have hnz : ¬ ((p q1.heap.size ∨ q0.heap.size ≤ q1.heap.size) ∧ q1.heap.size < q1.heap.size ∧ q1.heap.size ≠ g) := by
            rintro ⟨h | h, h2, -⟩
            · have := hpw _ h; omega
            · omega
          go_wp2_with fail
          go_meet
          exact ⟨q1.heap.size, g, c7, _, rfl, ((zq2.set_ 0 _).set_ 1 _).set_ 2 _, ((Rq2.setCell (a := ⟨q1.heap.size, 0, none⟩) hnz hgz _).setCell (a := ⟨q1.heap.size, 1, none⟩) hnz hgz _).setCell (a := ⟨q1.heap.size, 2, none⟩) hnz hgz _, (fun h => h.2.2 rfl), (fun b hb => hb.1.imp id fun h => Nat.le_trans (by have := bq0.size; omega) h), ((bq2.setCell (by simp <;> omega) _).setCell (by simp <;> omega) _).setCell (by simp <;> omega) _, szb, hgb, hgz⟩
      · have szq3 := bq0.size
        go_wp2_with fail
        refine name_midw ?_
        intro q3 hn
        have bq3 : Below wx.heap.size wx q3 := by rw [hn]; exact bq0.alloc szq3 _
        have zq3 : Blk q3 q0.heap.size #[.int .i64 0, .int .i64 0, .slice none 0 0] := by rw [hn]; exact Blk.new_ _ 25 _ rfl
        have eq3 : q3.heap.size = q0.heap.size + 1 := by rw [hn]; simp
        have kq3 : Below q0.heap.size q0 q3 := by rw [hn]; exact (Below.refl _ _).alloc (Nat.le_refl _) _
        have seq3 : q0.heap.size < q3.heap.size := by omega
        clear hn eq3
        refine mid_intro bq3 ?_
        refine gC_one (i := 6) (by kernel_rfl) rfl ?_
        · have swq4 := bq3.size
          have szzq4 := zq3.lt
          go_wp2_with (go_at_call 138; refine (iClone_any p ks _ c _ (by omega) (rx.below bq3) (fun b hb => by have := hpw b hb; omega)).mono ?_; rintro e q4 ⟨A7, c7, rfl, hPq4, hbq4⟩; obtain ⟨g, rfl, -, hBg, hgl, hRq4⟩ := hPq4.rowS (by omega))
          have zq4 := zq3.keep hbq4
          have bq4 : Below wx.heap.size wx q4 := bq3.trans (hbq4.mono bq3.size)
          have lq4 := hbq4.size
          refine mid_intro bq4 ?_
          refine gC_takeT [7] (f := 1) (l' := #[true, true, true, true, true, true, true, true, true, false]) (lT := [_]) rfl (by kernel_rfl) (by kernel_rfl) (by kernel_rfl) rfl (fun _ _ d _ _ h => by cases d <;> exact h) ?_
          repeat (first | ((refine takeY_skip (a' := ?_) ?_ ?_ ?_); (rotate_left); (· (simp [Region.wanted, yielded, Go.undef]; done)); (· (simp only [List.getElem_toArray, List.getElem_cons_zero, List.getElem_cons_succ, Act.put, List.setIfInBounds_toArray, List.set_cons_zero, List.set_cons_succ]; exact rfl))) | ((refine takeY_step (v := ?_) (a' := ?_) ?_ ?_ ?_ ?_); (rotate_left 2); (· (simp [Region.wanted, yielded, Go.undef]; done)); (· (intro w' hS'; go_simp; try (with_reducible rfl))); (· (simp only [List.getElem_toArray, List.getElem_cons_zero, List.getElem_cons_succ, Act.put, List.setIfInBounds_toArray, List.set_cons_zero, List.set_cons_succ]; exact rfl))))
          refine takeY_nil ?_
          refine gC_end [9] (lB := [_]) (by simp) (by kernel_rfl) (by kernel_rfl) rfl ?_
          obtain ⟨d0, d1, d2⟩ := zq4.three
          have e0 := zq4.frozen 0
          have e1 := zq4.frozen 1
          have e2 := zq4.frozen 2
          have szl := zq4.lt
          have szb : wx.heap.size ≤ q0.heap.size := by first | exact bq0.size | exact bq0.size
          have sxx := bx.size
          have hgb : wx.heap.size ≤ g := by have := bq3.size; omega
          have hgz : g ≠ q0.heap.size := by omega
          have hnz : ¬ ((p q0.heap.size ∨ q3.heap.size ≤ q0.heap.size) ∧ q0.heap.size < q4.heap.size ∧ q0.heap.size ≠ g) := by
            rintro ⟨h | h, h2, -⟩
            · have := hpw _ h; omega
            · omega
          go_wp2_with fail
          go_meet
          exact ⟨q0.heap.size, g, c7, _, rfl, ((zq4.set_ 0 _).set_ 1 _).set_ 2 _, ((hRq4.setCell (a := ⟨q0.heap.size, 0, none⟩) hnz hgz _).setCell (a := ⟨q0.heap.size, 1, none⟩) hnz hgz _).setCell (a := ⟨q0.heap.size, 2, none⟩) hnz hgz _, (fun h => h.2.2 rfl), (fun b hb => hb.1.imp id fun h => Nat.le_trans (by have := bq3.size; omega) h), ((bq4.setCell (by simp <;> omega) _).setCell (by simp <;> omega) _).setCell (by simp <;> omega) _, szb, hgb, hgz⟩
    case rest =>
      obtain ⟨g7, g, c7, q, rfl, hT7, hRow, hqg, hqp, hxy, hg7, hg, hgne⟩ := hcut
      clear g0 g1 g2
      go_upto_region 4 with fail
      refine name_world ?_
      intro wy hwy
      subst hwy
      have sxy := hxy.size
      have by_ : Below w.heap.size w wy := bx.trans (hxy.mono bx.size)
      have h0y := h0x.keep hxy
      have h1y := h1x.keep hxy
      have h2y := h2x.keep hxy
      have ruy := hru.below by_
      have r3y := hr3.below by_
      have hiy := hti.below by_
      have g0 := rule_of h0y.three.1
      have g1 := rule_of h0y.three.2.1
      have g2 := rule_of h0y.three.2.2
      have v0 := rule_of h1y.three.1
      have v1 := rule_of h1y.three.2.1
      have v2 := rule_of h1y.three.2.2
      have u0' := rule_of hT7.three.1
      have u1' := rule_of hT7.three.2.1
      have u2' := rule_of hT7.three.2.2
      have y0 := rule_of ((Keeps.of_below by_) _ _ hc1)
      have y1 := rule_of ((Keeps.of_below by_) _ _ hc2)
      have y2 := rule_of ((Keeps.of_below by_) _ _ hc3)
      have p0 := rule_of ((Keeps.of_below by_) _ _ hp0)
      have htk := hide (fun w => ht w)
      clear hc1 hc2 hc3 hp0
      refine wp_region_firstY (fun w' => Below wy.heap.size wy w') [0, 1, 2, 3, 4, 5, 6, 7, 8, 9, 10, 11, 12, 13, 14] [15] [16, 17] [_, _, _, _, _, _, _, _, _, _, _, _, _, _, _] [_] [_, _] (by kernel_rfl) (by kernel_rfl) rfl rfl rfl (fun _ _ d _ _ h => by cases d <;> exact h) (Below.refl _ _).drew ?_
      repeat (first | ((refine takeY_skip (a' := ?_) ?_ ?_ ?_); (rotate_left); (· (simp [Region.wanted, yielded, Go.undef]; done)); (· (simp only [List.getElem_toArray, List.getElem_cons_zero, List.getElem_cons_succ, Act.put, List.setIfInBounds_toArray, List.set_cons_zero, List.set_cons_succ]; exact rfl))) | ((refine takeY_step (v := ?_) (a' := ?_) ?_ ?_ ?_ ?_); (rotate_left 2); (· (simp [Region.wanted, yielded, Go.undef]; done)); (· (intro w' hS'; go_simp; try (with_reducible rfl))); (· (simp only [List.getElem_toArray, List.getElem_cons_zero, List.getElem_cons_succ, Act.put, List.setIfInBounds_toArray, List.set_cons_zero, List.set_cons_succ]; exact rfl))))
      refine takeY_nil (then_cons ?_)
      clear g0 g1 g2 v0 v1 v2 y0 y1 y2 p0 ht u0' u1' u2'
      have lg7 := hT7.lt
      have lg := hRow.1.lt
      go_wp2_with (go_at_call 95; refine (iPut_any p ku nu us hus is k3 n3 ks3 A3 c3 (some ⟨b, off', none⟩) (cp - 1) U cu wy.drew u0 h1'.out (by omega) (by omega) r3y.drew (hiy.below (Below.refl _ _).drew) ruy.drew (fun b hb => by have := hpw b hb; show b < wy.heap.size; omega)).mono ?_; rw [hput'.out]; intro e w1 hgo; obtain ⟨A1, c1, rfl, hl1, hq1, hb1⟩ := gotQ_mk hgo; have b1 : Below wy.heap.size wy w1 := (Below.refl _ _).drew.trans hb1)
      refine mid_intro b1 (then_nil ?_)
      have s1 := b1.size
      have hT7a := hT7.keep b1
      have h2a := h2y.keep b1
      have hRow1 := hRow.below b1
      obtain ⟨a0, ha0⟩ := hRow1.1.cell (j := i * 3) (by omega)
      obtain ⟨a1, ha1⟩ := hRow1.1.cell (j := i * 3 + 1) (by omega)
      obtain ⟨a2, ha2⟩ := hRow1.1.cell (j := i * 3 + 2) (by omega)
      have z0 := hRow1.1.frozen (i * 3)
      have z1 := hRow1.1.frozen (i * 3 + 1)
      have z2 := hRow1.1.frozen (i * 3 + 2)
      have q1 : ¬ (fun b => p b ∨ wy.heap.size ≤ b) g := by rintro (h | h); have := hpw _ h; have := bx.size; omega; omega
      have hfin := hRow1.1.set hqg hik (cu := c1) hl1 hq1 q1 (r := fun b => p b ∨ wx.heap.size ≤ b) (fun b hb => hqp b hb) (fun b hb => hb.imp id fun h => Nat.le_trans sxy h) (.inr hg) (ku := pk) (nu := pn)
      obtain ⟨t0, t1, t2⟩ := hT7a.three
      obtain ⟨d0, d1, d2⟩ := h2a.three
      have e0 := h2a.frozen 0
      have e1 := h2a.frozen 1
      have e2 := h2a.frozen 2
      have sx0 := bx.size
      have n1 : g ≠ w.heap.size + 1 + 1 := by omega
      have n2 : g7 ≠ w.heap.size + 1 + 1 := by omega
      go_wp2_with fail
      have hnr : ∀ o, ¬ (fun b => p b ∨ wx.heap.size ≤ b) (⟨w.heap.size + 1 + 1, o, none⟩ : Addr).block := by
        rintro o (h | h)
        · have := hpw _ h; simp at this; omega
        · simp at h; omega
      refine bodyPost_ret (v := .agg #[.int .i64 k, .int .i64 n, .slice (some ⟨g, 0, none⟩) ks.length c7]) (by simp [results, Try.results95, go_sem, d0, d1, d2, n1, n2]) rfl ?_
      rw [hres'.out]
      refine ⟨some ⟨g, 0, none⟩, c7, by simp [Tm.ks, Tm.k, Tm.n], by simp [Tm.ks]; omega, ?_, ?_⟩
      · exact (((hfin.setCell (hnr 0) _).setCell (hnr 1) _).setCell (hnr 2) _).mono (fun b h => h.imp id fun h => by omega)
      · have hbb := by_.trans (b1.mono by_.size)
        exact (((((hbb.setCell (by simp; omega) _).setCell (by simp; omega) _).setCell (by simp; omega) _).setCell (by simp; omega) _).setCell (by simp; omega) _).setCell (by simp; omega) _
open Go.RowKit
/-- a part of a term, where it stands -/
def SeenT (w : World) (u : Tm) (e : Ending) (w' : World) : Prop :=
  ∃ k n ks A c, u = .mk k n ks ∧ e = .returned (.agg #[.int .i64 k, .int .i64 n, .slice A ks.length c]) ∧ ks.length ≤ 9223372036854775807 ∧ Rd w A 0 ks ∧ Below w.heap.size w w'
set_option maxHeartbeats 2000000 in
set_option maxRecDepth 100000 in
theorem iAt_any (k n : Int) (ks : List Tm) (A : Option Addr) (c : Nat) (xs : List Int) (P : Option Addr) (cp : Nat) (w : World) (hM : sizes ks ≤ 1000000000) (hx : xs.length ≤ 9223372036854775807) (hr : Rd w A 0 ks) (hi : RdI w P xs) {u : Tm} (hu : atT (.mk k n ks) xs = some u) :
    Calls Try.prog 93 #[.agg #[.int .i64 k, .int .i64 n, .slice A ks.length c], .slice P xs.length cp] w (SeenT w u) := by
  have hlen := length_le_sizes ks
  have hu' := hide hu
  clear hu
  go_enter Try.func93, Try.ntmps93
  go_wp2_with fail
  go_loopw [9] (fun i wr => ∃ (j : Nat) (k1 n1 : Int) (ks1 : List Tm) (A1 : Option Addr) (c1 : Nat), j ≤ xs.length ∧ i = .int .i64 j ∧ Hid (atT (.mk k n ks) (xs.take j) = some (.mk k1 n1 ks1)) ∧ ks1.length ≤ 9223372036854775807 ∧ Rd w A1 0 ks1 ∧ Blk wr w.heap.size #[.int .i64 k1, .int .i64 n1, .slice A1 ks1.length c1] ∧ Blk wr (w.heap.size + 1) #[.int .i64 0, .int .i64 0, .slice none 0 0] ∧ Below w.heap.size w wr)
    (fun i _ => xs.length - (intOf i).toNat)
  case atStart => exact ⟨0, k, n, ks, A, c, Nat.zero_le _, rfl, hide rfl, by omega, hr, (Blk.new_ _ _ _ rfl).alloc _, Blk.new_ _ _ _ (by simp), ((Below.refl _ _).alloc (by simp) _).alloc (by simp) _⟩
  case round =>
    obtain ⟨j, k1, n1, ks1, A1, c1, hj, rfl, hat, hl1, hr1, hB1, hB2, hb⟩ := hrel
    have lB2 := hB2.lt
    by_cases hlt : j < xs.length
    · obtain ⟨b, off, rfl, hc⟩ := hi.below hb j hlt
      have hnx := atT_take hlt hat.out
      have hne : atT (.mk k n ks) (xs.take (j + 1)) ≠ none := fun h => by have := atT_none h; rw [hu'.out] at this; cases this
      generalize hxj : xs[j] = x at hc hnx
      have hxj' := hide hxj
      clear hxj
      by_cases hin : 0 ≤ x ∧ x < ks1.length
      · obtain ⟨i, rfl⟩ : ∃ i : Nat, x = (i : Int) := ⟨x.toNat, by omega⟩
        have hik : i < ks1.length := by omega
        obtain ⟨b3, off3, k3, n3, ks3, A3, c3, rfl, hkj3, hd1, hd2, hd3, hl3, hr3⟩ := hr1.at_ hik
        have hst : atT (.mk k n ks) (xs.take (j + 1)) = some (.mk k3 n3 ks3) := by
          rw [hnx, if_pos (show 0 ≤ (i : Int) ∧ (i : Int) < (Tm.mk k1 n1 ks1).kids.length from hin), Int.toNat_natCast, show (Tm.mk k1 n1 ks1).kids = ks1 from rfl, List.getD_eq_getElem?_getD, List.getElem?_eq_getElem hik, Option.getD_some, hkj3]
        have hst' := hide hst
        clear hkj3 hst hnx hne
        have z2 := (Keeps.of_below hb) _ _ hd1
        have z3 := (Keeps.of_below hb) _ _ hd2
        have z4 := (Keeps.of_below hb) _ _ hd3
        have cc2 : wr.cell? ⟨w.heap.size, 2, none⟩ = some (.slice (some ⟨b3, off3, none⟩) ks1.length c1) := hB1.at_ rfl
        have cc0 : wr.cell? ⟨w.heap.size, 0, none⟩ = some (.int .i64 k1) := hB1.at_ rfl
        have cc1 : wr.cell? ⟨w.heap.size, 1, none⟩ = some (.int .i64 n1) := hB1.at_ rfl
        have f0 := hB1.frozen 0
        have f1 := hB1.frozen 1
        have f2 := hB1.frozen 2
        go_wp2_with fail
        go_roundw
        case rel => exact ⟨j + 1, k3, n3, ks3, A3, c3, by omega, by go_num, hst', hl3, hr3, ((hB1.set_ 0 _).set_ 1 _).set_ 2 _, ((hB2.far (by simp) _).far (by simp) _).far (by simp) _, ((hb.setCell (by simp) _).setCell (by simp) _).setCell (by simp) _⟩
        case measure => simp [intOf]; omega
      · exact absurd (by rw [hnx, if_neg (show ¬ (0 ≤ x ∧ x < (Tm.mk k1 n1 ks1).kids.length) from hin)]) hne
    · have hjl : j = xs.length := by omega
      subst hjl
      have hut : u = .mk k1 n1 ks1 := by have := hat.out; rw [List.take_length, hu'.out] at this; exact Option.some.inj this
      subst hut
      have cc0 : wr.cell? ⟨w.heap.size, 0, none⟩ = some (.int .i64 k1) := hB1.at_ rfl
      have cc1 : wr.cell? ⟨w.heap.size, 1, none⟩ = some (.int .i64 n1) := hB1.at_ rfl
      have cc2 : wr.cell? ⟨w.heap.size, 2, none⟩ = some (.slice A1 ks1.length c1) := hB1.at_ rfl
      have d0 : wr.cell? ⟨w.heap.size + 1, 0, none⟩ = some (.int .i64 0) := hB2.at_ rfl
      have d1 : wr.cell? ⟨w.heap.size + 1, 1, none⟩ = some (.int .i64 0) := hB2.at_ rfl
      have d2 : wr.cell? ⟨w.heap.size + 1, 2, none⟩ = some (.slice none 0 0) := hB2.at_ rfl
      have e0 := hB2.frozen 0
      have e1 := hB2.frozen 1
      have e2 := hB2.frozen 2
      go_wp2_with fail
      refine bodyPost_ret (v := .agg #[.int .i64 k1, .int .i64 n1, .slice A1 ks1.length c1]) (by simp [results, Try.results93, go_sem, d0, d1, d2]) rfl ⟨_, _, _, A1, c1, rfl, rfl, hl1, hr1, ?_⟩
      exact ((hb.setCell (by simp) _).setCell (by simp) _).setCell (by simp) _
end Go.Proofs.Ytodkenpmhhbppaa
