/-
  Contracts of the functions that the law reaches, and plain lemmas. No condition.
-/
import Derived.Test.YtodkpgkefjegnaaGreatDoorK5
import Derived.Test.YtodkpgkefjegnaaGreatDoorK6
import Derived.Test.YtodkpgkefjegnaaGreatDoorK8
import Derived.Test.YtodkpgkefjegnaaGreatDoorK14
import Derived.Test.YtodkpgkefjegnaaGreatDoorK23
import Derived.Test.YtodkpgkefjegnaaGreatDoorK24
namespace Go.Proofs.YtodkpgkefjegnaaGreatDoor
set_option linter.unusedSimpArgs false
set_option linter.unusedVariables false
open Go.RowKit
def ITextOk (t : Tm) (b : List UInt8) : Prop := ∀ (k n : Int) (ks : List Tm), t = .mk k n ks → ∀ (A : Option Addr) (c : Nat) (w : World), b.length ≤ 5000 → GM w → Rd w A 0 ks →
  Calls Tryz.prog 21 #[.agg #[.int .i64 k, .int .i64 n, .slice A ks.length c]] w fun e w' => e = .returned (.string (byt b)) ∧ Below w.heap.size w w'
set_option maxHeartbeats 4000000 in
set_option maxRecDepth 100000 in
theorem itext_num (d k : Nat) (n : Int) (c : UInt8) (h : (k = 1 ∧ n ≤ 9 ∨ k = 2 ∧ n ≤ 3) ∧ 0 ≤ n ∧ (c.toNat : Int) = 48 + n) : ITextOk (.mk k n []) ((shpX[k - 1]?).getD [] ++ [c]) := by
  intro k' n' ks' ht A cc w hl hm hr
  injection ht with h1 h2 h3
  subst h1 h2 h3
  have h9 : 0 ≤ n ∧ n ≤ 9 ∧ (c.toNat : Int) = 48 + n := ⟨h.2.1, by omega, h.2.2⟩
  have hh := hide h.1
  clear h
  rcases hh.out with ⟨rfl, _⟩ | ⟨rfl, _⟩
  · go_enter Tryz.func21, Tryz.ntmps21
    go_wp2_with fail
    refine name_world ?_
    intro wx hwx
    have hbx : Below w.heap.size w wx := by rw [hwx]; exact (Below.refl _ _).alloc (Nat.le_refl _) _
    have hX : Blk wx w.heap.size #[.int .i64 1, .int .i64 n, .slice A 0 cc] := by rw [hwx]; exact Blk.new_ _ _ _ rfl
    have r0 := hX.rule (i := 0) rfl
    clear hwx
    refine wp_region_firstY (fun w' => Below wx.heap.size wx w') [1, 2, 3] [0] [4, 5, 6] [_, _, _] [_] [_, _, _] (by kernel_rfl) (by kernel_rfl) rfl rfl rfl (fun _ _ d _ _ h => by cases d <;> exact h) (Below.refl _ _).drew ?_
    repeat (first | ((refine takeY_skip (a' := ?_) ?_ ?_ ?_); (rotate_left); (· (simp [Region.wanted, yielded, Go.undef]; done)); (· (simp only [List.getElem_toArray, List.getElem_cons_zero, List.getElem_cons_succ, Act.put, List.setIfInBounds_toArray, List.set_cons_zero, List.set_cons_succ]; exact rfl))) | ((refine takeY_step (v := ?_) (a' := ?_) ?_ ?_ ?_ ?_); (rotate_left 2); (· (simp [Region.wanted, yielded, Go.undef]; done)); (· (intro w' hS'; go_simp; try (with_reducible rfl))); (· (simp only [List.getElem_toArray, List.getElem_cons_zero, List.getElem_cons_succ, Act.put, List.setIfInBounds_toArray, List.set_cons_zero, List.set_cons_succ]; exact rfl))))
    refine takeY_nil (then_cons ?_)
    go_wp2_with (go_at_call 46; refine (shapes_at (g := wx.heap.size) _ (by simp)).mono ?_; rintro e w7 ⟨rfl, hH7, hb7⟩)
    have hx1 : Below wx.heap.size wx w7 := (Below.refl _ _).drew.trans hb7
    have hcl7 : w7.cell? ⟨wx.heap.size, 0, none⟩ = some (.string (byt (shp 1))) := hH7.at_ rfl
    refine mid_intro hx1 (then_nil ?_)
    have hX7 := hX.keep hx1
    have x0 := hX7.at_ (i := 0) rfl
    have x1 := hX7.at_ (i := 1) rfl
    have ha : ∀ w, (Op.stringOp .add (byt (shp 1)) (byt [c])).run Tryz.prog w = .ok (.string (byt ([35] ++ [c]))) w := fun w => add_strE (a := [35]) (b := [c]) rfl (by simp) w
    clear r0
    go_wp2_with (go_at_call 47; refine (itoa_any n c h9 _).mono ?_; rintro e w8 ⟨rfl, rfl⟩)
    go_ret
    exact ⟨rfl, hbx.trans (hx1.mono hbx.size)⟩
  · go_enter Tryz.func21, Tryz.ntmps21
    go_wp2_with fail
    refine name_world ?_
    intro wx hwx
    have hbx : Below w.heap.size w wx := by rw [hwx]; exact (Below.refl _ _).alloc (Nat.le_refl _) _
    have hX : Blk wx w.heap.size #[.int .i64 2, .int .i64 n, .slice A 0 cc] := by rw [hwx]; exact Blk.new_ _ _ _ rfl
    have r0 := hX.rule (i := 0) rfl
    clear hwx
    refine wp_region_firstY (fun w' => Below wx.heap.size wx w') [1, 2, 3] [0] [4, 5, 6] [_, _, _] [_] [_, _, _] (by kernel_rfl) (by kernel_rfl) rfl rfl rfl (fun _ _ d _ _ h => by cases d <;> exact h) (Below.refl _ _).drew ?_
    repeat (first | ((refine takeY_skip (a' := ?_) ?_ ?_ ?_); (rotate_left); (· (simp [Region.wanted, yielded, Go.undef]; done)); (· (simp only [List.getElem_toArray, List.getElem_cons_zero, List.getElem_cons_succ, Act.put, List.setIfInBounds_toArray, List.set_cons_zero, List.set_cons_succ]; exact rfl))) | ((refine takeY_step (v := ?_) (a' := ?_) ?_ ?_ ?_ ?_); (rotate_left 2); (· (simp [Region.wanted, yielded, Go.undef]; done)); (· (intro w' hS'; go_simp; try (with_reducible rfl))); (· (simp only [List.getElem_toArray, List.getElem_cons_zero, List.getElem_cons_succ, Act.put, List.setIfInBounds_toArray, List.set_cons_zero, List.set_cons_succ]; exact rfl))))
    refine takeY_nil (then_cons ?_)
    go_wp2_with (go_at_call 46; refine (shapes_at (g := wx.heap.size) _ (by simp)).mono ?_; rintro e w7 ⟨rfl, hH7, hb7⟩)
    have hx1 : Below wx.heap.size wx w7 := (Below.refl _ _).drew.trans hb7
    have hcl7 : w7.cell? ⟨wx.heap.size, 1, none⟩ = some (.string (byt (shp 2))) := hH7.at_ rfl
    refine mid_intro hx1 (then_nil ?_)
    have hX7 := hX.keep hx1
    have x0 := hX7.at_ (i := 0) rfl
    have x1 := hX7.at_ (i := 1) rfl
    have ha : ∀ w, (Op.stringOp .add (byt (shp 2)) (byt [c])).run Tryz.prog w = .ok (.string (byt ([42] ++ [c]))) w := fun w => add_strE (a := [42]) (b := [c]) rfl (by simp) w
    clear r0
    go_wp2_with (go_at_call 47; refine (itoa_any n c h9 _).mono ?_; rintro e w8 ⟨rfl, rfl⟩)
    go_ret
    exact ⟨rfl, hbx.trans (hx1.mono hbx.size)⟩
set_option maxHeartbeats 8000000 in
set_option maxRecDepth 100000 in
theorem itext_node (d k : Nat) (ts : List Tm) (xs : List (List UInt8)) (hk : 3 ≤ k ∧ k ≤ 16) (hl : (prt k).length = ts.length + 1) (hx : xs.length = ts.length)
    (ih : ∀ (j : Nat) (t : Tm) (x : List UInt8), ts[j]? = some t → xs[j]? = some x → ITextOk t x) : ITextOk (.mk k 0 ts) (inter (prt k) xs) := by
  intro k' n' ks' ht A cc w hlen hm hr
  injection ht with h1 h2 h3
  subst h1 h2 h3
  obtain ⟨c, y, z, ps, e1, e2, _⟩ := node_facts hk
  obtain ⟨p0, hp0⟩ : ∃ p0, c :: z = p0 := ⟨_, rfl⟩
  rw [hp0] at e2
  obtain ⟨F, hF⟩ : ∃ F, inter (prt k) xs = F := ⟨_, rfl⟩
  rw [hF] at hlen ⊢
  rw [e2, inter] at hF
  have hcell := hide (fun (w : World) (g : Nat) (hB : Blk w g (strs shpX)) => shp_cell hB (K := k) hk)
  have hsplit : Hid (∀ (w : World) (g : Nat), GM w → g = w.heap.size → Calls Tryz.prog 24 #[.string (byt (shp k)), .string ⟨#[46]⟩] w fun e w' => e = .returned (.slice (some ⟨g, 0, none⟩) (ts.length + 1) (ts.length + 1)) ∧ Blk w' g (strs (prt k)) ∧ Below w.heap.size w w') :=
    hide (fun w g h hg => by have := split_at (k := k) (g := g) hk w h hg; rwa [hl] at this)
  have q1 : ((k : Int) == 1) = false := beq_eq_false_iff_ne.2 (by omega)
  have q2 : ((k : Int) == 2) = false := beq_eq_false_iff_ne.2 (by omega)
  have hK1 : (1 : Int) ≤ k := by omega
  have hK2 : (k : Int) ≤ 16 := by omega
  have hl3 : (0 : Int) < (ts.length : Int) + 1 := by omega
  have hps : ps.length = ts.length := by rw [e2] at hl; simpa using hl
  have htl : ts.length ≤ 5 := by have := prt_len hk; omega
  have hm' := hide hm
  have h0 := hide (show (prt k)[0]? = some p0 by rw [e2]; rfl)
  have hX := hide (And.intro hps (And.intro hx (And.intro hF (And.intro ih (And.intro e2 hk)))))
  clear hk hl hx ih hp0 e1 e2 hF hps hm
  go_enter Tryz.func21, Tryz.ntmps21
  go_wp2_with fail
  refine name_world ?_
  intro wx hwx
  have hbx : Below w.heap.size w wx := by rw [hwx]; exact (Below.refl _ _).alloc (Nat.le_refl _) _
  have hB : Blk wx w.heap.size #[.int .i64 k, .int .i64 0, .slice A ts.length cc] := by rw [hwx]; exact Blk.new_ _ _ _ rfl
  have r0 := hB.rule (i := 0) rfl
  clear hwx
  refine wp_region_firstY (fun w' => Below wx.heap.size wx w') [1, 2, 3] [0] [4, 5, 6] [_, _, _] [_] [_, _, _] (by kernel_rfl) (by kernel_rfl) rfl rfl rfl (fun _ _ d _ _ h => by cases d <;> exact h) (Below.refl _ _).drew ?_
  repeat (first | ((refine takeY_skip (a' := ?_) ?_ ?_ ?_); (rotate_left); (· (simp [Region.wanted, yielded, Go.undef]; done)); (· (simp only [List.getElem_toArray, List.getElem_cons_zero, List.getElem_cons_succ, Act.put, List.setIfInBounds_toArray, List.set_cons_zero, List.set_cons_succ]; exact rfl))) | ((refine takeY_step (v := ?_) (a' := ?_) ?_ ?_ ?_ ?_); (rotate_left 2); (· (simp [Region.wanted, yielded, Go.undef]; done)); (· (intro w' hS'; go_simp; try (with_reducible rfl))); (· (simp only [List.getElem_toArray, List.getElem_cons_zero, List.getElem_cons_succ, Act.put, List.setIfInBounds_toArray, List.set_cons_zero, List.set_cons_succ]; exact rfl))))
  refine takeY_nil (then_cons ?_)
  go_wp2_with (go_at_call 46; refine (shapes_at (g := wx.heap.size) _ (by simp)).mono ?_; rintro e w7 ⟨rfl, hH7, hb7⟩)
  have hx1 : Below wx.heap.size wx w7 := (Below.refl _ _).drew.trans hb7
  have hcl7 := hcell.out _ _ hH7
  refine mid_intro hx1 (then_nil ?_)
  replace hB := hB.keep hx1
  have hb8 : Below w.heap.size w w7 := hbx.trans (hx1.mono hbx.size)
  have x0 := hB.at_ (i := 0) rfl
  have x2 := hB.at_ (i := 2) rfl
  have gm7 : GM w7 := hm'.out.keep hb8
  clear r0
  go_wp2_with (go_at_call 24; refine (hsplit.out _ w7.heap.size gm7 rfl).mono ?_; rintro e w8 ⟨rfl, hP, hb9⟩; replace hB := hB.keep hb9; clear x0 x2; have x2 := hB.at_ (i := 2) rfl; have hpc := prt_cell hP h0.out; have g8 : Below w.heap.size w w8 := hb8.trans (hb9.mono hb8.size); have lB := hB.lt)
  go_loopw [5, 35] (fun o i wr => ∃ (j : Nat) (O : List UInt8), j ≤ ts.length ∧ Hid (O ++ rem (xs.drop j) (ps.drop j) = F) ∧ o = .string (byt O) ∧ i = .int .i64 j ∧ Blk wr w7.heap.size (strs (prt k)) ∧ Blk wr w.heap.size #[.int .i64 k, .int .i64 0, .slice A ts.length cc] ∧ Below w.heap.size w wr) (fun _ i _ => ts.length - (intOf i).toNat)
  case atStart => exact ⟨0, p0, Nat.zero_le _, hide hX.out.2.2.1, rfl, rfl, hP, hB, g8⟩
  case round =>
    obtain ⟨j, O, hj, hO, rfl, rfl, hPr, hBr, hb⟩ := hrel
    by_cases hlt : j < ts.length
    · obtain ⟨b, off, k1, n1, ks1, A1, c1, rfl, hkj, hc1, hc2, hc3, hl1, hr1⟩ := (hr.below hb).at_ hlt
      have hlx : j < xs.length := by have := hX.out.2.1; omega
      have hlp : j < ps.length := by have := hX.out.1; omega
      obtain ⟨x, hxj⟩ : ∃ x, xs[j]? = some x := ⟨_, List.getElem?_eq_getElem hlx⟩
      obtain ⟨p, hpj⟩ : ∃ p, ps[j]? = some p := ⟨_, List.getElem?_eq_getElem hlp⟩
      have hO2 : (O ++ (x ++ p)) ++ rem (xs.drop (j + 1)) (ps.drop (j + 1)) = F := by rw [← hO.out, rem_drop hxj hpj]; simp
      have hOl : O.length + (x.length + p.length) ≤ 5000 := by rw [← hO2] at hlen; simp at hlen; omega
      have hprt : (prt k)[j + 1]? = some p := by rw [hX.out.2.2.2.2.1]; simpa using hpj
      have hO2' := hide hO2
      have hkid := hide (hX.out.2.2.2.1 j (.mk k1 n1 ks1) x (by rw [List.getElem?_eq_getElem hlt, hkj]) hxj k1 n1 ks1 rfl)
      have ha1 : ∀ w, (Op.stringOp .add (byt x) (byt p)).run Tryz.prog w = .ok (.string (byt (x ++ p))) w := fun w => add_strE rfl (by omega) w
      have ha2 : ∀ w, (Op.stringOp .add (byt O) (byt (x ++ p))).run Tryz.prog w = .ok (.string (byt (O ++ (x ++ p)))) w := fun w => add_strE rfl (by simp; omega) w
      have hxl : x.length ≤ 5000 := by omega
      have hbl := World.block_lt_of_cell? _ _ hc1
      have lr := hb.size
      have lp := hPr.lt
      have lb := hBr.lt
      have hw : IntKind.i64.wrap ((j : Int) + 1) = (j : Int) + 1 := IntWalk.i64_in _ ⟨by omega, by omega⟩
      have hw2 : (0 : Int) ≤ (j : Int) + 1 ∧ (j : Int) + 1 < (ts.length : Int) + 1 := by omega
      have hprt' := hide hprt
      clear hkj hxj hpj hO2 hprt hO hOl hlx hlp
      go_wp2_with fail
      refine name_world ?_
      intro wy hwy
      have hyb : Below wr.heap.size wr wy := by rw [hwy]; exact (Below.refl _ _).alloc (Nat.le_refl _) _
      have hY : Blk wy wr.heap.size #[.int .i64 k1, .int .i64 n1, .slice A1 ks1.length c1] := by rw [hwy]; exact Blk.new_ _ _ _ rfl
      have hPy := hPr.keep hyb
      obtain ⟨z0, z1, z2⟩ := hY.three
      have r0 := rule_of z0
      have r1 := rule_of z1
      have r2 := rule_of z2
      have r3 := rule_of (prt_cell hPy hprt'.out)
      clear hwy z0 z1 z2
      have sm := fun (w' : World) (hw' : Below wy.heap.size wy w') => hkid.out A1 c1 w' hxl ((hm'.out.keep (hb.trans (hyb.mono hb.size))).keep hw') ((hr1.below hyb).below hw')
      refine wp_region_class (fun w' => Below wy.heap.size wy w') (by kernel_rfl) (by kernel_rfl) (Below.refl _ _).drew ?_
      repeat (first | ((refine quiet_skip (a' := ?_) ?_ ?_ ?_); (rotate_left); (· (simp [Region.wanted, yielded, Go.undef]; done)); (· (simp only [Act.put, List.setIfInBounds_toArray, List.set_cons_zero, List.set_cons_succ]; exact rfl))) | ((refine quiet_one (v := ?_) (a' := ?_) ?_ ?_ ?_ ?_); (rotate_left 2); (· (simp [Region.wanted, yielded, Go.undef]; done)); (· (intro w' hS'; go_simp; try (with_reducible rfl))); (· (simp only [Act.put, List.setIfInBounds_toArray, List.set_cons_zero, List.set_cons_succ]; exact rfl))) | ((refine quiet_below (v := ?_) (a' := ?_) 21 ?_ ?_ ?_ ?_ ?_ ?_); (rotate_left 3); (· (simp [Region.wanted, yielded, Go.undef]; done)); (· (intro w' hS'; go_simp; try (with_reducible rfl))); (· (intro w' hS'; exact sm w' hS')); (· (simp only [Act.put, List.setIfInBounds_toArray, List.set_cons_zero, List.set_cons_succ]; exact rfl))))
      refine quiet_nil ?_
      intro w9 hx2
      clear r0 r1 r2 r3 sm
      go_wp2_with fail
      have hx3 : Below wr.heap.size wr w9 := hyb.trans (hx2.mono hyb.size)
      go_roundw
      case rel => exact ⟨j + 1, _, by omega, hO2', rfl, by go_num, hPr.keep hx3, hBr.keep hx3, hb.trans (hx3.mono hb.size)⟩
      case measure => simp [intOf]; omega
    · go_wp2_with fail
      go_ret
      obtain rfl : j = ts.length := by omega
      have h5 := hO.out
      rw [show xs.drop ts.length = [] from List.drop_eq_nil_of_le (by have := hX.out.2.1; omega), rem_nil, List.append_nil] at h5
      exact ⟨by rw [h5]; rfl, hb⟩
/-- the program's text of a term -/
theorem termText_any {d : Nat} {t : Tm} {b : List UInt8} (h : Tu d t b) : ITextOk t b := by
  induction h with
  | num d k n c h => exact itext_num d k n c h
  | node d k ts xs hk hl hx ht ih => exact itext_node d k ts xs hk hl hx ih
open Go.RowKit
/-- what a parser hands back: the term, and that it is one -/
def GotP (w : World) (o : Option Tm) (e : Ending) (w' : World) : Prop :=
  ∃ (k n : Int) (ks : List Tm) (A : Option Addr) (c : Nat), o.getD (.mk 0 0 []) = .mk k n ks ∧ e = .returned (.tuple #[.agg #[.int .i64 k, .int .i64 n, .slice A ks.length c], .bool o.isSome]) ∧ ks.length ≤ 9223372036854775807 ∧ Fresh w.heap.size w' A ks ∧ Below w.heap.size w w'
set_option maxHeartbeats 4000000 in
set_option maxRecDepth 100000 in
theorem iParse_any {t : Tm} {b : List UInt8} (h : Tx 30 t b ∧ validT t = true ∧ b.length ≤ 4000) (w : World) (hm : GM w) : Calls Tryz.prog 77 #[.string (byt b)] w (GotP w (some t)) := by
  obtain ⟨htx, hv, hb⟩ := h
  obtain ⟨k, n, ks⟩ := t
  have hread := hide (fun w hm => by simpa using readTerm_any htx.tu k n ks rfl [] 1 w (by simp; omega) trivial (by omega) (by omega) hm)
  have htext := hide (fun A c w hm hr => termText_any htx.tu k n ks rfl A c w (by omega) hm hr)
  have hvs := validT_size' hv
  have hv' := hide hv
  have q3 : ((byt b).toList == (byt b).toList) = true := by simp
  have hm' := hide hm
  have qe : ((byt []).toList == []) = true ∧ (byt []).toList.isEmpty = true := by simp [byt]
  obtain ⟨qe1, qe2⟩ := qe
  clear htx hv hm
  go_enter Tryz.func77, Tryz.ntmps77
  go_wp2_with (first
    | (go_at_call 21; refine (htext.out A1 c1 _ ((((hm'.out.keep g1).alloc _)).keep hb2) hf2.rd).mono ?_; rintro e w3 ⟨rfl, hb3⟩; clear x0 x1 x2; replace hX := hX.keep hb3; replace hZ := hZ.keep hb3; obtain ⟨x0, x1, x2⟩ := hX.three; obtain ⟨d0, d1, d2⟩ := hZ.three; have e0 := hZ.frozen 0; have e1 := hZ.frozen 1; have e2 := hZ.frozen 2; have lx := hX.lt; have lz := hZ.lt; have g3 : Below w.heap.size w w3 := g2.trans (hb3.mono g2.size))
    | (go_at_call 20; refine (iTermValid_any k n ks A1 c1 _ (by omega) (hf1.rd.alloc _)).mono ?_; rw [hv'.out]; rintro e w2 ⟨rfl, hb2⟩; replace hX := hX.keep hb2; replace hZ := (hZ.alloc _).keep hb2; obtain ⟨x0, x1, x2⟩ := hX.three; have g2 : Below w.heap.size w w2 := (g1.alloc (by omega) _).trans (hb2.mono (by simp; omega)); have hf2 := (hf1.alloc (.cells #[.int .i64 k, .int .i64 n, .slice A1 ks.length c1] 25)).below hb2)
    | (go_at_call 112; refine (hread.out _ (hm'.out.alloc _)).mono ?_; rintro e w1 ⟨A1, c1, rfl, hl1, hf1, hb1⟩; have hZ := (Blk.new_ w 25 #[.int .i64 0, .int .i64 0, .slice none 0 0] rfl).keep hb1; have g1 : Below w.heap.size w w1 := ((Below.refl _ _).alloc (Nat.le_refl _) _).trans (hb1.mono (by simp)); have s1 := g1.size; have hX := Blk.new_ w1 25 #[.int .i64 k, .int .i64 n, .slice A1 ks.length c1] rfl; have lz1 := hZ.lt))
  have hf3 := hf2.below hb3
  refine bodyPost_ret (v := .tuple #[.agg #[.int .i64 k, .int .i64 n, .slice A1 ks.length c1], .bool true]) (by simp [results, Tryz.results77, go_sem, d0, d1, d2]) rfl ⟨k, n, ks, A1, c1, rfl, rfl, hl1, ?_, ((g3.setCell (by simp) _).setCell (by simp) _).setCell (by simp) _⟩
  exact (((hf3.setCell (by simp) _).setCell (by simp) _).setCell (by simp) _).mono (by simp)
open Go.RowKit
theorem itoaD_any {n : Int} (h0 : 0 ≤ n) (h1 : n ≤ 99) (w : World) : Calls Tryz.prog 47 #[.int .i64 n] w fun e w' => e = .returned (.string (byt (dig n))) ∧ w = w' := by
  obtain ⟨m, rfl⟩ := Int.eq_ofNat_of_zero_le h0
  refine (Tryz.strconv_Itoa_small m (by omega) w).mono ?_
  rintro e w' ⟨rfl, rfl⟩
  exact ⟨rfl, rfl⟩
set_option maxHeartbeats 4000000 in
set_option maxRecDepth 100000 in
theorem itext_numG (k : Nat) (n : Int) (hk : k = 1 ∨ k = 2) (h0 : 0 ≤ n) (h1 : n ≤ 20) : ITextOk (.mk k n []) ((shpX[k - 1]?).getD [] ++ dig n) := by
  intro k' n' ks' ht A cc w hl hm hr
  injection ht with h1' h2 h3
  subst h1' h2 h3
  have hd := dig_len h1
  rcases hk with rfl | rfl
  · go_enter Tryz.func21, Tryz.ntmps21
    go_wp2_with fail
    refine name_world ?_
    intro wx hwx
    have hbx : Below w.heap.size w wx := by rw [hwx]; exact (Below.refl _ _).alloc (Nat.le_refl _) _
    have hX : Blk wx w.heap.size #[.int .i64 1, .int .i64 n, .slice A 0 cc] := by rw [hwx]; exact Blk.new_ _ _ _ rfl
    have r0 := hX.rule (i := 0) rfl
    clear hwx
    refine wp_region_firstY (fun w' => Below wx.heap.size wx w') [1, 2, 3] [0] [4, 5, 6] [_, _, _] [_] [_, _, _] (by kernel_rfl) (by kernel_rfl) rfl rfl rfl (fun _ _ d _ _ h => by cases d <;> exact h) (Below.refl _ _).drew ?_
    repeat (first | ((refine takeY_skip (a' := ?_) ?_ ?_ ?_); (rotate_left); (· (simp [Region.wanted, yielded, Go.undef]; done)); (· (simp only [List.getElem_toArray, List.getElem_cons_zero, List.getElem_cons_succ, Act.put, List.setIfInBounds_toArray, List.set_cons_zero, List.set_cons_succ]; exact rfl))) | ((refine takeY_step (v := ?_) (a' := ?_) ?_ ?_ ?_ ?_); (rotate_left 2); (· (simp [Region.wanted, yielded, Go.undef]; done)); (· (intro w' hS'; go_simp; try (with_reducible rfl))); (· (simp only [List.getElem_toArray, List.getElem_cons_zero, List.getElem_cons_succ, Act.put, List.setIfInBounds_toArray, List.set_cons_zero, List.set_cons_succ]; exact rfl))))
    refine takeY_nil (then_cons ?_)
    go_wp2_with (go_at_call 46; refine (shapes_at (g := wx.heap.size) _ (by simp)).mono ?_; rintro e w7 ⟨rfl, hH7, hb7⟩)
    have hx1 : Below wx.heap.size wx w7 := (Below.refl _ _).drew.trans hb7
    have hcl7 : w7.cell? ⟨wx.heap.size, 0, none⟩ = some (.string (byt (shp 1))) := hH7.at_ rfl
    refine mid_intro hx1 (then_nil ?_)
    have hX7 := hX.keep hx1
    have x0 := hX7.at_ (i := 0) rfl
    have x1 := hX7.at_ (i := 1) rfl
    have ha : ∀ w, (Op.stringOp .add (byt (shp 1)) (byt (dig n))).run Tryz.prog w = .ok (.string (byt ([35] ++ dig n))) w := fun w => add_strE (a := [35]) (b := dig n) rfl (by simp; omega) w
    clear r0
    go_wp2_with (go_at_call 47; refine (itoaD_any h0 (by omega) _).mono ?_; rintro e w8 ⟨rfl, rfl⟩)
    go_ret
    exact ⟨rfl, hbx.trans (hx1.mono hbx.size)⟩
  · go_enter Tryz.func21, Tryz.ntmps21
    go_wp2_with fail
    refine name_world ?_
    intro wx hwx
    have hbx : Below w.heap.size w wx := by rw [hwx]; exact (Below.refl _ _).alloc (Nat.le_refl _) _
    have hX : Blk wx w.heap.size #[.int .i64 2, .int .i64 n, .slice A 0 cc] := by rw [hwx]; exact Blk.new_ _ _ _ rfl
    have r0 := hX.rule (i := 0) rfl
    clear hwx
    refine wp_region_firstY (fun w' => Below wx.heap.size wx w') [1, 2, 3] [0] [4, 5, 6] [_, _, _] [_] [_, _, _] (by kernel_rfl) (by kernel_rfl) rfl rfl rfl (fun _ _ d _ _ h => by cases d <;> exact h) (Below.refl _ _).drew ?_
    repeat (first | ((refine takeY_skip (a' := ?_) ?_ ?_ ?_); (rotate_left); (· (simp [Region.wanted, yielded, Go.undef]; done)); (· (simp only [List.getElem_toArray, List.getElem_cons_zero, List.getElem_cons_succ, Act.put, List.setIfInBounds_toArray, List.set_cons_zero, List.set_cons_succ]; exact rfl))) | ((refine takeY_step (v := ?_) (a' := ?_) ?_ ?_ ?_ ?_); (rotate_left 2); (· (simp [Region.wanted, yielded, Go.undef]; done)); (· (intro w' hS'; go_simp; try (with_reducible rfl))); (· (simp only [List.getElem_toArray, List.getElem_cons_zero, List.getElem_cons_succ, Act.put, List.setIfInBounds_toArray, List.set_cons_zero, List.set_cons_succ]; exact rfl))))
    refine takeY_nil (then_cons ?_)
    go_wp2_with (go_at_call 46; refine (shapes_at (g := wx.heap.size) _ (by simp)).mono ?_; rintro e w7 ⟨rfl, hH7, hb7⟩)
    have hx1 : Below wx.heap.size wx w7 := (Below.refl _ _).drew.trans hb7
    have hcl7 : w7.cell? ⟨wx.heap.size, 1, none⟩ = some (.string (byt (shp 2))) := hH7.at_ rfl
    refine mid_intro hx1 (then_nil ?_)
    have hX7 := hX.keep hx1
    have x0 := hX7.at_ (i := 0) rfl
    have x1 := hX7.at_ (i := 1) rfl
    have ha : ∀ w, (Op.stringOp .add (byt (shp 2)) (byt (dig n))).run Tryz.prog w = .ok (.string (byt ([42] ++ dig n))) w := fun w => add_strE (a := [42]) (b := dig n) rfl (by simp; omega) w
    clear r0
    go_wp2_with (go_at_call 47; refine (itoaD_any h0 (by omega) _).mono ?_; rintro e w8 ⟨rfl, rfl⟩)
    go_ret
    exact ⟨rfl, hbx.trans (hx1.mono hbx.size)⟩
theorem itextT : (∀ (t : Tm) (d : Nat), shape d t = true → ITextOk t (textT t)) ∧
    (∀ (ts : List Tm) (d : Nat), (∀ t, t ∈ ts → shape d t = true) → ∀ t, t ∈ ts → ITextOk t (textT t)) := by
  refine Tm.ind2 (fun k n ks ih d h => ?_) (fun d _ t ht => by cases ht) (fun t ts h1 h2 d h u hu => ?_)
  · obtain ⟨d, rfl, ha, h0, hm, hk⟩ := shape_pos h
    have ihk := ih d hk
    rw [textT]
    have hkk := kinds_of ha
    have hk0 : 1 ≤ k ∧ k ≤ 16 := by omega
    obtain ⟨j, rfl⟩ := Int.eq_ofNat_of_zero_le (a := k) (by omega)
    by_cases hj : j = 1 ∨ j = 2
    · have hl : ks.length = 0 := by omega
      obtain rfl := List.eq_nil_of_length_eq_zero hl
      rw [if_pos (by omega)]
      have hm20 : mostN (j : Int) ≤ 20 := by unfold mostN; repeat' split <;> omega
      exact itext_numG j n hj h0 (by omega)
    · rw [if_neg (by omega)]
      obtain rfl : n = 0 := by have h6 : mostN (j : Int) = 0 := by unfold mostN; rw [if_neg (by omega), if_neg (by omega)]
                               omega
      refine itext_node d j ks (textL ks) (by omega) ?_ (textL_length ks) ?_
      · have e : (prt j).length = ks.length + 1 := by
          rcases hkk with ⟨h, hl⟩ | ⟨h, hl⟩ | ⟨h, hl⟩ | ⟨h, hl⟩ | ⟨h, hl⟩ | ⟨h, hl⟩ | ⟨h, hl⟩ | ⟨h, hl⟩ | ⟨h, hl⟩ | ⟨h, hl⟩ | ⟨h, hl⟩ | ⟨h, hl⟩ | ⟨h, hl⟩ | ⟨h, hl⟩ | ⟨h, hl⟩ | ⟨h, hl⟩
          · omega
          · omega
          all_goals (rw [show j = _ from Int.ofNat.inj h, hl]; rfl)
        exact e
      · intro i t x h1 h2
        rw [textL_at ks i t x h1 h2]
        exact ihk t (List.mem_of_getElem? h1)
  · rcases List.mem_cons.1 hu with rfl | hu
    · exact h1 d (h _ List.mem_cons_self)
    · exact h2 d (fun t ht => h t (List.mem_cons_of_mem _ ht)) u hu
theorem text_le {t : Tm} (h : validT t = true) : (textT t).length ≤ 2400 := by
  have h1 : shape 30 t = true := by simp only [validT, Bool.and_eq_true] at h; exact h.1
  have h2 : t.size ≤ 400 := by simp only [validT, Bool.and_eq_true, decide_eq_true_eq] at h; exact h.2
  have := text_len.1 t 30 h1
  omega
/-- what FormatTerm answers -/
def fmtT (t : Tm) : List UInt8 := if validT t = true then textT t else []
set_option maxHeartbeats 2000000 in
set_option maxRecDepth 100000 in
theorem iFormat_any (k n : Int) (ks : List Tm) (A : Option Addr) (c : Nat) (w : World) (hM : sizes ks ≤ 1000000) (hm : GM w) (hr : Rd w A 0 ks) :
    Calls Tryz.prog 7 #[.agg #[.int .i64 k, .int .i64 n, .slice A ks.length c]] w fun e w' => e = .returned (.string (byt (fmtT (.mk k n ks)))) ∧ Below w.heap.size w w' := by
  by_cases hv : validT (.mk k n ks) = true
  · have htx := hide (fun A c w hm hr => itextT.1 (.mk k n ks) 30 (by simp only [validT, Bool.and_eq_true] at hv; exact hv.1) k n ks rfl A c w (by have := text_le hv; omega) hm hr)
    rw [fmtT, if_pos hv]
    generalize textT (.mk k n ks) = b at htx ⊢
    have hvh := hide hv
    have hmh := hide hm
    clear hv hm
    go_enter Tryz.func7, Tryz.ntmps7
    go_wp2_with (first
      | (go_at_call 21; have _t := tok1; refine (htx.out A c _ (hmh.out.keep g1) ((hr.alloc _).below hb1)).mono ?_; rintro e w2 ⟨rfl, hb2⟩)
      | (go_at_call 20; refine (iTermValid_any k n ks A c _ (by omega) (hr.alloc _)).mono ?_; rw [hvh.out]; rintro e w1 ⟨rfl, hb1⟩; have hX := (Blk.new_ w 25 #[.int .i64 k, .int .i64 n, .slice A ks.length c] rfl).keep hb1; have g1 : Below w.heap.size w w1 := ((Below.refl _ _).alloc (Nat.le_refl _) _).trans (hb1.mono (by simp)); obtain ⟨x0, x1, x2⟩ := hX.three; have tok1 := trivial))
    go_ret
    exact ⟨rfl, g1.trans (hb2.mono g1.size)⟩
  · rw [fmtT, if_neg hv]
    have hvh := hide (show validT (.mk k n ks) = false by simpa using hv)
    clear hv
    go_enter Tryz.func7, Tryz.ntmps7
    go_wp2_with (go_at_call 20; refine (iTermValid_any k n ks A c _ (by omega) (hr.alloc _)).mono ?_; rw [hvh.out]; rintro e w1 ⟨rfl, hb1⟩; have g1 : Below w.heap.size w w1 := ((Below.refl _ _).alloc (Nat.le_refl _) _).trans (hb1.mono (by simp)))
    go_ret
    exact ⟨rfl, g1⟩
open Go.RowKit
mutual
/-- the greatest free variable and 1, or what was there before -/
def mxT : Int → Int → Tm → Int | d, a, .mk k n ks => mxL k d 0 (if k = 1 ∧ d ≤ n then max a (n - d + 1) else a) ks
def mxL : Int → Int → Nat → Int → List Tm → Int | _, _, _, a, [] => a | k, d, i, a, t :: ts => mxL k d (i + 1) (mxT (d + under k i) a t) ts
end
theorem mxL_append (k d : Int) (us : List Tm) : ∀ (ts : List Tm) (i : Nat) (a : Int), mxL k d i a (ts ++ us) = mxL k d (i + ts.length) (mxL k d i a ts) us
  | [], i, a => by simp [mxL]
  | t :: ts, i, a => by rw [List.cons_append, mxL, mxL, mxL_append k d us ts (i + 1), List.length_cons, show i + 1 + ts.length = i + (ts.length + 1) from by omega]
theorem mxL_take (k d a : Int) {ks : List Tm} {j : Nat} (hj : j < ks.length) : mxL k d 0 a (ks.take (j + 1)) = mxT (d + under k j) (mxL k d 0 a (ks.take j)) ks[j] := by
  rw [List.take_succ_eq_append_getElem hj, mxL_append, List.length_take, Nat.min_eq_left (Nat.le_of_lt hj), Nat.zero_add, mxL, mxL]
theorem mx_le : (∀ (t : Tm) (q : Nat) (d a : Int), shape q t = true → 0 ≤ d → 0 ≤ a → a ≤ 21 → 0 ≤ mxT d a t ∧ mxT d a t ≤ 21) ∧
    (∀ (ts : List Tm) (q : Nat) (k d a : Int) (i : Nat), (∀ t, t ∈ ts → shape q t = true) → 0 ≤ d → 0 ≤ a → a ≤ 21 → 0 ≤ mxL k d i a ts ∧ mxL k d i a ts ≤ 21) := by
  refine Tm.ind2 (fun k n ks ih q d a h hd h0 h1 => ?_) (fun q k d a i _ _ h0 h1 => by rw [mxL]; exact ⟨h0, h1⟩) (fun t ts h1 h2 q k d a i hk hd h0 h3 => ?_)
  · obtain ⟨q, rfl, ha, hn0, hm, hk⟩ := shape_pos h
    rw [mxT]
    refine ih q k d _ 0 hk hd ?_ ?_
    · split <;> omega
    · split
      · rename_i hc
        have : mostN k = 20 := by rw [hc.1]; rfl
        omega
      · exact h1
  · rw [mxL]
    have := under_le k i
    have h4 := h1 q (d + under k i) a (hk t List.mem_cons_self) (by omega) h0 h3
    exact h2 q k d _ (i + 1) (fun t ht => hk t (List.mem_cons_of_mem _ ht)) hd h4.1 h4.2
theorem grown_belowM {w w' : World} {g B : Nat} (h : w.grownBy w' (some g)) (hB : B ≤ w.heap.size) (hg : B ≤ g) : Below B w w' :=
  ⟨h.os, h.tape, h.output, h.size, fun b hb => h.block b (by omega) (by simp; omega)⟩
def UnitM : Value := .tuple #[]
set_option maxHeartbeats 2000000 in
set_option maxRecDepth 100000 in
theorem cl70_any (z cc : Int) (g : Nat) (w : World) (hg : Blk w g #[.int .i64 cc]) (h0 : 0 ≤ cc) (h1 : cc ≤ 1000) (hz : 0 ≤ z) (hz1 : z ≤ 1000) :
    Calls Tryz.prog 49 #[.int .i64 z, .pointer (some ⟨g, 0, none⟩)] w fun e w' => e = .returned UnitM ∧ Blk w' g #[.int .i64 (max cc (z + 1))] ∧ w.grownBy w' (some g) := by
  have a1 := hg.at_ (i := 0) rfl
  have a2 := hg.frozen 0
  go_enter Tryz.func49, Tryz.ntmps49
  all_goals go_wp2_with fail
  all_goals first | (refine bodyPost_ret (results_none rfl _ _ _) rfl ?_) | (refine bodyPost_end (results_none rfl _ _ _) rfl ?_)
  all_goals exact ⟨rfl, by first | (exact hg.set_ 0 _) | (rw [show max cc (z + 1) = z + 1 from by omega]; exact hg.set_ 0 _) | (rw [show max cc (z + 1) = cc from by omega]; exact hg.set_ 0 _), only_setCell (World.grownBy.refl _ _) (.inl rfl) _⟩
def MxPost (g : Nat) (cc : Int) (w : World) (e : Ending) (w' : World) : Prop := e = .returned UnitM ∧ Blk w' g #[.int .i64 cc] ∧ w.grownBy w' (some g)
set_option maxHeartbeats 4000000 in
set_option maxRecDepth 100000 in
theorem freeM_any (N : Nat) : ∀ (k n : Int) (ks : List Tm) (A : Option Addr) (c : Nat) (d : Int) (q : Nat) (g : Nat) (cc : Int) (w : World), sizes ks < N → sizes ks ≤ 1000000 → shape q (.mk k n ks) = true → 0 ≤ d → d + q ≤ 1000 → Blk w g #[.int .i64 cc] → 0 ≤ cc → cc ≤ 21 → RdP (· ≠ g) w A 0 ks →
    Calls Tryz.prog 48 #[.agg #[.int .i64 k, .int .i64 n, .slice A ks.length c], .int .i64 d, .func (.func 49) #[] #[.pointer (some ⟨g, 0, none⟩)]] w (MxPost g (mxT d cc (.mk k n ks)) w) := by
  induction N with
  | zero => intro k n ks A c d q g cc w hN; exact absurd hN (Nat.not_lt_zero _)
  | succ N ih =>
  intro k n ks A c d q g cc w hN hZM hsh hd hdq hg h0 hM hr
  have hrun := run_enter Tryz.func49 (by kernel_rfl) (by kernel_rfl)
  have hlen := length_le_sizes ks
  obtain ⟨q, rfl, ha, hm1, hm2, hkids⟩ := shape_pos hsh
  have hgl := hg.lt
  rw [mxT]
  by_cases hk : k = 1
  · subst hk
    have := var_nil ha
    subst this
    have hn2 : n ≤ 20 := by simpa [mostN] using hm2
    rw [mxL]
    clear hkids hsh ha hm2
    by_cases h1 : d ≤ n
    · have q1 : decide (d ≤ n) = true := decide_eq_true h1
      rw [if_pos ⟨rfl, h1⟩]
      generalize hcv : max cc (n - d + 1) = cv
      have hcv' := hide hcv
      have h1' := hide h1
      have hnd : 0 ≤ n - d ∧ n - d ≤ 20 := by omega
      clear hcv h1
      go_enter Tryz.func48, Tryz.ntmps48
      go_wp2_with (refine (cl70_any (n - d) cc g _ (hg.alloc _) h0 (by omega) hnd.1 (by omega)).mono ?_; rw [hcv'.out]; rintro e w1 ⟨rfl, hg1, hb1⟩; have hB1 := (Blk.new_ (n := w.heap.size) w 25 #[.int .i64 1, .int .i64 n, .slice A 0 c] rfl).grown hb1 (by simp; omega); replace hb1 := only_trans (only_alloc (World.grownBy.refl _ _) _) hb1; have b2 := hB1.at_ (i := 2) rfl)
      go_loopw [26] (fun i wr => i = .int .i64 0 ∧ Blk wr g #[.int .i64 (cv)] ∧ w.grownBy wr (some g)) (fun _ _ => 0)
      case atStart => exact ⟨rfl, hg1, hb1⟩
      case round =>
        obtain ⟨rfl, hG, hgr⟩ := hrel
        go_wp2_with fail
        first | (refine bodyPost_ret (results_none rfl _ _ _) rfl ?_) | (refine bodyPost_end (results_none rfl _ _ _) rfl ?_)
        exact ⟨rfl, hG, hgr⟩
    · have q1 : decide (d ≤ n) = false := decide_eq_false h1
      rw [if_neg (by rintro ⟨-, h⟩; exact h1 h)]
      clear h1
      go_enter Tryz.func48, Tryz.ntmps48
      go_wp2_with fail
      have hb1 : w.grownBy (w.alloc (.cells #[.int .i64 1, .int .i64 n, .slice A 0 c] 25)) (some g) := only_alloc (World.grownBy.refl _ _) _
      have hg1 := hg.alloc (.cells #[.int .i64 1, .int .i64 n, .slice A 0 c] 25)
      go_loopw [26] (fun i wr => i = .int .i64 0 ∧ Blk wr g #[.int .i64 (cc)] ∧ w.grownBy wr (some g)) (fun _ _ => 0)
      case atStart => exact ⟨rfl, hg1, hb1⟩
      case round =>
        obtain ⟨rfl, hG, hgr⟩ := hrel
        go_wp2_with fail
        first | (refine bodyPost_ret (results_none rfl _ _ _) rfl ?_) | (refine bodyPost_end (results_none rfl _ _ _) rfl ?_)
        exact ⟨rfl, hG, hgr⟩
  · have q1 : (k == 1) = false := by simpa using hk
    rw [if_neg (by rintro ⟨h, -⟩; exact hk h)]
    have hkids' := hide hkids
    clear hk hkids hsh ha hm2
    go_enter Tryz.func48, Tryz.ntmps48
    go_wp2_with fail
    go_loopw [26] (fun i wr => ∃ (j : Nat), j ≤ ks.length ∧ i = .int .i64 j ∧ Blk wr g #[.int .i64 (mxL k d 0 cc (ks.take j))] ∧ Blk wr w.heap.size #[.int .i64 k, .int .i64 n, .slice A ks.length c] ∧ w.grownBy wr (some g)) (fun i _ => ks.length - (intOf i).toNat)
    case atStart => exact ⟨0, Nat.zero_le _, rfl, by simpa [mxL] using hg.alloc _, Blk.new_ _ _ _ rfl, only_alloc (World.grownBy.refl _ _) _⟩
    case round =>
      obtain ⟨j, hj, rfl, hG, hB1, hgr⟩ := hrel
      by_cases hlt : j < ks.length
      · obtain ⟨b, off, k1, n1, ks1, A1, c1, rfl, hkj, hc1, hc2, hc3, hl1, hr1⟩ := (hr.grown hgr (fun b hb e => hb (by injection e))).at_ hlt
        have hbl := World.block_lt_of_cell? _ _ hc1
        have hsz := sizes_le (List.getElem_mem hlt)
        have hcs := mx_le.2 (ks.take j) q k d cc 0 (fun t ht => hkids'.out t (List.mem_of_mem_take ht)) hd h0 hM
        have hsk := hkids'.out _ (List.getElem_mem hlt)
        have hnx := hide (mxL_take k d cc hlt)
        generalize mxL k d 0 cc (ks.take j) = cj at hG hcs hnx
        rw [hkj] at hsz hsk
        simp only [Tm.size] at hsz
        have H3 := hide hkj
        have H4 := hide hsk
        clear hkj hsk
        go_wp2_with fail
        have hNew := Blk.new_ (n := wr.heap.size) wr 25 #[.int .i64 k1, .int .i64 n1, .slice A1 ks1.length c1] rfl
        have hB1a := hB1.alloc (.cells #[.int .i64 k1, .int .i64 n1, .slice A1 ks1.length c1] 25)
        have hGa := hG.alloc (.cells #[.int .i64 k1, .int .i64 n1, .slice A1 ks1.length c1] 25)
        have hra := hr1.alloc (.cells #[.int .i64 k1, .int .i64 n1, .slice A1 ks1.length c1] 25)
        have hwa : wr.grownBy (wr.alloc (.cells #[.int .i64 k1, .int .i64 n1, .slice A1 ks1.length c1] 25)) (some g) := only_alloc (World.grownBy.refl _ _) _
        generalize wr.alloc (.cells #[.int .i64 k1, .int .i64 n1, .slice A1 ks1.length c1] 25) = wa at hNew hB1a hGa hra hwa ⊢
        have r7 := hB1a.rule (i := 0) rfl
        have r1 := hNew.rule (i := 0) rfl
        have r2 := hNew.rule (i := 1) rfl
        have r3 := hNew.rule (i := 2) rfl
        have hun := under_le k j
        refine wp_region_firstY (fun w' => Below wa.heap.size wa w') [0, 1, 2, 3, 4, 5, 6, 7] [] [8] [_, _, _, _, _, _, _, _] [] [_] (by kernel_rfl) (by kernel_rfl) rfl rfl rfl (fun _ _ d _ _ h => by cases d <;> exact h) (Below.refl _ _).drew ?_
        repeat (first | ((refine takeY_skip (a' := ?_) ?_ ?_ ?_); (rotate_left); (· (simp [Region.wanted, yielded, Go.undef]; done)); (· (simp only [List.getElem_toArray, List.getElem_cons_zero, List.getElem_cons_succ, Act.put, List.setIfInBounds_toArray, List.set_cons_zero, List.set_cons_succ]; exact rfl))) | ((refine takeY_step (v := ?_) (a' := ?_) ?_ ?_ ?_ ?_); (rotate_left 2); (· (simp [Region.wanted, yielded, Go.undef]; done)); (· (intro w' hS'; go_simp; try (with_reducible rfl))); (· (simp only [List.getElem_toArray, List.getElem_cons_zero, List.getElem_cons_succ, Act.put, List.setIfInBounds_toArray, List.set_cons_zero, List.set_cons_succ]; exact rfl))) | ((refine takeY_call (v := ?_) (a' := ?_) 70 ?_ ?_ ?_ ?_ ?_ ?_); (rotate_left 3); (· (simp [Region.wanted, yielded, Go.undef]; done)); (· (intro w' hS'; go_simp; try (with_reducible rfl))); (· (intro w' hS'; exact iUnder_any _ _ _)); (· (simp only [List.getElem_toArray, List.getElem_cons_zero, List.getElem_cons_succ, Act.put, List.setIfInBounds_toArray, List.set_cons_zero, List.set_cons_succ]; exact rfl))))
        refine takeY_nil (then_nil ?_)
        clear r1 r2 r3 r7
        go_wp2_with (go_at_call 48; refine (ih k1 n1 ks1 A1 c1 (d + under k j) q g cj _ (by omega) (by omega) H4.out (by omega) (by omega) hGa.drew hcs.1 hcs.2 hra.drew).mono ?_; rintro e w1 ⟨rfl, hg1, hb1⟩)
        have hb1' : wr.grownBy w1 (some g) := only_trans hwa (only_trans (only_drew (World.grownBy.refl _ _)) hb1)
        go_roundw
        case rel => exact ⟨j + 1, by omega, by go_num, by rw [hnx.out, H3.out]; exact hg1, hB1.grown hb1' (by simp; omega), only_trans hgr hb1'⟩
        case measure => simp [intOf]; omega
      · go_wp2_with fail
        first | (refine bodyPost_ret (results_none rfl _ _ _) rfl ?_) | (refine bodyPost_end (results_none rfl _ _ _) rfl ?_)
        have hjl : j = ks.length := by omega
        subst hjl
        rw [List.take_length] at hG
        exact ⟨rfl, hG, hgr⟩
/-- the greatest free variable and 1 -/
def mfT (t : Tm) : Int := mxT 0 0 t
theorem mfT_le {t : Tm} (h : validT t = true) : 0 ≤ mfT t ∧ mfT t ≤ 21 := mx_le.1 t 30 0 0 (by simp only [validT, Bool.and_eq_true] at h; exact h.1) (by omega) (by omega) (by omega)
set_option maxHeartbeats 2000000 in
set_option maxRecDepth 100000 in
theorem maxFreeM_any (k n : Int) (ks : List Tm) (A : Option Addr) (c : Nat) (w : World) (hv : validT (.mk k n ks) = true) (hr : Rd w A 0 ks) :
    Calls Tryz.prog 23 #[.agg #[.int .i64 k, .int .i64 n, .slice A ks.length c]] w fun e w' => e = .returned (.int .i64 (mfT (.mk k n ks))) ∧ Below w.heap.size w w' := by
  have hsh : shape 30 (.mk k n ks) = true := by simp only [validT, Bool.and_eq_true] at hv; exact hv.1
  have hzv := validT_size' hv
  have hRp : RdP (· ≠ w.heap.size + 1) w A 0 ks := hr.rdp.mono (fun b hb => by omega)
  have hshh := hide hsh
  clear hv hsh
  rw [mfT]
  go_enter Tryz.func23, Tryz.ntmps23
  go_wp2_with (go_at_call 48; refine (freeM_any _ k n ks A c 0 30 (w.heap.size + 1) 0 _ (Nat.lt_succ_self _) (by omega) hshh.out (by omega) (by omega) (Blk.new_ _ _ _ (by simp)) (by omega) (by omega) ((hRp.alloc _).alloc _)).mono ?_; rintro e w1 ⟨rfl, hg1, hb1⟩; have g0 := hg1.at_ (i := 0) rfl)
  go_ret
  exact ⟨rfl, (((Below.refl _ _).alloc (Nat.le_refl _) _).alloc (by simp) _).trans (grown_belowM hb1 (by simp; omega) (by omega))⟩
set_option maxHeartbeats 2000000 in
set_option maxRecDepth 100000 in
theorem MaxFreeM_any (k n : Int) (ks : List Tm) (A : Option Addr) (c : Nat) (w : World) (hM : sizes ks ≤ 1000000) (hr : Rd w A 0 ks) :
    Calls Tryz.prog 9 #[.agg #[.int .i64 k, .int .i64 n, .slice A ks.length c]] w fun e w' => e = .returned (.int .i64 (if validT (.mk k n ks) = true then mfT (.mk k n ks) else -1)) ∧ Below w.heap.size w w' := by
  by_cases hv : validT (.mk k n ks) = true
  · rw [if_pos hv]
    have hvh := hide hv
    clear hv
    go_enter Tryz.func9, Tryz.ntmps9
    go_wp2_with (first
      | (go_at_call 23; have _t := tok1; refine (maxFreeM_any k n ks A c _ hvh.out ((hr.alloc _).below hb1)).mono ?_; rintro e w2 ⟨rfl, hb2⟩)
      | (go_at_call 20; refine (iTermValid_any k n ks A c _ (by omega) (hr.alloc _)).mono ?_; rw [hvh.out]; rintro e w1 ⟨rfl, hb1⟩; have hX := (Blk.new_ w 25 #[.int .i64 k, .int .i64 n, .slice A ks.length c] rfl).keep hb1; have g1 : Below w.heap.size w w1 := ((Below.refl _ _).alloc (Nat.le_refl _) _).trans (hb1.mono (by simp)); obtain ⟨x0, x1, x2⟩ := hX.three; have tok1 := trivial))
    go_ret
    exact ⟨rfl, g1.trans (hb2.mono g1.size)⟩
  · rw [if_neg hv]
    have hvh := hide (show validT (.mk k n ks) = false by simpa using hv)
    clear hv
    go_enter Tryz.func9, Tryz.ntmps9
    go_wp2_with (go_at_call 20; refine (iTermValid_any k n ks A c _ (by omega) (hr.alloc _)).mono ?_; rw [hvh.out]; rintro e w1 ⟨rfl, hb1⟩; have g1 : Below w.heap.size w w1 := ((Below.refl _ _).alloc (Nat.le_refl _) _).trans (hb1.mono (by simp)))
    go_ret
    exact ⟨rfl, g1⟩
end Go.Proofs.YtodkpgkefjegnaaGreatDoor
