/-
  Contracts of the functions that the law reaches, and plain lemmas. No condition.
-/
import Derived.Test.YthgmofdfecioaaaGreatDoorK3
import Derived.Test.YthgmofdfecioaaaGreatDoorK11
import Derived.Test.YthgmofdfecioaaaGreatDoorK12
import Derived.Lib.Replace
namespace Go.Proofs.YthgmofdfecioaaaGreatDoor
set_option linter.unusedSimpArgs false
set_option linter.unusedVariables false
open Go.RowKit
def ITextOk (t : Tm) (b : List UInt8) : Prop := ∀ (k n : Int) (ks : List Tm), t = .mk k n ks → ∀ (A : Option Addr) (c : Nat) (w : World), b.length ≤ 5000 → GM w → Rd w A 0 ks →
  Calls Tryz.prog 87 #[.agg #[.int .i64 k, .int .i64 n, .slice A ks.length c]] w fun e w' => e = .returned (.string (byt b)) ∧ Below w.heap.size w w'
set_option maxHeartbeats 4000000 in
set_option maxRecDepth 100000 in
theorem itext_num (d k : Nat) (n : Int) (c : UInt8) (h : (k = 1 ∧ n ≤ 9 ∨ k = 2 ∧ n ≤ 3) ∧ 0 ≤ n ∧ (c.toNat : Int) = 48 + n) : ITextOk (.mk k n []) ((shpX[k - 1]?).getD [] ++ [c]) := by
  intro k' n' ks' ht A cc w hl hm hr
  injection ht with h1 h2 h3
  subst h1 h2 h3
  have h9 : 0 ≤ n ∧ n ≤ 9 ∧ (c.toNat : Int) = 48 + n := ⟨h.2.1, by omega, h.2.2⟩
  have hh := hide h.1
  clear h
  rcases hh.out with ⟨rfl, _⟩ | ⟨rfl, _⟩
  · go_enter Tryz.func87, Tryz.ntmps87
    go_wp2_with fail
    refine name_world ?_
    intro wx hwx
    have hbx : Below w.heap.size w wx := by rw [hwx]; exact (Below.refl _ _).alloc (Nat.le_refl _) _
    have hX : Blk wx w.heap.size #[.int .i64 1, .int .i64 n, .slice A 0 cc] := by rw [hwx]; exact Blk.new_ _ _ _ rfl
    have r0 := hX.rule (i := 0) rfl
    clear hwx
    refine wp_region_firstY (fun w' => Below wx.heap.size wx w') [1, 2, 3] [0] [4, 5, 6] [_, _, _] [_] [_, _, _] (by kernel_rfl) (by kernel_rfl) rfl rfl rfl (fun _ _ d _ _ h => by cases d <;> exact h) (Below.refl _ _).drew ?_
    repeat (first | ((refine takeY_skip (a' := ?_) ?_ ?_ ?_); (rotate_left); (· (simp [Region.wanted, yielded, Go.undef]; done)); (· (simp only [List.getElem_toArray, List.getElem_cons_zero, List.getElem_cons_succ, Act.put, List.setIfInBounds_toArray, List.set_cons_zero, List.set_cons_succ]; exact rfl))) | ((refine takeY_step (v := ?_) (a' := ?_) ?_ ?_ ?_ ?_); (rotate_left 2); (· (simp [Region.wanted, yielded, Go.undef]; done)); (· (intro w' hS'; go_simp; try (with_reducible rfl))); (· (simp only [List.getElem_toArray, List.getElem_cons_zero, List.getElem_cons_succ, Act.put, List.setIfInBounds_toArray, List.set_cons_zero, List.set_cons_succ]; exact rfl))))
    refine takeY_nil (then_cons ?_)
    go_wp2_with (go_at_call 115; refine (shapes_at (g := wx.heap.size) _ (by simp)).mono ?_; rintro e w7 ⟨rfl, hH7, hb7⟩)
    have hx1 : Below wx.heap.size wx w7 := (Below.refl _ _).drew.trans hb7
    have hcl7 : w7.cell? ⟨wx.heap.size, 0, none⟩ = some (.string (byt (shp 1))) := hH7.at_ rfl
    refine mid_intro hx1 (then_nil ?_)
    have hX7 := hX.keep hx1
    have x0 := hX7.at_ (i := 0) rfl
    have x1 := hX7.at_ (i := 1) rfl
    have ha : ∀ w, (Op.stringOp .add (byt (shp 1)) (byt [c])).run Tryz.prog w = .ok (.string (byt ([35] ++ [c]))) w := fun w => add_strE (a := [35]) (b := [c]) rfl (by simp) w
    clear r0
    go_wp2_with (go_at_call 117; refine (itoa_any n c h9 _).mono ?_; rintro e w8 ⟨rfl, rfl⟩)
    go_ret
    exact ⟨rfl, hbx.trans (hx1.mono hbx.size)⟩
  · go_enter Tryz.func87, Tryz.ntmps87
    go_wp2_with fail
    refine name_world ?_
    intro wx hwx
    have hbx : Below w.heap.size w wx := by rw [hwx]; exact (Below.refl _ _).alloc (Nat.le_refl _) _
    have hX : Blk wx w.heap.size #[.int .i64 2, .int .i64 n, .slice A 0 cc] := by rw [hwx]; exact Blk.new_ _ _ _ rfl
    have r0 := hX.rule (i := 0) rfl
    clear hwx
    refine wp_region_firstY (fun w' => Below wx.heap.size wx w') [1, 2, 3] [0] [4, 5, 6] [_, _, _] [_] [_, _, _] (by kernel_rfl) (by kernel_rfl) rfl rfl rfl (fun _ _ d _ _ h => by cases d <;> exact h) (Below.refl _ _).drew ?_
    repeat (first | ((refine takeY_skip (a' := ?_) ?_ ?_ ?_); (rotate_left); (· (simp [Region.wanted, yielded, Go.undef]; done)); (· (simp only [List.getElem_toArray, List.getElem_cons_zero, List.getElem_cons_succ, Act.put, List.setIfInBounds_toArray, List.set_cons_zero, List.set_cons_succ]; exact rfl))) | ((refine takeY_step (v := ?_) (a' := ?_) ?_ ?_ ?_ ?_); (rotate_left 2); (· (simp [Region.wanted, yielded, Go.undef]; done)); (· (intro w' hS'; go_simp; try (with_reducible rfl))); (· (simp only [List.getElem_toArray, List.getElem_cons_zero, List.getElem_cons_succ, Act.put, List.setIfInBounds_toArray, List.set_cons_zero, List.set_cons_succ]; exact rfl))))
    refine takeY_nil (then_cons ?_)
    go_wp2_with (go_at_call 115; refine (shapes_at (g := wx.heap.size) _ (by simp)).mono ?_; rintro e w7 ⟨rfl, hH7, hb7⟩)
    have hx1 : Below wx.heap.size wx w7 := (Below.refl _ _).drew.trans hb7
    have hcl7 : w7.cell? ⟨wx.heap.size, 1, none⟩ = some (.string (byt (shp 2))) := hH7.at_ rfl
    refine mid_intro hx1 (then_nil ?_)
    have hX7 := hX.keep hx1
    have x0 := hX7.at_ (i := 0) rfl
    have x1 := hX7.at_ (i := 1) rfl
    have ha : ∀ w, (Op.stringOp .add (byt (shp 2)) (byt [c])).run Tryz.prog w = .ok (.string (byt ([42] ++ [c]))) w := fun w => add_strE (a := [42]) (b := [c]) rfl (by simp) w
    clear r0
    go_wp2_with (go_at_call 117; refine (itoa_any n c h9 _).mono ?_; rintro e w8 ⟨rfl, rfl⟩)
    go_ret
    exact ⟨rfl, hbx.trans (hx1.mono hbx.size)⟩
set_option maxHeartbeats 8000000 in
set_option maxRecDepth 100000 in
theorem itext_node (d k : Nat) (ts : List Tm) (xs : List (List UInt8)) (hk : 3 ≤ k ∧ k ≤ 16) (hl : (prt k).length = ts.length + 1) (hx : xs.length = ts.length)
    (ih : ∀ (j : Nat) (t : Tm) (x : List UInt8), ts[j]? = some t → xs[j]? = some x → ITextOk t x) : ITextOk (.mk k 0 ts) (inter (prt k) xs) := by
  intro k' n' ks' ht A cc w hlen hm hr
  injection ht with h1 h2 h3
  subst h1 h2 h3
  obtain ⟨c, y, z, ps, e1, e2, _⟩ := node_facts hk
  obtain ⟨p0, hp0⟩ : ∃ p0, c :: z = p0 := ⟨_, rfl⟩
  rw [hp0] at e2
  obtain ⟨F, hF⟩ : ∃ F, inter (prt k) xs = F := ⟨_, rfl⟩
  rw [hF] at hlen ⊢
  rw [e2, inter] at hF
  have hcell := hide (fun (w : World) (g : Nat) (hB : Blk w g (strs shpX)) => shp_cell hB (K := k) hk)
  have hsplit : Hid (∀ (w : World) (g : Nat), GM w → g = w.heap.size → Calls Tryz.prog 114 #[.string (byt (shp k)), .string ⟨#[46]⟩] w fun e w' => e = .returned (.slice (some ⟨g, 0, none⟩) (ts.length + 1) (ts.length + 1)) ∧ Blk w' g (strs (prt k)) ∧ Below w.heap.size w w') :=
    hide (fun w g h hg => by have := split_at (k := k) (g := g) hk w h hg; rwa [hl] at this)
  have q1 : ((k : Int) == 1) = false := beq_eq_false_iff_ne.2 (by omega)
  have q2 : ((k : Int) == 2) = false := beq_eq_false_iff_ne.2 (by omega)
  have hK1 : (1 : Int) ≤ k := by omega
  have hK2 : (k : Int) ≤ 16 := by omega
  have hl3 : (0 : Int) < (ts.length : Int) + 1 := by omega
  have hps : ps.length = ts.length := by rw [e2] at hl; simpa using hl
  have htl : ts.length ≤ 5 := by have := prt_len hk; omega
  have hm' := hide hm
  have h0 := hide (show (prt k)[0]? = some p0 by rw [e2]; rfl)
  have hX := hide (And.intro hps (And.intro hx (And.intro hF (And.intro ih (And.intro e2 hk)))))
  clear hk hl hx ih hp0 e1 e2 hF hps hm
  go_enter Tryz.func87, Tryz.ntmps87
  go_wp2_with fail
  refine name_world ?_
  intro wx hwx
  have hbx : Below w.heap.size w wx := by rw [hwx]; exact (Below.refl _ _).alloc (Nat.le_refl _) _
  have hB : Blk wx w.heap.size #[.int .i64 k, .int .i64 0, .slice A ts.length cc] := by rw [hwx]; exact Blk.new_ _ _ _ rfl
  have r0 := hB.rule (i := 0) rfl
  clear hwx
  refine wp_region_firstY (fun w' => Below wx.heap.size wx w') [1, 2, 3] [0] [4, 5, 6] [_, _, _] [_] [_, _, _] (by kernel_rfl) (by kernel_rfl) rfl rfl rfl (fun _ _ d _ _ h => by cases d <;> exact h) (Below.refl _ _).drew ?_
  repeat (first | ((refine takeY_skip (a' := ?_) ?_ ?_ ?_); (rotate_left); (· (simp [Region.wanted, yielded, Go.undef]; done)); (· (simp only [List.getElem_toArray, List.getElem_cons_zero, List.getElem_cons_succ, Act.put, List.setIfInBounds_toArray, List.set_cons_zero, List.set_cons_succ]; exact rfl))) | ((refine takeY_step (v := ?_) (a' := ?_) ?_ ?_ ?_ ?_); (rotate_left 2); (· (simp [Region.wanted, yielded, Go.undef]; done)); (· (intro w' hS'; go_simp; try (with_reducible rfl))); (· (simp only [List.getElem_toArray, List.getElem_cons_zero, List.getElem_cons_succ, Act.put, List.setIfInBounds_toArray, List.set_cons_zero, List.set_cons_succ]; exact rfl))))
  refine takeY_nil (then_cons ?_)
  go_wp2_with (go_at_call 115; refine (shapes_at (g := wx.heap.size) _ (by simp)).mono ?_; rintro e w7 ⟨rfl, hH7, hb7⟩)
  have hx1 : Below wx.heap.size wx w7 := (Below.refl _ _).drew.trans hb7
  have hcl7 := hcell.out _ _ hH7
  refine mid_intro hx1 (then_nil ?_)
  replace hB := hB.keep hx1
  have hb8 : Below w.heap.size w w7 := hbx.trans (hx1.mono hbx.size)
  have x0 := hB.at_ (i := 0) rfl
  have x2 := hB.at_ (i := 2) rfl
  have gm7 : GM w7 := hm'.out.keep hb8
  clear r0
  go_wp2_with (go_at_call 114; refine (hsplit.out _ w7.heap.size gm7 rfl).mono ?_; rintro e w8 ⟨rfl, hP, hb9⟩; replace hB := hB.keep hb9; clear x0 x2; have x2 := hB.at_ (i := 2) rfl; have hpc := prt_cell hP h0.out; have g8 : Below w.heap.size w w8 := hb8.trans (hb9.mono hb8.size); have lB := hB.lt)
  go_loopw [5, 35] (fun o i wr => ∃ (j : Nat) (O : List UInt8), j ≤ ts.length ∧ Hid (O ++ rem (xs.drop j) (ps.drop j) = F) ∧ o = .string (byt O) ∧ i = .int .i64 j ∧ Blk wr w7.heap.size (strs (prt k)) ∧ Blk wr w.heap.size #[.int .i64 k, .int .i64 0, .slice A ts.length cc] ∧ Below w.heap.size w wr) (fun _ i _ => ts.length - (intOf i).toNat)
  case atStart => exact ⟨0, p0, Nat.zero_le _, hide hX.out.2.2.1, rfl, rfl, hP, hB, g8⟩
  case round =>
    obtain ⟨j, O, hj, hO, rfl, rfl, hPr, hBr, hb⟩ := hrel
    by_cases hlt : j < ts.length
    · obtain ⟨b, off, k1, n1, ks1, A1, c1, rfl, hkj, hc1, hc2, hc3, hl1, hr1⟩ := (hr.below hb).at_ hlt
      have hlx : j < xs.length := by have := hX.out.2.1; omega
      have hlp : j < ps.length := by have := hX.out.1; omega
      obtain ⟨x, hxj⟩ : ∃ x, xs[j]? = some x := ⟨_, List.getElem?_eq_getElem hlx⟩
      obtain ⟨p, hpj⟩ : ∃ p, ps[j]? = some p := ⟨_, List.getElem?_eq_getElem hlp⟩
      have hO2 : (O ++ (x ++ p)) ++ rem (xs.drop (j + 1)) (ps.drop (j + 1)) = F := by rw [← hO.out, rem_drop hxj hpj]; simp
      have hOl : O.length + (x.length + p.length) ≤ 5000 := by rw [← hO2] at hlen; simp at hlen; omega
      have hprt : (prt k)[j + 1]? = some p := by rw [hX.out.2.2.2.2.1]; simpa using hpj
      have hO2' := hide hO2
      have hkid := hide (hX.out.2.2.2.1 j (.mk k1 n1 ks1) x (by rw [List.getElem?_eq_getElem hlt, hkj]) hxj k1 n1 ks1 rfl)
      have ha1 : ∀ w, (Op.stringOp .add (byt x) (byt p)).run Tryz.prog w = .ok (.string (byt (x ++ p))) w := fun w => add_strE rfl (by omega) w
      have ha2 : ∀ w, (Op.stringOp .add (byt O) (byt (x ++ p))).run Tryz.prog w = .ok (.string (byt (O ++ (x ++ p)))) w := fun w => add_strE rfl (by simp; omega) w
      have hxl : x.length ≤ 5000 := by omega
      have hbl := World.block_lt_of_cell? _ _ hc1
      have lr := hb.size
      have lp := hPr.lt
      have lb := hBr.lt
      have hw : IntKind.i64.wrap ((j : Int) + 1) = (j : Int) + 1 := IntWalk.i64_in _ ⟨by omega, by omega⟩
      have hw2 : (0 : Int) ≤ (j : Int) + 1 ∧ (j : Int) + 1 < (ts.length : Int) + 1 := by omega
      have hprt' := hide hprt
      clear hkj hxj hpj hO2 hprt hO hOl hlx hlp
      go_wp2_with fail
      refine name_world ?_
      intro wy hwy
      have hyb : Below wr.heap.size wr wy := by rw [hwy]; exact (Below.refl _ _).alloc (Nat.le_refl _) _
      have hY : Blk wy wr.heap.size #[.int .i64 k1, .int .i64 n1, .slice A1 ks1.length c1] := by rw [hwy]; exact Blk.new_ _ _ _ rfl
      have hPy := hPr.keep hyb
      obtain ⟨z0, z1, z2⟩ := hY.three
      have r0 := rule_of z0
      have r1 := rule_of z1
      have r2 := rule_of z2
      have r3 := rule_of (prt_cell hPy hprt'.out)
      clear hwy z0 z1 z2
      have sm := fun (w' : World) (hw' : Below wy.heap.size wy w') => hkid.out A1 c1 w' hxl ((hm'.out.keep (hb.trans (hyb.mono hb.size))).keep hw') ((hr1.below hyb).below hw')
      refine wp_region_class (fun w' => Below wy.heap.size wy w') (by kernel_rfl) (by kernel_rfl) (Below.refl _ _).drew ?_
      repeat (first | ((refine quiet_skip (a' := ?_) ?_ ?_ ?_); (rotate_left); (· (simp [Region.wanted, yielded, Go.undef]; done)); (· (simp only [Act.put, List.setIfInBounds_toArray, List.set_cons_zero, List.set_cons_succ]; exact rfl))) | ((refine quiet_one (v := ?_) (a' := ?_) ?_ ?_ ?_ ?_); (rotate_left 2); (· (simp [Region.wanted, yielded, Go.undef]; done)); (· (intro w' hS'; go_simp; try (with_reducible rfl))); (· (simp only [Act.put, List.setIfInBounds_toArray, List.set_cons_zero, List.set_cons_succ]; exact rfl))) | ((refine quiet_below (v := ?_) (a' := ?_) 87 ?_ ?_ ?_ ?_ ?_ ?_); (rotate_left 3); (· (simp [Region.wanted, yielded, Go.undef]; done)); (· (intro w' hS'; go_simp; try (with_reducible rfl))); (· (intro w' hS'; exact sm w' hS')); (· (simp only [Act.put, List.setIfInBounds_toArray, List.set_cons_zero, List.set_cons_succ]; exact rfl))))
      refine quiet_nil ?_
      intro w9 hx2
      clear r0 r1 r2 r3 sm
      go_wp2_with fail
      have hx3 : Below wr.heap.size wr w9 := hyb.trans (hx2.mono hyb.size)
      go_roundw
      case rel => exact ⟨j + 1, _, by omega, hO2', rfl, by go_num, hPr.keep hx3, hBr.keep hx3, hb.trans (hx3.mono hb.size)⟩
      case measure => simp [intOf]; omega
    · go_wp2_with fail
      go_ret
      obtain rfl : j = ts.length := by omega
      have h5 := hO.out
      rw [show xs.drop ts.length = [] from List.drop_eq_nil_of_le (by have := hX.out.2.1; omega), rem_nil, List.append_nil] at h5
      exact ⟨by rw [h5]; rfl, hb⟩
/-- the program's text of a term -/
theorem termText_any {d : Nat} {t : Tm} {b : List UInt8} (h : Tu d t b) : ITextOk t b := by
  induction h with
  | num d k n c h => exact itext_num d k n c h
  | node d k ts xs hk hl hx ht ih => exact itext_node d k ts xs hk hl hx ih
open Go.RowKit
set_option maxRecDepth 100000
theorem Tx.cast {d : Nat} {t : Tm} {b b' : List UInt8} (h : Tx d t b) (e : b = b') : Tx d t b' := e ▸ h
/-- what the abbreviations stand for -/
def plusB : List UInt8 := [91, 78, 93, 91, 78, 93, 60, 91, 78, 93, 78, 44, 35, 49, 44, 91, 78, 93, 91, 78, 93, 43, 35, 48, 44, 35, 48, 62]
def predB : List UInt8 := [91, 78, 93, 60, 91, 78, 93, 78, 44, 48, 44, 91, 78, 93, 91, 78, 93, 35, 49, 44, 35, 48, 62]
/-- one text becomes another by the five replacements -/
def Chain (b0 b5 : List UInt8) : Prop := ∃ b1 b2 b3 b4 : List UInt8, (b0.length ≤ 1000 ∧ b1.length ≤ 1000 ∧ b2.length ≤ 1000 ∧ b3.length ≤ 1000 ∧ b4.length ≤ 1000) ∧
  Lib.replaceAll b0 [83, 40, 35, 48, 41] [40, 40, 80, 32, 48, 41, 32, 35, 48, 41] = b1 ∧ Lib.replaceAll b1 [83, 40, 35, 49, 41] [40, 40, 80, 32, 48, 41, 32, 35, 49, 41] = b2 ∧ Lib.replaceAll b2 [83, 40, 35, 50, 41] [40, 40, 80, 32, 48, 41, 32, 35, 50, 41] = b3 ∧ Lib.replaceAll b3 [80] plusB = b4 ∧ Lib.replaceAll b4 [81] predB = b5
theorem chain_nil : Chain [] [] := ⟨[], [], [], [], by decide, by decide +kernel, by decide +kernel, by decide +kernel, by decide +kernel, by decide +kernel⟩
def thS1R : List UInt8 := [40, 78, 62, 123, 78, 44, 40, 40, 80, 32, 35, 48, 41, 32, 48, 41, 44, 35, 48, 125, 41]
def thS1B : List UInt8 := [40, 78, 62, 123, 78, 44, 40, 40, 91, 78, 93, 91, 78, 93, 60, 91, 78, 93, 78, 44, 35, 49, 44, 91, 78, 93, 91, 78, 93, 43, 35, 48, 44, 35, 48, 62, 32, 35, 48, 41, 32, 48, 41, 44, 35, 48, 125, 41]
def thS1 : Tm := (.mk 3 0 [(.mk 6 0 []), (.mk 10 0 [(.mk 6 0 []), (.mk 5 0 [(.mk 5 0 [(.mk 4 0 [(.mk 6 0 []), (.mk 4 0 [(.mk 6 0 []), (.mk 9 0 [(.mk 4 0 [(.mk 6 0 []), (.mk 6 0 [])]), (.mk 1 1 []), (.mk 4 0 [(.mk 6 0 []), (.mk 4 0 [(.mk 6 0 []), (.mk 8 0 [(.mk 1 0 [])])])]), (.mk 1 0 [])])])]), (.mk 1 0 [])]), (.mk 7 0 [])]), (.mk 1 0 [])])])
theorem thS1_chain : Chain thS1R thS1B := ⟨[40, 78, 62, 123, 78, 44, 40, 40, 80, 32, 35, 48, 41, 32, 48, 41, 44, 35, 48, 125, 41], [40, 78, 62, 123, 78, 44, 40, 40, 80, 32, 35, 48, 41, 32, 48, 41, 44, 35, 48, 125, 41], [40, 78, 62, 123, 78, 44, 40, 40, 80, 32, 35, 48, 41, 32, 48, 41, 44, 35, 48, 125, 41], [40, 78, 62, 123, 78, 44, 40, 40, 91, 78, 93, 91, 78, 93, 60, 91, 78, 93, 78, 44, 35, 49, 44, 91, 78, 93, 91, 78, 93, 43, 35, 48, 44, 35, 48, 62, 32, 35, 48, 41, 32, 48, 41, 44, 35, 48, 125, 41], by decide +kernel, by decide +kernel, by decide +kernel, by decide +kernel, by decide +kernel, by decide +kernel⟩
theorem thS1_good : Good thS1 thS1B := ⟨Tx.cast (.rnd 29 3 62 _ _ _ _ (.inl ⟨rfl, rfl⟩) (.nat 28) (tx3 (.inr (.inl ⟨rfl, rfl, rfl, rfl⟩)) (.nat 27) (.rnd 27 5 32 _ _ _ _ (.inr (.inr ⟨rfl, rfl⟩)) (.rnd 26 5 32 _ _ _ _ (.inr (.inr ⟨rfl, rfl⟩)) (.lam 25 _ _ _ _ (.nat 24) (.lam 24 _ _ _ _ (.nat 23) (tx4 (.inl ⟨rfl, rfl, rfl, rfl⟩) (.lam 22 _ _ _ _ (.nat 21) (.nat 21)) (.var 22 1 49 (by decide)) (.lam 22 _ _ _ _ (.nat 21) (.lam 21 _ _ _ _ (.nat 20) (.pre 20 8 43 _ _ (.inl ⟨rfl, rfl⟩) (.var 19 0 48 (by decide))))) (.var 22 0 48 (by decide))))) (.var 25 0 48 (by decide))) (.zero 26)) (.var 27 0 48 (by decide)))) (by simp [ser, thS1B]), by decide +kernel, by decide⟩
def thP1R : List UInt8 := [91, 78, 93, 33, 35, 48]
def thP1B : List UInt8 := [91, 78, 93, 33, 35, 48]
def thP1 : Tm := (.mk 4 0 [(.mk 6 0 []), (.mk 11 0 [(.mk 1 0 [])])])
theorem thP1_chain : Chain thP1R thP1B := ⟨[91, 78, 93, 33, 35, 48], [91, 78, 93, 33, 35, 48], [91, 78, 93, 33, 35, 48], [91, 78, 93, 33, 35, 48], by decide +kernel, by decide +kernel, by decide +kernel, by decide +kernel, by decide +kernel, by decide +kernel⟩
theorem thP1_good : Good thP1 thP1B := ⟨Tx.cast (.lam 29 _ _ _ _ (.nat 28) (.pre 28 11 33 _ _ (.inr (.inl ⟨rfl, rfl⟩)) (.var 27 0 48 (by decide)))) (by simp [ser, thP1B]), by decide +kernel, by decide⟩
def thS2R : List UInt8 := [40, 78, 62, 123, 78, 44, 83, 40, 35, 48, 41, 44, 35, 48, 125, 41]
def thS2B : List UInt8 := [40, 78, 62, 123, 78, 44, 40, 40, 91, 78, 93, 91, 78, 93, 60, 91, 78, 93, 78, 44, 35, 49, 44, 91, 78, 93, 91, 78, 93, 43, 35, 48, 44, 35, 48, 62, 32, 48, 41, 32, 35, 48, 41, 44, 35, 48, 125, 41]
def thS2 : Tm := (.mk 3 0 [(.mk 6 0 []), (.mk 10 0 [(.mk 6 0 []), (.mk 5 0 [(.mk 5 0 [(.mk 4 0 [(.mk 6 0 []), (.mk 4 0 [(.mk 6 0 []), (.mk 9 0 [(.mk 4 0 [(.mk 6 0 []), (.mk 6 0 [])]), (.mk 1 1 []), (.mk 4 0 [(.mk 6 0 []), (.mk 4 0 [(.mk 6 0 []), (.mk 8 0 [(.mk 1 0 [])])])]), (.mk 1 0 [])])])]), (.mk 7 0 [])]), (.mk 1 0 [])]), (.mk 1 0 [])])])
theorem thS2_chain : Chain thS2R thS2B := ⟨[40, 78, 62, 123, 78, 44, 40, 40, 80, 32, 48, 41, 32, 35, 48, 41, 44, 35, 48, 125, 41], [40, 78, 62, 123, 78, 44, 40, 40, 80, 32, 48, 41, 32, 35, 48, 41, 44, 35, 48, 125, 41], [40, 78, 62, 123, 78, 44, 40, 40, 80, 32, 48, 41, 32, 35, 48, 41, 44, 35, 48, 125, 41], [40, 78, 62, 123, 78, 44, 40, 40, 91, 78, 93, 91, 78, 93, 60, 91, 78, 93, 78, 44, 35, 49, 44, 91, 78, 93, 91, 78, 93, 43, 35, 48, 44, 35, 48, 62, 32, 48, 41, 32, 35, 48, 41, 44, 35, 48, 125, 41], by decide +kernel, by decide +kernel, by decide +kernel, by decide +kernel, by decide +kernel, by decide +kernel⟩
theorem thS2_good : Good thS2 thS2B := ⟨Tx.cast (.rnd 29 3 62 _ _ _ _ (.inl ⟨rfl, rfl⟩) (.nat 28) (tx3 (.inr (.inl ⟨rfl, rfl, rfl, rfl⟩)) (.nat 27) (.rnd 27 5 32 _ _ _ _ (.inr (.inr ⟨rfl, rfl⟩)) (.rnd 26 5 32 _ _ _ _ (.inr (.inr ⟨rfl, rfl⟩)) (.lam 25 _ _ _ _ (.nat 24) (.lam 24 _ _ _ _ (.nat 23) (tx4 (.inl ⟨rfl, rfl, rfl, rfl⟩) (.lam 22 _ _ _ _ (.nat 21) (.nat 21)) (.var 22 1 49 (by decide)) (.lam 22 _ _ _ _ (.nat 21) (.lam 21 _ _ _ _ (.nat 20) (.pre 20 8 43 _ _ (.inl ⟨rfl, rfl⟩) (.var 19 0 48 (by decide))))) (.var 22 0 48 (by decide))))) (.zero 25)) (.var 26 0 48 (by decide))) (.var 27 0 48 (by decide)))) (by simp [ser, thS2B]), by decide +kernel, by decide⟩
def thP2R : List UInt8 := [91, 78, 93, 60, 91, 78, 93, 123, 78, 44, 83, 40, 35, 48, 41, 44, 35, 48, 125, 44, 33, 48, 44, 91, 78, 93, 91, 123, 78, 44, 83, 40, 35, 48, 41, 44, 35, 48, 125, 93, 64, 60, 91, 78, 93, 123, 78, 44, 43, 83, 40, 35, 50, 41, 44, 43, 35, 48, 125, 44, 35, 48, 44, 33, 43, 83, 40, 35, 49, 41, 62, 44, 35, 48, 62]
def thP2B : List UInt8 := [91, 78, 93, 60, 91, 78, 93, 123, 78, 44, 40, 40, 91, 78, 93, 91, 78, 93, 60, 91, 78, 93, 78, 44, 35, 49, 44, 91, 78, 93, 91, 78, 93, 43, 35, 48, 44, 35, 48, 62, 32, 48, 41, 32, 35, 48, 41, 44, 35, 48, 125, 44, 33, 48, 44, 91, 78, 93, 91, 123, 78, 44, 40, 40, 91, 78, 93, 91, 78, 93, 60, 91, 78, 93, 78, 44, 35, 49, 44, 91, 78, 93, 91, 78, 93, 43, 35, 48, 44, 35, 48, 62, 32, 48, 41, 32, 35, 48, 41, 44, 35, 48, 125, 93, 64, 60, 91, 78, 93, 123, 78, 44, 43, 40, 40, 91, 78, 93, 91, 78, 93, 60, 91, 78, 93, 78, 44, 35, 49, 44, 91, 78, 93, 91, 78, 93, 43, 35, 48, 44, 35, 48, 62, 32, 48, 41, 32, 35, 50, 41, 44, 43, 35, 48, 125, 44, 35, 48, 44, 33, 43, 40, 40, 91, 78, 93, 91, 78, 93, 60, 91, 78, 93, 78, 44, 35, 49, 44, 91, 78, 93, 91, 78, 93, 43, 35, 48, 44, 35, 48, 62, 32, 48, 41, 32, 35, 49, 41, 62, 44, 35, 48, 62]
def thP2 : Tm := (.mk 4 0 [(.mk 6 0 []), (.mk 9 0 [(.mk 4 0 [(.mk 6 0 []), (.mk 10 0 [(.mk 6 0 []), (.mk 5 0 [(.mk 5 0 [(.mk 4 0 [(.mk 6 0 []), (.mk 4 0 [(.mk 6 0 []), (.mk 9 0 [(.mk 4 0 [(.mk 6 0 []), (.mk 6 0 [])]), (.mk 1 1 []), (.mk 4 0 [(.mk 6 0 []), (.mk 4 0 [(.mk 6 0 []), (.mk 8 0 [(.mk 1 0 [])])])]), (.mk 1 0 [])])])]), (.mk 7 0 [])]), (.mk 1 0 [])]), (.mk 1 0 [])])]), (.mk 11 0 [(.mk 7 0 [])]), (.mk 4 0 [(.mk 6 0 []), (.mk 4 0 [(.mk 10 0 [(.mk 6 0 []), (.mk 5 0 [(.mk 5 0 [(.mk 4 0 [(.mk 6 0 []), (.mk 4 0 [(.mk 6 0 []), (.mk 9 0 [(.mk 4 0 [(.mk 6 0 []), (.mk 6 0 [])]), (.mk 1 1 []), (.mk 4 0 [(.mk 6 0 []), (.mk 4 0 [(.mk 6 0 []), (.mk 8 0 [(.mk 1 0 [])])])]), (.mk 1 0 [])])])]), (.mk 7 0 [])]), (.mk 1 0 [])]), (.mk 1 0 [])]), (.mk 12 0 [(.mk 4 0 [(.mk 6 0 []), (.mk 10 0 [(.mk 6 0 []), (.mk 8 0 [(.mk 5 0 [(.mk 5 0 [(.mk 4 0 [(.mk 6 0 []), (.mk 4 0 [(.mk 6 0 []), (.mk 9 0 [(.mk 4 0 [(.mk 6 0 []), (.mk 6 0 [])]), (.mk 1 1 []), (.mk 4 0 [(.mk 6 0 []), (.mk 4 0 [(.mk 6 0 []), (.mk 8 0 [(.mk 1 0 [])])])]), (.mk 1 0 [])])])]), (.mk 7 0 [])]), (.mk 1 2 [])])]), (.mk 8 0 [(.mk 1 0 [])])])]), (.mk 1 0 []), (.mk 11 0 [(.mk 8 0 [(.mk 5 0 [(.mk 5 0 [(.mk 4 0 [(.mk 6 0 []), (.mk 4 0 [(.mk 6 0 []), (.mk 9 0 [(.mk 4 0 [(.mk 6 0 []), (.mk 6 0 [])]), (.mk 1 1 []), (.mk 4 0 [(.mk 6 0 []), (.mk 4 0 [(.mk 6 0 []), (.mk 8 0 [(.mk 1 0 [])])])]), (.mk 1 0 [])])])]), (.mk 7 0 [])]), (.mk 1 1 [])])])])])])]), (.mk 1 0 [])])])
theorem thP2_chain : Chain thP2R thP2B := ⟨[91, 78, 93, 60, 91, 78, 93, 123, 78, 44, 40, 40, 80, 32, 48, 41, 32, 35, 48, 41, 44, 35, 48, 125, 44, 33, 48, 44, 91, 78, 93, 91, 123, 78, 44, 40, 40, 80, 32, 48, 41, 32, 35, 48, 41, 44, 35, 48, 125, 93, 64, 60, 91, 78, 93, 123, 78, 44, 43, 83, 40, 35, 50, 41, 44, 43, 35, 48, 125, 44, 35, 48, 44, 33, 43, 83, 40, 35, 49, 41, 62, 44, 35, 48, 62], [91, 78, 93, 60, 91, 78, 93, 123, 78, 44, 40, 40, 80, 32, 48, 41, 32, 35, 48, 41, 44, 35, 48, 125, 44, 33, 48, 44, 91, 78, 93, 91, 123, 78, 44, 40, 40, 80, 32, 48, 41, 32, 35, 48, 41, 44, 35, 48, 125, 93, 64, 60, 91, 78, 93, 123, 78, 44, 43, 83, 40, 35, 50, 41, 44, 43, 35, 48, 125, 44, 35, 48, 44, 33, 43, 40, 40, 80, 32, 48, 41, 32, 35, 49, 41, 62, 44, 35, 48, 62], [91, 78, 93, 60, 91, 78, 93, 123, 78, 44, 40, 40, 80, 32, 48, 41, 32, 35, 48, 41, 44, 35, 48, 125, 44, 33, 48, 44, 91, 78, 93, 91, 123, 78, 44, 40, 40, 80, 32, 48, 41, 32, 35, 48, 41, 44, 35, 48, 125, 93, 64, 60, 91, 78, 93, 123, 78, 44, 43, 40, 40, 80, 32, 48, 41, 32, 35, 50, 41, 44, 43, 35, 48, 125, 44, 35, 48, 44, 33, 43, 40, 40, 80, 32, 48, 41, 32, 35, 49, 41, 62, 44, 35, 48, 62], [91, 78, 93, 60, 91, 78, 93, 123, 78, 44, 40, 40, 91, 78, 93, 91, 78, 93, 60, 91, 78, 93, 78, 44, 35, 49, 44, 91, 78, 93, 91, 78, 93, 43, 35, 48, 44, 35, 48, 62, 32, 48, 41, 32, 35, 48, 41, 44, 35, 48, 125, 44, 33, 48, 44, 91, 78, 93, 91, 123, 78, 44, 40, 40, 91, 78, 93, 91, 78, 93, 60, 91, 78, 93, 78, 44, 35, 49, 44, 91, 78, 93, 91, 78, 93, 43, 35, 48, 44, 35, 48, 62, 32, 48, 41, 32, 35, 48, 41, 44, 35, 48, 125, 93, 64, 60, 91, 78, 93, 123, 78, 44, 43, 40, 40, 91, 78, 93, 91, 78, 93, 60, 91, 78, 93, 78, 44, 35, 49, 44, 91, 78, 93, 91, 78, 93, 43, 35, 48, 44, 35, 48, 62, 32, 48, 41, 32, 35, 50, 41, 44, 43, 35, 48, 125, 44, 35, 48, 44, 33, 43, 40, 40, 91, 78, 93, 91, 78, 93, 60, 91, 78, 93, 78, 44, 35, 49, 44, 91, 78, 93, 91, 78, 93, 43, 35, 48, 44, 35, 48, 62, 32, 48, 41, 32, 35, 49, 41, 62, 44, 35, 48, 62], by decide +kernel, by decide +kernel, by decide +kernel, by decide +kernel, by decide +kernel, by decide +kernel⟩
theorem thP2_good : Good thP2 thP2B := ⟨Tx.cast (.lam 29 _ _ _ _ (.nat 28) (tx4 (.inl ⟨rfl, rfl, rfl, rfl⟩) (.lam 27 _ _ _ _ (.nat 26) (tx3 (.inr (.inl ⟨rfl, rfl, rfl, rfl⟩)) (.nat 25) (.rnd 25 5 32 _ _ _ _ (.inr (.inr ⟨rfl, rfl⟩)) (.rnd 24 5 32 _ _ _ _ (.inr (.inr ⟨rfl, rfl⟩)) (.lam 23 _ _ _ _ (.nat 22) (.lam 22 _ _ _ _ (.nat 21) (tx4 (.inl ⟨rfl, rfl, rfl, rfl⟩) (.lam 20 _ _ _ _ (.nat 19) (.nat 19)) (.var 20 1 49 (by decide)) (.lam 20 _ _ _ _ (.nat 19) (.lam 19 _ _ _ _ (.nat 18) (.pre 18 8 43 _ _ (.inl ⟨rfl, rfl⟩) (.var 17 0 48 (by decide))))) (.var 20 0 48 (by decide))))) (.zero 23)) (.var 24 0 48 (by decide))) (.var 25 0 48 (by decide)))) (.pre 27 11 33 _ _ (.inr (.inl ⟨rfl, rfl⟩)) (.zero 26)) (.lam 27 _ _ _ _ (.nat 26) (.lam 26 _ _ _ _ (tx3 (.inr (.inl ⟨rfl, rfl, rfl, rfl⟩)) (.nat 24) (.rnd 24 5 32 _ _ _ _ (.inr (.inr ⟨rfl, rfl⟩)) (.rnd 23 5 32 _ _ _ _ (.inr (.inr ⟨rfl, rfl⟩)) (.lam 22 _ _ _ _ (.nat 21) (.lam 21 _ _ _ _ (.nat 20) (tx4 (.inl ⟨rfl, rfl, rfl, rfl⟩) (.lam 19 _ _ _ _ (.nat 18) (.nat 18)) (.var 19 1 49 (by decide)) (.lam 19 _ _ _ _ (.nat 18) (.lam 18 _ _ _ _ (.nat 17) (.pre 17 8 43 _ _ (.inl ⟨rfl, rfl⟩) (.var 16 0 48 (by decide))))) (.var 19 0 48 (by decide))))) (.zero 22)) (.var 23 0 48 (by decide))) (.var 24 0 48 (by decide))) (tx3 (.inr (.inr (.inr ⟨rfl, rfl, rfl, rfl⟩))) (.lam 24 _ _ _ _ (.nat 23) (tx3 (.inr (.inl ⟨rfl, rfl, rfl, rfl⟩)) (.nat 22) (.pre 22 8 43 _ _ (.inl ⟨rfl, rfl⟩) (.rnd 21 5 32 _ _ _ _ (.inr (.inr ⟨rfl, rfl⟩)) (.rnd 20 5 32 _ _ _ _ (.inr (.inr ⟨rfl, rfl⟩)) (.lam 19 _ _ _ _ (.nat 18) (.lam 18 _ _ _ _ (.nat 17) (tx4 (.inl ⟨rfl, rfl, rfl, rfl⟩) (.lam 16 _ _ _ _ (.nat 15) (.nat 15)) (.var 16 1 49 (by decide)) (.lam 16 _ _ _ _ (.nat 15) (.lam 15 _ _ _ _ (.nat 14) (.pre 14 8 43 _ _ (.inl ⟨rfl, rfl⟩) (.var 13 0 48 (by decide))))) (.var 16 0 48 (by decide))))) (.zero 19)) (.var 20 2 50 (by decide)))) (.pre 22 8 43 _ _ (.inl ⟨rfl, rfl⟩) (.var 21 0 48 (by decide))))) (.var 24 0 48 (by decide)) (.pre 24 11 33 _ _ (.inr (.inl ⟨rfl, rfl⟩)) (.pre 23 8 43 _ _ (.inl ⟨rfl, rfl⟩) (.rnd 22 5 32 _ _ _ _ (.inr (.inr ⟨rfl, rfl⟩)) (.rnd 21 5 32 _ _ _ _ (.inr (.inr ⟨rfl, rfl⟩)) (.lam 20 _ _ _ _ (.nat 19) (.lam 19 _ _ _ _ (.nat 18) (tx4 (.inl ⟨rfl, rfl, rfl, rfl⟩) (.lam 17 _ _ _ _ (.nat 16) (.nat 16)) (.var 17 1 49 (by decide)) (.lam 17 _ _ _ _ (.nat 16) (.lam 16 _ _ _ _ (.nat 15) (.pre 15 8 43 _ _ (.inl ⟨rfl, rfl⟩) (.var 14 0 48 (by decide))))) (.var 17 0 48 (by decide))))) (.zero 20)) (.var 21 1 49 (by decide)))))))) (.var 27 0 48 (by decide)))) (by simp [ser, thP2B]), by decide +kernel, by decide⟩
def thS3R : List UInt8 := [40, 78, 62, 123, 78, 44, 40, 81, 32, 43, 35, 48, 41, 44, 35, 48, 125, 41]
def thS3B : List UInt8 := [40, 78, 62, 123, 78, 44, 40, 91, 78, 93, 60, 91, 78, 93, 78, 44, 48, 44, 91, 78, 93, 91, 78, 93, 35, 49, 44, 35, 48, 62, 32, 43, 35, 48, 41, 44, 35, 48, 125, 41]
def thS3 : Tm := (.mk 3 0 [(.mk 6 0 []), (.mk 10 0 [(.mk 6 0 []), (.mk 5 0 [(.mk 4 0 [(.mk 6 0 []), (.mk 9 0 [(.mk 4 0 [(.mk 6 0 []), (.mk 6 0 [])]), (.mk 7 0 []), (.mk 4 0 [(.mk 6 0 []), (.mk 4 0 [(.mk 6 0 []), (.mk 1 1 [])])]), (.mk 1 0 [])])]), (.mk 8 0 [(.mk 1 0 [])])]), (.mk 1 0 [])])])
theorem thS3_chain : Chain thS3R thS3B := ⟨[40, 78, 62, 123, 78, 44, 40, 81, 32, 43, 35, 48, 41, 44, 35, 48, 125, 41], [40, 78, 62, 123, 78, 44, 40, 81, 32, 43, 35, 48, 41, 44, 35, 48, 125, 41], [40, 78, 62, 123, 78, 44, 40, 81, 32, 43, 35, 48, 41, 44, 35, 48, 125, 41], [40, 78, 62, 123, 78, 44, 40, 81, 32, 43, 35, 48, 41, 44, 35, 48, 125, 41], by decide +kernel, by decide +kernel, by decide +kernel, by decide +kernel, by decide +kernel, by decide +kernel⟩
theorem thS3_good : Good thS3 thS3B := ⟨Tx.cast (.rnd 29 3 62 _ _ _ _ (.inl ⟨rfl, rfl⟩) (.nat 28) (tx3 (.inr (.inl ⟨rfl, rfl, rfl, rfl⟩)) (.nat 27) (.rnd 27 5 32 _ _ _ _ (.inr (.inr ⟨rfl, rfl⟩)) (.lam 26 _ _ _ _ (.nat 25) (tx4 (.inl ⟨rfl, rfl, rfl, rfl⟩) (.lam 24 _ _ _ _ (.nat 23) (.nat 23)) (.zero 24) (.lam 24 _ _ _ _ (.nat 23) (.lam 23 _ _ _ _ (.nat 22) (.var 22 1 49 (by decide)))) (.var 24 0 48 (by decide)))) (.pre 26 8 43 _ _ (.inl ⟨rfl, rfl⟩) (.var 25 0 48 (by decide)))) (.var 27 0 48 (by decide)))) (by simp [ser, thS3B]), by decide +kernel, by decide⟩
def thP3R : List UInt8 := [91, 78, 93, 33, 35, 48]
def thP3B : List UInt8 := [91, 78, 93, 33, 35, 48]
def thP3 : Tm := (.mk 4 0 [(.mk 6 0 []), (.mk 11 0 [(.mk 1 0 [])])])
theorem thP3_chain : Chain thP3R thP3B := ⟨[91, 78, 93, 33, 35, 48], [91, 78, 93, 33, 35, 48], [91, 78, 93, 33, 35, 48], [91, 78, 93, 33, 35, 48], by decide +kernel, by decide +kernel, by decide +kernel, by decide +kernel, by decide +kernel, by decide +kernel⟩
theorem thP3_good : Good thP3 thP3B := ⟨Tx.cast (.lam 29 _ _ _ _ (.nat 28) (.pre 28 11 33 _ _ (.inr (.inl ⟨rfl, rfl⟩)) (.var 27 0 48 (by decide)))) (by simp [ser, thP3B]), by decide +kernel, by decide⟩
def thS4R : List UInt8 := [40, 123, 78, 44, 48, 44, 43, 48, 125, 62, 40, 42, 48, 62, 35, 48, 41, 41]
def thS4B : List UInt8 := [40, 123, 78, 44, 48, 44, 43, 48, 125, 62, 40, 42, 48, 62, 35, 48, 41, 41]
def thS4 : Tm := (.mk 3 0 [(.mk 10 0 [(.mk 6 0 []), (.mk 7 0 []), (.mk 8 0 [(.mk 7 0 [])])]), (.mk 3 0 [(.mk 2 0 []), (.mk 1 0 [])])])
theorem thS4_chain : Chain thS4R thS4B := ⟨[40, 123, 78, 44, 48, 44, 43, 48, 125, 62, 40, 42, 48, 62, 35, 48, 41, 41], [40, 123, 78, 44, 48, 44, 43, 48, 125, 62, 40, 42, 48, 62, 35, 48, 41, 41], [40, 123, 78, 44, 48, 44, 43, 48, 125, 62, 40, 42, 48, 62, 35, 48, 41, 41], [40, 123, 78, 44, 48, 44, 43, 48, 125, 62, 40, 42, 48, 62, 35, 48, 41, 41], by decide +kernel, by decide +kernel, by decide +kernel, by decide +kernel, by decide +kernel, by decide +kernel⟩
theorem thS4_good : Good thS4 thS4B := ⟨Tx.cast (.rnd 29 3 62 _ _ _ _ (.inl ⟨rfl, rfl⟩) (tx3 (.inr (.inl ⟨rfl, rfl, rfl, rfl⟩)) (.nat 27) (.zero 27) (.pre 27 8 43 _ _ (.inl ⟨rfl, rfl⟩) (.zero 26))) (.rnd 28 3 62 _ _ _ _ (.inl ⟨rfl, rfl⟩) (.sort 27 0 48 (by decide)) (.var 27 0 48 (by decide)))) (by simp [ser, thS4B]), by decide +kernel, by decide⟩
def thP4R : List UInt8 := [91, 123, 78, 44, 48, 44, 43, 48, 125, 93, 64, 60, 91, 78, 93, 60, 91, 78, 93, 42, 49, 44, 40, 42, 48, 62, 42, 48, 41, 44, 91, 78, 93, 91, 42, 49, 93, 40, 42, 48, 62, 35, 48, 41, 44, 35, 48, 62, 44, 35, 48, 44, 91, 42, 48, 93, 35, 48, 62]
def thP4B : List UInt8 := [91, 123, 78, 44, 48, 44, 43, 48, 125, 93, 64, 60, 91, 78, 93, 60, 91, 78, 93, 42, 49, 44, 40, 42, 48, 62, 42, 48, 41, 44, 91, 78, 93, 91, 42, 49, 93, 40, 42, 48, 62, 35, 48, 41, 44, 35, 48, 62, 44, 35, 48, 44, 91, 42, 48, 93, 35, 48, 62]
def thP4 : Tm := (.mk 4 0 [(.mk 10 0 [(.mk 6 0 []), (.mk 7 0 []), (.mk 8 0 [(.mk 7 0 [])])]), (.mk 12 0 [(.mk 4 0 [(.mk 6 0 []), (.mk 9 0 [(.mk 4 0 [(.mk 6 0 []), (.mk 2 1 [])]), (.mk 3 0 [(.mk 2 0 []), (.mk 2 0 [])]), (.mk 4 0 [(.mk 6 0 []), (.mk 4 0 [(.mk 2 1 []), (.mk 3 0 [(.mk 2 0 []), (.mk 1 0 [])])])]), (.mk 1 0 [])])]), (.mk 1 0 []), (.mk 4 0 [(.mk 2 0 []), (.mk 1 0 [])])])])
theorem thP4_chain : Chain thP4R thP4B := ⟨[91, 123, 78, 44, 48, 44, 43, 48, 125, 93, 64, 60, 91, 78, 93, 60, 91, 78, 93, 42, 49, 44, 40, 42, 48, 62, 42, 48, 41, 44, 91, 78, 93, 91, 42, 49, 93, 40, 42, 48, 62, 35, 48, 41, 44, 35, 48, 62, 44, 35, 48, 44, 91, 42, 48, 93, 35, 48, 62], [91, 123, 78, 44, 48, 44, 43, 48, 125, 93, 64, 60, 91, 78, 93, 60, 91, 78, 93, 42, 49, 44, 40, 42, 48, 62, 42, 48, 41, 44, 91, 78, 93, 91, 42, 49, 93, 40, 42, 48, 62, 35, 48, 41, 44, 35, 48, 62, 44, 35, 48, 44, 91, 42, 48, 93, 35, 48, 62], [91, 123, 78, 44, 48, 44, 43, 48, 125, 93, 64, 60, 91, 78, 93, 60, 91, 78, 93, 42, 49, 44, 40, 42, 48, 62, 42, 48, 41, 44, 91, 78, 93, 91, 42, 49, 93, 40, 42, 48, 62, 35, 48, 41, 44, 35, 48, 62, 44, 35, 48, 44, 91, 42, 48, 93, 35, 48, 62], [91, 123, 78, 44, 48, 44, 43, 48, 125, 93, 64, 60, 91, 78, 93, 60, 91, 78, 93, 42, 49, 44, 40, 42, 48, 62, 42, 48, 41, 44, 91, 78, 93, 91, 42, 49, 93, 40, 42, 48, 62, 35, 48, 41, 44, 35, 48, 62, 44, 35, 48, 44, 91, 42, 48, 93, 35, 48, 62], by decide +kernel, by decide +kernel, by decide +kernel, by decide +kernel, by decide +kernel, by decide +kernel⟩
theorem thP4_good : Good thP4 thP4B := ⟨Tx.cast (.lam 29 _ _ _ _ (tx3 (.inr (.inl ⟨rfl, rfl, rfl, rfl⟩)) (.nat 27) (.zero 27) (.pre 27 8 43 _ _ (.inl ⟨rfl, rfl⟩) (.zero 26))) (tx3 (.inr (.inr (.inr ⟨rfl, rfl, rfl, rfl⟩))) (.lam 27 _ _ _ _ (.nat 26) (tx4 (.inl ⟨rfl, rfl, rfl, rfl⟩) (.lam 25 _ _ _ _ (.nat 24) (.sort 24 1 49 (by decide))) (.rnd 25 3 62 _ _ _ _ (.inl ⟨rfl, rfl⟩) (.sort 24 0 48 (by decide)) (.sort 24 0 48 (by decide))) (.lam 25 _ _ _ _ (.nat 24) (.lam 24 _ _ _ _ (.sort 23 1 49 (by decide)) (.rnd 23 3 62 _ _ _ _ (.inl ⟨rfl, rfl⟩) (.sort 22 0 48 (by decide)) (.var 22 0 48 (by decide))))) (.var 25 0 48 (by decide)))) (.var 27 0 48 (by decide)) (.lam 27 _ _ _ _ (.sort 26 0 48 (by decide)) (.var 26 0 48 (by decide))))) (by simp [ser, thP4B]), by decide +kernel, by decide⟩
def thS5R : List UInt8 := [40, 78, 62, 40, 78, 62, 40, 123, 78, 44, 35, 49, 44, 35, 48, 125, 62, 123, 78, 44, 35, 49, 44, 35, 50, 125, 41, 41, 41]
def thS5B : List UInt8 := [40, 78, 62, 40, 78, 62, 40, 123, 78, 44, 35, 49, 44, 35, 48, 125, 62, 123, 78, 44, 35, 49, 44, 35, 50, 125, 41, 41, 41]
def thS5 : Tm := (.mk 3 0 [(.mk 6 0 []), (.mk 3 0 [(.mk 6 0 []), (.mk 3 0 [(.mk 10 0 [(.mk 6 0 []), (.mk 1 1 []), (.mk 1 0 [])]), (.mk 10 0 [(.mk 6 0 []), (.mk 1 1 []), (.mk 1 2 [])])])])])
theorem thS5_chain : Chain thS5R thS5B := ⟨[40, 78, 62, 40, 78, 62, 40, 123, 78, 44, 35, 49, 44, 35, 48, 125, 62, 123, 78, 44, 35, 49, 44, 35, 50, 125, 41, 41, 41], [40, 78, 62, 40, 78, 62, 40, 123, 78, 44, 35, 49, 44, 35, 48, 125, 62, 123, 78, 44, 35, 49, 44, 35, 50, 125, 41, 41, 41], [40, 78, 62, 40, 78, 62, 40, 123, 78, 44, 35, 49, 44, 35, 48, 125, 62, 123, 78, 44, 35, 49, 44, 35, 50, 125, 41, 41, 41], [40, 78, 62, 40, 78, 62, 40, 123, 78, 44, 35, 49, 44, 35, 48, 125, 62, 123, 78, 44, 35, 49, 44, 35, 50, 125, 41, 41, 41], by decide +kernel, by decide +kernel, by decide +kernel, by decide +kernel, by decide +kernel, by decide +kernel⟩
theorem thS5_good : Good thS5 thS5B := ⟨Tx.cast (.rnd 29 3 62 _ _ _ _ (.inl ⟨rfl, rfl⟩) (.nat 28) (.rnd 28 3 62 _ _ _ _ (.inl ⟨rfl, rfl⟩) (.nat 27) (.rnd 27 3 62 _ _ _ _ (.inl ⟨rfl, rfl⟩) (tx3 (.inr (.inl ⟨rfl, rfl, rfl, rfl⟩)) (.nat 25) (.var 25 1 49 (by decide)) (.var 25 0 48 (by decide))) (tx3 (.inr (.inl ⟨rfl, rfl, rfl, rfl⟩)) (.nat 25) (.var 25 1 49 (by decide)) (.var 25 2 50 (by decide)))))) (by simp [ser, thS5B]), by decide +kernel, by decide⟩
def thP5R : List UInt8 := [91, 78, 93, 91, 78, 93, 91, 123, 78, 44, 35, 49, 44, 35, 48, 125, 93, 64, 60, 91, 78, 93, 123, 78, 44, 35, 48, 44, 35, 51, 125, 44, 35, 48, 44, 33, 35, 50, 62]
def thP5B : List UInt8 := [91, 78, 93, 91, 78, 93, 91, 123, 78, 44, 35, 49, 44, 35, 48, 125, 93, 64, 60, 91, 78, 93, 123, 78, 44, 35, 48, 44, 35, 51, 125, 44, 35, 48, 44, 33, 35, 50, 62]
def thP5 : Tm := (.mk 4 0 [(.mk 6 0 []), (.mk 4 0 [(.mk 6 0 []), (.mk 4 0 [(.mk 10 0 [(.mk 6 0 []), (.mk 1 1 []), (.mk 1 0 [])]), (.mk 12 0 [(.mk 4 0 [(.mk 6 0 []), (.mk 10 0 [(.mk 6 0 []), (.mk 1 0 []), (.mk 1 3 [])])]), (.mk 1 0 []), (.mk 11 0 [(.mk 1 2 [])])])])])])
theorem thP5_chain : Chain thP5R thP5B := ⟨[91, 78, 93, 91, 78, 93, 91, 123, 78, 44, 35, 49, 44, 35, 48, 125, 93, 64, 60, 91, 78, 93, 123, 78, 44, 35, 48, 44, 35, 51, 125, 44, 35, 48, 44, 33, 35, 50, 62], [91, 78, 93, 91, 78, 93, 91, 123, 78, 44, 35, 49, 44, 35, 48, 125, 93, 64, 60, 91, 78, 93, 123, 78, 44, 35, 48, 44, 35, 51, 125, 44, 35, 48, 44, 33, 35, 50, 62], [91, 78, 93, 91, 78, 93, 91, 123, 78, 44, 35, 49, 44, 35, 48, 125, 93, 64, 60, 91, 78, 93, 123, 78, 44, 35, 48, 44, 35, 51, 125, 44, 35, 48, 44, 33, 35, 50, 62], [91, 78, 93, 91, 78, 93, 91, 123, 78, 44, 35, 49, 44, 35, 48, 125, 93, 64, 60, 91, 78, 93, 123, 78, 44, 35, 48, 44, 35, 51, 125, 44, 35, 48, 44, 33, 35, 50, 62], by decide +kernel, by decide +kernel, by decide +kernel, by decide +kernel, by decide +kernel, by decide +kernel⟩
theorem thP5_good : Good thP5 thP5B := ⟨Tx.cast (.lam 29 _ _ _ _ (.nat 28) (.lam 28 _ _ _ _ (.nat 27) (.lam 27 _ _ _ _ (tx3 (.inr (.inl ⟨rfl, rfl, rfl, rfl⟩)) (.nat 25) (.var 25 1 49 (by decide)) (.var 25 0 48 (by decide))) (tx3 (.inr (.inr (.inr ⟨rfl, rfl, rfl, rfl⟩))) (.lam 25 _ _ _ _ (.nat 24) (tx3 (.inr (.inl ⟨rfl, rfl, rfl, rfl⟩)) (.nat 23) (.var 23 0 48 (by decide)) (.var 23 3 51 (by decide)))) (.var 25 0 48 (by decide)) (.pre 25 11 33 _ _ (.inr (.inl ⟨rfl, rfl⟩)) (.var 24 2 50 (by decide))))))) (by simp [ser, thP5B]), by decide +kernel, by decide⟩
open Go.RowKit
/-- what a parser hands back: the term, and that it is one -/
def GotP (w : World) (o : Option Tm) (e : Ending) (w' : World) : Prop :=
  ∃ (k n : Int) (ks : List Tm) (A : Option Addr) (c : Nat), o.getD (.mk 0 0 []) = .mk k n ks ∧ e = .returned (.tuple #[.agg #[.int .i64 k, .int .i64 n, .slice A ks.length c], .bool o.isSome]) ∧ ks.length ≤ 9223372036854775807 ∧ Fresh w.heap.size w' A ks ∧ Below w.heap.size w w'
set_option maxHeartbeats 4000000 in
set_option maxRecDepth 100000 in
theorem iParse_any {t : Tm} {b : List UInt8} (h : Good t b) (w : World) (hm : GM w) : Calls Tryz.prog 60 #[.string (byt b)] w (GotP w (some t)) := by
  obtain ⟨htx, hv, hb⟩ := h
  obtain ⟨k, n, ks⟩ := t
  have hread := hide (fun w hm => by simpa using readTerm_any htx.tu k n ks rfl [] 1 w (by simp; omega) trivial (by omega) (by omega) hm)
  have htext := hide (fun A c w hm hr => termText_any htx.tu k n ks rfl A c w (by omega) hm hr)
  have hvs := validT_size' hv
  have hv' := hide hv
  have q3 : ((byt b).toList == (byt b).toList) = true := by simp
  have hm' := hide hm
  have qe : ((byt []).toList == []) = true ∧ (byt []).toList.isEmpty = true := by simp [byt]
  obtain ⟨qe1, qe2⟩ := qe
  clear htx hv hm
  go_enter Tryz.func60, Tryz.ntmps60
  go_wp2_with (first
    | (go_at_call 87; refine (htext.out A1 c1 _ ((((hm'.out.keep g1).alloc _)).keep hb2) hf2.rd).mono ?_; rintro e w3 ⟨rfl, hb3⟩; clear x0 x1 x2; replace hX := hX.keep hb3; replace hZ := hZ.keep hb3; obtain ⟨x0, x1, x2⟩ := hX.three; obtain ⟨d0, d1, d2⟩ := hZ.three; have e0 := hZ.frozen 0; have e1 := hZ.frozen 1; have e2 := hZ.frozen 2; have lx := hX.lt; have lz := hZ.lt; have g3 : Below w.heap.size w w3 := g2.trans (hb3.mono g2.size))
    | (go_at_call 35; refine (iTermValid_any k n ks A1 c1 _ (by omega) (hf1.rd.alloc _)).mono ?_; rw [hv'.out]; rintro e w2 ⟨rfl, hb2⟩; replace hX := hX.keep hb2; replace hZ := (hZ.alloc _).keep hb2; obtain ⟨x0, x1, x2⟩ := hX.three; have g2 : Below w.heap.size w w2 := (g1.alloc (by omega) _).trans (hb2.mono (by simp; omega)); have hf2 := (hf1.alloc (.cells #[.int .i64 k, .int .i64 n, .slice A1 ks.length c1] 27)).below hb2)
    | (go_at_call 86; refine (hread.out _ (hm'.out.alloc _)).mono ?_; rintro e w1 ⟨A1, c1, rfl, hl1, hf1, hb1⟩; have hZ := (Blk.new_ w 27 #[.int .i64 0, .int .i64 0, .slice none 0 0] rfl).keep hb1; have g1 : Below w.heap.size w w1 := ((Below.refl _ _).alloc (Nat.le_refl _) _).trans (hb1.mono (by simp)); have s1 := g1.size; have hX := Blk.new_ w1 27 #[.int .i64 k, .int .i64 n, .slice A1 ks.length c1] rfl; have lz1 := hZ.lt))
  have hf3 := hf2.below hb3
  refine bodyPost_ret (v := .tuple #[.agg #[.int .i64 k, .int .i64 n, .slice A1 ks.length c1], .bool true]) (by simp [results, Tryz.results60, go_sem, d0, d1, d2]) rfl ⟨k, n, ks, A1, c1, rfl, rfl, hl1, ?_, ((g3.setCell (by simp) _).setCell (by simp) _).setCell (by simp) _⟩
  exact (((hf3.setCell (by simp) _).setCell (by simp) _).setCell (by simp) _).mono (by simp)
end Go.Proofs.YthgmofdfecioaaaGreatDoor
