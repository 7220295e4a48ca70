/-
  Texts of this claim, merged: contracts of the functions that the law reaches. No condition.
-/
import Derived.Test.YthgmofdfecioaaaGreatDoorK2
import Derived.Test.YthgmofdfecioaaaGreatDoorK3
import Derived.Lib.Replace
import Derived.Lib.SplitLaws

namespace Go.Proofs.YthgmofdfecioaaaGreatDoor
open Go.RowKit
set_option linter.unusedSimpArgs false
set_option linter.unusedVariables false

def ITextOk (t : Tm) (b : List UInt8) : Prop := ∀ (k n : Int) (ks : List Tm), t = .mk k n ks → ∀ (A : Option Addr) (c : Nat) (w : World), b.length ≤ 5000 → GM w → Rd w A 0 ks →
  Calls Tryz.prog 87 #[.agg #[.int .i64 k, .int .i64 n, .slice A ks.length c]] w fun e w' => e = .returned (.string (byt b)) ∧ Below w.heap.size w w'

set_option maxHeartbeats 4000000 in
set_option maxRecDepth 100000 in
theorem itext_num (d k : Nat) (n : Int) (c : UInt8) (h : (k = 1 ∧ n ≤ 9 ∨ k = 2 ∧ n ≤ 3) ∧ 0 ≤ n ∧ (c.toNat : Int) = 48 + n) : ITextOk (.mk k n []) ((shpX[k - 1]?).getD [] ++ [c]) := by
  intro k' n' ks' ht A cc w hl hm hr
  injection ht with h1 h2 h3
  subst h1 h2 h3
  have h9 : 0 ≤ n ∧ n ≤ 9 ∧ (c.toNat : Int) = 48 + n := ⟨h.2.1, by omega, h.2.2⟩
  have hh := hide h.1
  clear h
  rcases hh.out with ⟨rfl, _⟩ | ⟨rfl, _⟩
  · go_enter Tryz.func87, Tryz.ntmps87
    go_wp2_with fail
    refine name_world ?_
    intro wx hwx
    have hbx : Below w.heap.size w wx := by rw [hwx]; exact (Below.refl _ _).alloc (Nat.le_refl _) _
    have hX : Blk wx w.heap.size #[.int .i64 1, .int .i64 n, .slice A 0 cc] := by rw [hwx]; exact Blk.new_ _ _ _ rfl
    have r0 := hX.rule (i := 0) rfl
    clear hwx
    refine wp_region_firstY (fun w' => Below wx.heap.size wx w') [1, 2, 3] [0] [4, 5, 6] [_, _, _] [_] [_, _, _] (by kernel_rfl) (by kernel_rfl) rfl rfl rfl (fun _ _ d _ _ h => by cases d <;> exact h) (Below.refl _ _).drew ?_
    repeat (first | ((refine takeY_skip (a' := ?_) ?_ ?_ ?_); (rotate_left); (· (simp [Region.wanted, yielded, Go.undef]; done)); (· (simp only [List.getElem_toArray, List.getElem_cons_zero, List.getElem_cons_succ, Act.put, List.setIfInBounds_toArray, List.set_cons_zero, List.set_cons_succ]; exact rfl))) | ((refine takeY_step (v := ?_) (a' := ?_) ?_ ?_ ?_ ?_); (rotate_left 2); (· (simp [Region.wanted, yielded, Go.undef]; done)); (· (intro w' hS'; go_simp; try (with_reducible rfl))); (· (simp only [List.getElem_toArray, List.getElem_cons_zero, List.getElem_cons_succ, Act.put, List.setIfInBounds_toArray, List.set_cons_zero, List.set_cons_succ]; exact rfl))))
    refine takeY_nil (then_cons ?_)
    go_wp2_with (go_at_call 115; refine (shapes_at (g := wx.heap.size) _ (by simp)).mono ?_; rintro e w7 ⟨rfl, hH7, hb7⟩)
    have hx1 : Below wx.heap.size wx w7 := (Below.refl _ _).drew.trans hb7
    have hcl7 : w7.cell? ⟨wx.heap.size, 0, none⟩ = some (.string (byt (shp 1))) := hH7.at_ rfl
    refine mid_intro hx1 (then_nil ?_)
    have hX7 := hX.keep hx1
    have x0 := hX7.at_ (i := 0) rfl
    have x1 := hX7.at_ (i := 1) rfl
    have ha : ∀ w, (Op.stringOp .add (byt (shp 1)) (byt [c])).run Tryz.prog w = .ok (.string (byt ([35] ++ [c]))) w := fun w => add_strE (a := [35]) (b := [c]) rfl (by simp) w
    clear r0
    go_wp2_with (go_at_call 117; refine (itoa_any n c h9 _).mono ?_; rintro e w8 ⟨rfl, rfl⟩)
    go_ret
    exact ⟨rfl, hbx.trans (hx1.mono hbx.size)⟩
  · go_enter Tryz.func87, Tryz.ntmps87
    go_wp2_with fail
    refine name_world ?_
    intro wx hwx
    have hbx : Below w.heap.size w wx := by rw [hwx]; exact (Below.refl _ _).alloc (Nat.le_refl _) _
    have hX : Blk wx w.heap.size #[.int .i64 2, .int .i64 n, .slice A 0 cc] := by rw [hwx]; exact Blk.new_ _ _ _ rfl
    have r0 := hX.rule (i := 0) rfl
    clear hwx
    refine wp_region_firstY (fun w' => Below wx.heap.size wx w') [1, 2, 3] [0] [4, 5, 6] [_, _, _] [_] [_, _, _] (by kernel_rfl) (by kernel_rfl) rfl rfl rfl (fun _ _ d _ _ h => by cases d <;> exact h) (Below.refl _ _).drew ?_
    repeat (first | ((refine takeY_skip (a' := ?_) ?_ ?_ ?_); (rotate_left); (· (simp [Region.wanted, yielded, Go.undef]; done)); (· (simp only [List.getElem_toArray, List.getElem_cons_zero, List.getElem_cons_succ, Act.put, List.setIfInBounds_toArray, List.set_cons_zero, List.set_cons_succ]; exact rfl))) | ((refine takeY_step (v := ?_) (a' := ?_) ?_ ?_ ?_ ?_); (rotate_left 2); (· (simp [Region.wanted, yielded, Go.undef]; done)); (· (intro w' hS'; go_simp; try (with_reducible rfl))); (· (simp only [List.getElem_toArray, List.getElem_cons_zero, List.getElem_cons_succ, Act.put, List.setIfInBounds_toArray, List.set_cons_zero, List.set_cons_succ]; exact rfl))))
    refine takeY_nil (then_cons ?_)
    go_wp2_with (go_at_call 115; refine (shapes_at (g := wx.heap.size) _ (by simp)).mono ?_; rintro e w7 ⟨rfl, hH7, hb7⟩)
    have hx1 : Below wx.heap.size wx w7 := (Below.refl _ _).drew.trans hb7
    have hcl7 : w7.cell? ⟨wx.heap.size, 1, none⟩ = some (.string (byt (shp 2))) := hH7.at_ rfl
    refine mid_intro hx1 (then_nil ?_)
    have hX7 := hX.keep hx1
    have x0 := hX7.at_ (i := 0) rfl
    have x1 := hX7.at_ (i := 1) rfl
    have ha : ∀ w, (Op.stringOp .add (byt (shp 2)) (byt [c])).run Tryz.prog w = .ok (.string (byt ([42] ++ [c]))) w := fun w => add_strE (a := [42]) (b := [c]) rfl (by simp) w
    clear r0
    go_wp2_with (go_at_call 117; refine (itoa_any n c h9 _).mono ?_; rintro e w8 ⟨rfl, rfl⟩)
    go_ret
    exact ⟨rfl, hbx.trans (hx1.mono hbx.size)⟩
set_option maxHeartbeats 8000000 in
set_option maxRecDepth 100000 in
theorem itext_node (d k : Nat) (ts : List Tm) (xs : List (List UInt8)) (hk : 3 ≤ k ∧ k ≤ 16) (hl : (prt k).length = ts.length + 1) (hx : xs.length = ts.length)
    (ih : ∀ (j : Nat) (t : Tm) (x : List UInt8), ts[j]? = some t → xs[j]? = some x → ITextOk t x) : ITextOk (.mk k 0 ts) (inter (prt k) xs) := by
  intro k' n' ks' ht A cc w hlen hm hr
  injection ht with h1 h2 h3
  subst h1 h2 h3
  obtain ⟨c, y, z, ps, e1, e2, _⟩ := node_facts hk
  obtain ⟨p0, hp0⟩ : ∃ p0, c :: z = p0 := ⟨_, rfl⟩
  rw [hp0] at e2
  obtain ⟨F, hF⟩ : ∃ F, inter (prt k) xs = F := ⟨_, rfl⟩
  rw [hF] at hlen ⊢
  rw [e2, inter] at hF
  have hcell := hide (fun (w : World) (g : Nat) (hB : Blk w g (strs shpX)) => shp_cell hB (K := k) hk)
  have hsplit : Hid (∀ (w : World) (g : Nat), GM w → g = w.heap.size → Calls Tryz.prog 114 #[.string (byt (shp k)), .string ⟨#[46]⟩] w fun e w' => e = .returned (.slice (some ⟨g, 0, none⟩) (ts.length + 1) (ts.length + 1)) ∧ Blk w' g (strs (prt k)) ∧ Below w.heap.size w w') :=
    hide (fun w g h hg => by have := split_at (k := k) (g := g) hk w h hg; rwa [hl] at this)
  have q1 : ((k : Int) == 1) = false := beq_eq_false_iff_ne.2 (by omega)
  have q2 : ((k : Int) == 2) = false := beq_eq_false_iff_ne.2 (by omega)
  have hK1 : (1 : Int) ≤ k := by omega
  have hK2 : (k : Int) ≤ 16 := by omega
  have hl3 : (0 : Int) < (ts.length : Int) + 1 := by omega
  have hps : ps.length = ts.length := by rw [e2] at hl; simpa using hl
  have htl : ts.length ≤ 5 := by have := prt_len hk; omega
  have hm' := hide hm
  have h0 := hide (show (prt k)[0]? = some p0 by rw [e2]; rfl)
  have hX := hide (And.intro hps (And.intro hx (And.intro hF (And.intro ih (And.intro e2 hk)))))
  clear hk hl hx ih hp0 e1 e2 hF hps hm
  go_enter Tryz.func87, Tryz.ntmps87
  go_wp2_with fail
  refine name_world ?_
  intro wx hwx
  have hbx : Below w.heap.size w wx := by rw [hwx]; exact (Below.refl _ _).alloc (Nat.le_refl _) _
  have hB : Blk wx w.heap.size #[.int .i64 k, .int .i64 0, .slice A ts.length cc] := by rw [hwx]; exact Blk.new_ _ _ _ rfl
  have r0 := hB.rule (i := 0) rfl
  clear hwx
  refine wp_region_firstY (fun w' => Below wx.heap.size wx w') [1, 2, 3] [0] [4, 5, 6] [_, _, _] [_] [_, _, _] (by kernel_rfl) (by kernel_rfl) rfl rfl rfl (fun _ _ d _ _ h => by cases d <;> exact h) (Below.refl _ _).drew ?_
  repeat (first | ((refine takeY_skip (a' := ?_) ?_ ?_ ?_); (rotate_left); (· (simp [Region.wanted, yielded, Go.undef]; done)); (· (simp only [List.getElem_toArray, List.getElem_cons_zero, List.getElem_cons_succ, Act.put, List.setIfInBounds_toArray, List.set_cons_zero, List.set_cons_succ]; exact rfl))) | ((refine takeY_step (v := ?_) (a' := ?_) ?_ ?_ ?_ ?_); (rotate_left 2); (· (simp [Region.wanted, yielded, Go.undef]; done)); (· (intro w' hS'; go_simp; try (with_reducible rfl))); (· (simp only [List.getElem_toArray, List.getElem_cons_zero, List.getElem_cons_succ, Act.put, List.setIfInBounds_toArray, List.set_cons_zero, List.set_cons_succ]; exact rfl))))
  refine takeY_nil (then_cons ?_)
  go_wp2_with (go_at_call 115; refine (shapes_at (g := wx.heap.size) _ (by simp)).mono ?_; rintro e w7 ⟨rfl, hH7, hb7⟩)
  have hx1 : Below wx.heap.size wx w7 := (Below.refl _ _).drew.trans hb7
  have hcl7 := hcell.out _ _ hH7
  refine mid_intro hx1 (then_nil ?_)
  replace hB := hB.keep hx1
  have hb8 : Below w.heap.size w w7 := hbx.trans (hx1.mono hbx.size)
  have x0 := hB.at_ (i := 0) rfl
  have x2 := hB.at_ (i := 2) rfl
  have gm7 : GM w7 := hm'.out.keep hb8
  clear r0
  go_wp2_with (go_at_call 114; refine (hsplit.out _ w7.heap.size gm7 rfl).mono ?_; rintro e w8 ⟨rfl, hP, hb9⟩; replace hB := hB.keep hb9; clear x0 x2; have x2 := hB.at_ (i := 2) rfl; have hpc := prt_cell hP h0.out; have g8 : Below w.heap.size w w8 := hb8.trans (hb9.mono hb8.size); have lB := hB.lt)
  go_loopw [5, 35] (fun o i wr => ∃ (j : Nat) (O : List UInt8), j ≤ ts.length ∧ Hid (O ++ rem (xs.drop j) (ps.drop j) = F) ∧ o = .string (byt O) ∧ i = .int .i64 j ∧ Blk wr w7.heap.size (strs (prt k)) ∧ Blk wr w.heap.size #[.int .i64 k, .int .i64 0, .slice A ts.length cc] ∧ Below w.heap.size w wr) (fun _ i _ => ts.length - (intOf i).toNat)
  case atStart => exact ⟨0, p0, Nat.zero_le _, hide hX.out.2.2.1, rfl, rfl, hP, hB, g8⟩
  case round =>
    obtain ⟨j, O, hj, hO, rfl, rfl, hPr, hBr, hb⟩ := hrel
    by_cases hlt : j < ts.length
    · obtain ⟨b, off, k1, n1, ks1, A1, c1, rfl, hkj, hc1, hc2, hc3, hl1, hr1⟩ := (hr.below hb).at_ hlt
      have hlx : j < xs.length := by have := hX.out.2.1; omega
      have hlp : j < ps.length := by have := hX.out.1; omega
      obtain ⟨x, hxj⟩ : ∃ x, xs[j]? = some x := ⟨_, List.getElem?_eq_getElem hlx⟩
      obtain ⟨p, hpj⟩ : ∃ p, ps[j]? = some p := ⟨_, List.getElem?_eq_getElem hlp⟩
      have hO2 : (O ++ (x ++ p)) ++ rem (xs.drop (j + 1)) (ps.drop (j + 1)) = F := by rw [← hO.out, rem_drop hxj hpj]; simp
      have hOl : O.length + (x.length + p.length) ≤ 5000 := by rw [← hO2] at hlen; simp at hlen; omega
      have hprt : (prt k)[j + 1]? = some p := by rw [hX.out.2.2.2.2.1]; simpa using hpj
      have hO2' := hide hO2
      have hkid := hide (hX.out.2.2.2.1 j (.mk k1 n1 ks1) x (by rw [List.getElem?_eq_getElem hlt, hkj]) hxj k1 n1 ks1 rfl)
      have ha1 : ∀ w, (Op.stringOp .add (byt x) (byt p)).run Tryz.prog w = .ok (.string (byt (x ++ p))) w := fun w => add_strE rfl (by omega) w
      have ha2 : ∀ w, (Op.stringOp .add (byt O) (byt (x ++ p))).run Tryz.prog w = .ok (.string (byt (O ++ (x ++ p)))) w := fun w => add_strE rfl (by simp; omega) w
      have hxl : x.length ≤ 5000 := by omega
      have hbl := World.block_lt_of_cell? _ _ hc1
      have lr := hb.size
      have lp := hPr.lt
      have lb := hBr.lt
      have hw : IntKind.i64.wrap ((j : Int) + 1) = (j : Int) + 1 := IntWalk.i64_in _ ⟨by omega, by omega⟩
      have hw2 : (0 : Int) ≤ (j : Int) + 1 ∧ (j : Int) + 1 < (ts.length : Int) + 1 := by omega
      have hprt' := hide hprt
      clear hkj hxj hpj hO2 hprt hO hOl hlx hlp
      go_wp2_with fail
      refine name_world ?_
      intro wy hwy
      have hyb : Below wr.heap.size wr wy := by rw [hwy]; exact (Below.refl _ _).alloc (Nat.le_refl _) _
      have hY : Blk wy wr.heap.size #[.int .i64 k1, .int .i64 n1, .slice A1 ks1.length c1] := by rw [hwy]; exact Blk.new_ _ _ _ rfl
      have hPy := hPr.keep hyb
      obtain ⟨z0, z1, z2⟩ := hY.three
      have r0 := rule_of z0
      have r1 := rule_of z1
      have r2 := rule_of z2
      have r3 := rule_of (prt_cell hPy hprt'.out)
      clear hwy z0 z1 z2
      have sm := fun (w' : World) (hw' : Below wy.heap.size wy w') => hkid.out A1 c1 w' hxl ((hm'.out.keep (hb.trans (hyb.mono hb.size))).keep hw') ((hr1.below hyb).below hw')
      refine wp_region_class (fun w' => Below wy.heap.size wy w') (by kernel_rfl) (by kernel_rfl) (Below.refl _ _).drew ?_
      repeat (first | ((refine quiet_skip (a' := ?_) ?_ ?_ ?_); (rotate_left); (· (simp [Region.wanted, yielded, Go.undef]; done)); (· (simp only [Act.put, List.setIfInBounds_toArray, List.set_cons_zero, List.set_cons_succ]; exact rfl))) | ((refine quiet_one (v := ?_) (a' := ?_) ?_ ?_ ?_ ?_); (rotate_left 2); (· (simp [Region.wanted, yielded, Go.undef]; done)); (· (intro w' hS'; go_simp; try (with_reducible rfl))); (· (simp only [Act.put, List.setIfInBounds_toArray, List.set_cons_zero, List.set_cons_succ]; exact rfl))) | ((refine quiet_below (v := ?_) (a' := ?_) 87 ?_ ?_ ?_ ?_ ?_ ?_); (rotate_left 3); (· (simp [Region.wanted, yielded, Go.undef]; done)); (· (intro w' hS'; go_simp; try (with_reducible rfl))); (· (intro w' hS'; exact sm w' hS')); (· (simp only [Act.put, List.setIfInBounds_toArray, List.set_cons_zero, List.set_cons_succ]; exact rfl))))
      refine quiet_nil ?_
      intro w9 hx2
      clear r0 r1 r2 r3 sm
      go_wp2_with fail
      have hx3 : Below wr.heap.size wr w9 := hyb.trans (hx2.mono hyb.size)
      go_roundw
      case rel => exact ⟨j + 1, _, by omega, hO2', rfl, by go_num, hPr.keep hx3, hBr.keep hx3, hb.trans (hx3.mono hb.size)⟩
      case measure => simp [intOf]; omega
    · go_wp2_with fail
      go_ret
      obtain rfl : j = ts.length := by omega
      have h5 := hO.out
      rw [show xs.drop ts.length = [] from List.drop_eq_nil_of_le (by have := hX.out.2.1; omega), rem_nil, List.append_nil] at h5
      exact ⟨by rw [h5]; rfl, hb⟩
/-- the program's text of a term -/
theorem termText_any {d : Nat} {t : Tm} {b : List UInt8} (h : Tu d t b) : ITextOk t b := by
  induction h with
  | num d k n c h => exact itext_num d k n c h
  | node d k ts xs hk hl hx ht ih => exact itext_node d k ts xs hk hl hx ih
end Go.Proofs.YthgmofdfecioaaaGreatDoor

namespace Go.Proofs.YthgmofdfecioaaaGreatDoor
open Go.RowKit
set_option linter.unusedSimpArgs false
set_option linter.unusedVariables false

set_option maxRecDepth 100000

theorem Tx.cast {d : Nat} {t : Tm} {b b' : List UInt8} (h : Tx d t b) (e : b = b') : Tx d t b' := e ▸ h
/-- what the abbreviations stand for -/
def plusB : List UInt8 := [91, 78, 93, 91, 78, 93, 60, 91, 78, 93, 78, 44, 35, 49, 44, 91, 78, 93, 91, 78, 93, 43, 35, 48, 44, 35, 48, 62]
def predB : List UInt8 := [91, 78, 93, 60, 91, 78, 93, 78, 44, 48, 44, 91, 78, 93, 91, 78, 93, 35, 49, 44, 35, 48, 62]
/-- one text becomes another by the five replacements -/
def Chain (b0 b5 : List UInt8) : Prop := ∃ b1 b2 b3 b4 : List UInt8, (b0.length ≤ 1000 ∧ b1.length ≤ 1000 ∧ b2.length ≤ 1000 ∧ b3.length ≤ 1000 ∧ b4.length ≤ 1000) ∧
  Lib.replaceAll b0 [83, 40, 35, 48, 41] [40, 40, 80, 32, 48, 41, 32, 35, 48, 41] = b1 ∧ Lib.replaceAll b1 [83, 40, 35, 49, 41] [40, 40, 80, 32, 48, 41, 32, 35, 49, 41] = b2 ∧ Lib.replaceAll b2 [83, 40, 35, 50, 41] [40, 40, 80, 32, 48, 41, 32, 35, 50, 41] = b3 ∧ Lib.replaceAll b3 [80] plusB = b4 ∧ Lib.replaceAll b4 [81] predB = b5
theorem chain_nil : Chain [] [] := ⟨[], [], [], [], by decide, by decide +kernel, by decide +kernel, by decide +kernel, by decide +kernel, by decide +kernel⟩
def thS1R : List UInt8 := [40, 78, 62, 123, 78, 44, 40, 40, 80, 32, 35, 48, 41, 32, 48, 41, 44, 35, 48, 125, 41]
def thS1B : List UInt8 := [40, 78, 62, 123, 78, 44, 40, 40, 91, 78, 93, 91, 78, 93, 60, 91, 78, 93, 78, 44, 35, 49, 44, 91, 78, 93, 91, 78, 93, 43, 35, 48, 44, 35, 48, 62, 32, 35, 48, 41, 32, 48, 41, 44, 35, 48, 125, 41]
def thS1 : Tm := (.mk 3 0 [(.mk 6 0 []), (.mk 10 0 [(.mk 6 0 []), (.mk 5 0 [(.mk 5 0 [(.mk 4 0 [(.mk 6 0 []), (.mk 4 0 [(.mk 6 0 []), (.mk 9 0 [(.mk 4 0 [(.mk 6 0 []), (.mk 6 0 [])]), (.mk 1 1 []), (.mk 4 0 [(.mk 6 0 []), (.mk 4 0 [(.mk 6 0 []), (.mk 8 0 [(.mk 1 0 [])])])]), (.mk 1 0 [])])])]), (.mk 1 0 [])]), (.mk 7 0 [])]), (.mk 1 0 [])])])
theorem thS1_chain : Chain thS1R thS1B := ⟨[40, 78, 62, 123, 78, 44, 40, 40, 80, 32, 35, 48, 41, 32, 48, 41, 44, 35, 48, 125, 41], [40, 78, 62, 123, 78, 44, 40, 40, 80, 32, 35, 48, 41, 32, 48, 41, 44, 35, 48, 125, 41], [40, 78, 62, 123, 78, 44, 40, 40, 80, 32, 35, 48, 41, 32, 48, 41, 44, 35, 48, 125, 41], [40, 78, 62, 123, 78, 44, 40, 40, 91, 78, 93, 91, 78, 93, 60, 91, 78, 93, 78, 44, 35, 49, 44, 91, 78, 93, 91, 78, 93, 43, 35, 48, 44, 35, 48, 62, 32, 35, 48, 41, 32, 48, 41, 44, 35, 48, 125, 41], by decide +kernel, by decide +kernel, by decide +kernel, by decide +kernel, by decide +kernel, by decide +kernel⟩
theorem thS1_good : Good thS1 thS1B := ⟨Tx.cast (.rnd 29 3 62 _ _ _ _ (.inl ⟨rfl, rfl⟩) (.nat 28) (tx3 (.inr (.inl ⟨rfl, rfl, rfl, rfl⟩)) (.nat 27) (.rnd 27 5 32 _ _ _ _ (.inr (.inr ⟨rfl, rfl⟩)) (.rnd 26 5 32 _ _ _ _ (.inr (.inr ⟨rfl, rfl⟩)) (.lam 25 _ _ _ _ (.nat 24) (.lam 24 _ _ _ _ (.nat 23) (tx4 (.inl ⟨rfl, rfl, rfl, rfl⟩) (.lam 22 _ _ _ _ (.nat 21) (.nat 21)) (.var 22 1 49 (by decide)) (.lam 22 _ _ _ _ (.nat 21) (.lam 21 _ _ _ _ (.nat 20) (.pre 20 8 43 _ _ (.inl ⟨rfl, rfl⟩) (.var 19 0 48 (by decide))))) (.var 22 0 48 (by decide))))) (.var 25 0 48 (by decide))) (.zero 26)) (.var 27 0 48 (by decide)))) (by simp [ser, thS1B]), by decide +kernel, by decide⟩
def thP1R : List UInt8 := [91, 78, 93, 33, 35, 48]
def thP1B : List UInt8 := [91, 78, 93, 33, 35, 48]
def thP1 : Tm := (.mk 4 0 [(.mk 6 0 []), (.mk 11 0 [(.mk 1 0 [])])])
theorem thP1_chain : Chain thP1R thP1B := ⟨[91, 78, 93, 33, 35, 48], [91, 78, 93, 33, 35, 48], [91, 78, 93, 33, 35, 48], [91, 78, 93, 33, 35, 48], by decide +kernel, by decide +kernel, by decide +kernel, by decide +kernel, by decide +kernel, by decide +kernel⟩
theorem thP1_good : Good thP1 thP1B := ⟨Tx.cast (.lam 29 _ _ _ _ (.nat 28) (.pre 28 11 33 _ _ (.inr (.inl ⟨rfl, rfl⟩)) (.var 27 0 48 (by decide)))) (by simp [ser, thP1B]), by decide +kernel, by decide⟩
def thS2R : List UInt8 := [40, 78, 62, 123, 78, 44, 83, 40, 35, 48, 41, 44, 35, 48, 125, 41]
def thS2B : List UInt8 := [40, 78, 62, 123, 78, 44, 40, 40, 91, 78, 93, 91, 78, 93, 60, 91, 78, 93, 78, 44, 35, 49, 44, 91, 78, 93, 91, 78, 93, 43, 35, 48, 44, 35, 48, 62, 32, 48, 41, 32, 35, 48, 41, 44, 35, 48, 125, 41]
def thS2 : Tm := (.mk 3 0 [(.mk 6 0 []), (.mk 10 0 [(.mk 6 0 []), (.mk 5 0 [(.mk 5 0 [(.mk 4 0 [(.mk 6 0 []), (.mk 4 0 [(.mk 6 0 []), (.mk 9 0 [(.mk 4 0 [(.mk 6 0 []), (.mk 6 0 [])]), (.mk 1 1 []), (.mk 4 0 [(.mk 6 0 []), (.mk 4 0 [(.mk 6 0 []), (.mk 8 0 [(.mk 1 0 [])])])]), (.mk 1 0 [])])])]), (.mk 7 0 [])]), (.mk 1 0 [])]), (.mk 1 0 [])])])
theorem thS2_chain : Chain thS2R thS2B := ⟨[40, 78, 62, 123, 78, 44, 40, 40, 80, 32, 48, 41, 32, 35, 48, 41, 44, 35, 48, 125, 41], [40, 78, 62, 123, 78, 44, 40, 40, 80, 32, 48, 41, 32, 35, 48, 41, 44, 35, 48, 125, 41], [40, 78, 62, 123, 78, 44, 40, 40, 80, 32, 48, 41, 32, 35, 48, 41, 44, 35, 48, 125, 41], [40, 78, 62, 123, 78, 44, 40, 40, 91, 78, 93, 91, 78, 93, 60, 91, 78, 93, 78, 44, 35, 49, 44, 91, 78, 93, 91, 78, 93, 43, 35, 48, 44, 35, 48, 62, 32, 48, 41, 32, 35, 48, 41, 44, 35, 48, 125, 41], by decide +kernel, by decide +kernel, by decide +kernel, by decide +kernel, by decide +kernel, by decide +kernel⟩
theorem thS2_good : Good thS2 thS2B := ⟨Tx.cast (.rnd 29 3 62 _ _ _ _ (.inl ⟨rfl, rfl⟩) (.nat 28) (tx3 (.inr (.inl ⟨rfl, rfl, rfl, rfl⟩)) (.nat 27) (.rnd 27 5 32 _ _ _ _ (.inr (.inr ⟨rfl, rfl⟩)) (.rnd 26 5 32 _ _ _ _ (.inr (.inr ⟨rfl, rfl⟩)) (.lam 25 _ _ _ _ (.nat 24) (.lam 24 _ _ _ _ (.nat 23) (tx4 (.inl ⟨rfl, rfl, rfl, rfl⟩) (.lam 22 _ _ _ _ (.nat 21) (.nat 21)) (.var 22 1 49 (by decide)) (.lam 22 _ _ _ _ (.nat 21) (.lam 21 _ _ _ _ (.nat 20) (.pre 20 8 43 _ _ (.inl ⟨rfl, rfl⟩) (.var 19 0 48 (by decide))))) (.var 22 0 48 (by decide))))) (.zero 25)) (.var 26 0 48 (by decide))) (.var 27 0 48 (by decide)))) (by simp [ser, thS2B]), by decide +kernel, by decide⟩
def thP2R : List UInt8 := [91, 78, 93, 60, 91, 78, 93, 123, 78, 44, 83, 40, 35, 48, 41, 44, 35, 48, 125, 44, 33, 48, 44, 91, 78, 93, 91, 123, 78, 44, 83, 40, 35, 48, 41, 44, 35, 48, 125, 93, 64, 60, 91, 78, 93, 123, 78, 44, 43, 83, 40, 35, 50, 41, 44, 43, 35, 48, 125, 44, 35, 48, 44, 33, 43, 83, 40, 35, 49, 41, 62, 44, 35, 48, 62]
def thP2B : List UInt8 := [91, 78, 93, 60, 91, 78, 93, 123, 78, 44, 40, 40, 91, 78, 93, 91, 78, 93, 60, 91, 78, 93, 78, 44, 35, 49, 44, 91, 78, 93, 91, 78, 93, 43, 35, 48, 44, 35, 48, 62, 32, 48, 41, 32, 35, 48, 41, 44, 35, 48, 125, 44, 33, 48, 44, 91, 78, 93, 91, 123, 78, 44, 40, 40, 91, 78, 93, 91, 78, 93, 60, 91, 78, 93, 78, 44, 35, 49, 44, 91, 78, 93, 91, 78, 93, 43, 35, 48, 44, 35, 48, 62, 32, 48, 41, 32, 35, 48, 41, 44, 35, 48, 125, 93, 64, 60, 91, 78, 93, 123, 78, 44, 43, 40, 40, 91, 78, 93, 91, 78, 93, 60, 91, 78, 93, 78, 44, 35, 49, 44, 91, 78, 93, 91, 78, 93, 43, 35, 48, 44, 35, 48, 62, 32, 48, 41, 32, 35, 50, 41, 44, 43, 35, 48, 125, 44, 35, 48, 44, 33, 43, 40, 40, 91, 78, 93, 91, 78, 93, 60, 91, 78, 93, 78, 44, 35, 49, 44, 91, 78, 93, 91, 78, 93, 43, 35, 48, 44, 35, 48, 62, 32, 48, 41, 32, 35, 49, 41, 62, 44, 35, 48, 62]
def thP2 : Tm := (.mk 4 0 [(.mk 6 0 []), (.mk 9 0 [(.mk 4 0 [(.mk 6 0 []), (.mk 10 0 [(.mk 6 0 []), (.mk 5 0 [(.mk 5 0 [(.mk 4 0 [(.mk 6 0 []), (.mk 4 0 [(.mk 6 0 []), (.mk 9 0 [(.mk 4 0 [(.mk 6 0 []), (.mk 6 0 [])]), (.mk 1 1 []), (.mk 4 0 [(.mk 6 0 []), (.mk 4 0 [(.mk 6 0 []), (.mk 8 0 [(.mk 1 0 [])])])]), (.mk 1 0 [])])])]), (.mk 7 0 [])]), (.mk 1 0 [])]), (.mk 1 0 [])])]), (.mk 11 0 [(.mk 7 0 [])]), (.mk 4 0 [(.mk 6 0 []), (.mk 4 0 [(.mk 10 0 [(.mk 6 0 []), (.mk 5 0 [(.mk 5 0 [(.mk 4 0 [(.mk 6 0 []), (.mk 4 0 [(.mk 6 0 []), (.mk 9 0 [(.mk 4 0 [(.mk 6 0 []), (.mk 6 0 [])]), (.mk 1 1 []), (.mk 4 0 [(.mk 6 0 []), (.mk 4 0 [(.mk 6 0 []), (.mk 8 0 [(.mk 1 0 [])])])]), (.mk 1 0 [])])])]), (.mk 7 0 [])]), (.mk 1 0 [])]), (.mk 1 0 [])]), (.mk 12 0 [(.mk 4 0 [(.mk 6 0 []), (.mk 10 0 [(.mk 6 0 []), (.mk 8 0 [(.mk 5 0 [(.mk 5 0 [(.mk 4 0 [(.mk 6 0 []), (.mk 4 0 [(.mk 6 0 []), (.mk 9 0 [(.mk 4 0 [(.mk 6 0 []), (.mk 6 0 [])]), (.mk 1 1 []), (.mk 4 0 [(.mk 6 0 []), (.mk 4 0 [(.mk 6 0 []), (.mk 8 0 [(.mk 1 0 [])])])]), (.mk 1 0 [])])])]), (.mk 7 0 [])]), (.mk 1 2 [])])]), (.mk 8 0 [(.mk 1 0 [])])])]), (.mk 1 0 []), (.mk 11 0 [(.mk 8 0 [(.mk 5 0 [(.mk 5 0 [(.mk 4 0 [(.mk 6 0 []), (.mk 4 0 [(.mk 6 0 []), (.mk 9 0 [(.mk 4 0 [(.mk 6 0 []), (.mk 6 0 [])]), (.mk 1 1 []), (.mk 4 0 [(.mk 6 0 []), (.mk 4 0 [(.mk 6 0 []), (.mk 8 0 [(.mk 1 0 [])])])]), (.mk 1 0 [])])])]), (.mk 7 0 [])]), (.mk 1 1 [])])])])])])]), (.mk 1 0 [])])])
theorem thP2_chain : Chain thP2R thP2B := ⟨[91, 78, 93, 60, 91, 78, 93, 123, 78, 44, 40, 40, 80, 32, 48, 41, 32, 35, 48, 41, 44, 35, 48, 125, 44, 33, 48, 44, 91, 78, 93, 91, 123, 78, 44, 40, 40, 80, 32, 48, 41, 32, 35, 48, 41, 44, 35, 48, 125, 93, 64, 60, 91, 78, 93, 123, 78, 44, 43, 83, 40, 35, 50, 41, 44, 43, 35, 48, 125, 44, 35, 48, 44, 33, 43, 83, 40, 35, 49, 41, 62, 44, 35, 48, 62], [91, 78, 93, 60, 91, 78, 93, 123, 78, 44, 40, 40, 80, 32, 48, 41, 32, 35, 48, 41, 44, 35, 48, 125, 44, 33, 48, 44, 91, 78, 93, 91, 123, 78, 44, 40, 40, 80, 32, 48, 41, 32, 35, 48, 41, 44, 35, 48, 125, 93, 64, 60, 91, 78, 93, 123, 78, 44, 43, 83, 40, 35, 50, 41, 44, 43, 35, 48, 125, 44, 35, 48, 44, 33, 43, 40, 40, 80, 32, 48, 41, 32, 35, 49, 41, 62, 44, 35, 48, 62], [91, 78, 93, 60, 91, 78, 93, 123, 78, 44, 40, 40, 80, 32, 48, 41, 32, 35, 48, 41, 44, 35, 48, 125, 44, 33, 48, 44, 91, 78, 93, 91, 123, 78, 44, 40, 40, 80, 32, 48, 41, 32, 35, 48, 41, 44, 35, 48, 125, 93, 64, 60, 91, 78, 93, 123, 78, 44, 43, 40, 40, 80, 32, 48, 41, 32, 35, 50, 41, 44, 43, 35, 48, 125, 44, 35, 48, 44, 33, 43, 40, 40, 80, 32, 48, 41, 32, 35, 49, 41, 62, 44, 35, 48, 62], [91, 78, 93, 60, 91, 78, 93, 123, 78, 44, 40, 40, 91, 78, 93, 91, 78, 93, 60, 91, 78, 93, 78, 44, 35, 49, 44, 91, 78, 93, 91, 78, 93, 43, 35, 48, 44, 35, 48, 62, 32, 48, 41, 32, 35, 48, 41, 44, 35, 48, 125, 44, 33, 48, 44, 91, 78, 93, 91, 123, 78, 44, 40, 40, 91, 78, 93, 91, 78, 93, 60, 91, 78, 93, 78, 44, 35, 49, 44, 91, 78, 93, 91, 78, 93, 43, 35, 48, 44, 35, 48, 62, 32, 48, 41, 32, 35, 48, 41, 44, 35, 48, 125, 93, 64, 60, 91, 78, 93, 123, 78, 44, 43, 40, 40, 91, 78, 93, 91, 78, 93, 60, 91, 78, 93, 78, 44, 35, 49, 44, 91, 78, 93, 91, 78, 93, 43, 35, 48, 44, 35, 48, 62, 32, 48, 41, 32, 35, 50, 41, 44, 43, 35, 48, 125, 44, 35, 48, 44, 33, 43, 40, 40, 91, 78, 93, 91, 78, 93, 60, 91, 78, 93, 78, 44, 35, 49, 44, 91, 78, 93, 91, 78, 93, 43, 35, 48, 44, 35, 48, 62, 32, 48, 41, 32, 35, 49, 41, 62, 44, 35, 48, 62], by decide +kernel, by decide +kernel, by decide +kernel, by decide +kernel, by decide +kernel, by decide +kernel⟩
theorem thP2_good : Good thP2 thP2B := ⟨Tx.cast (.lam 29 _ _ _ _ (.nat 28) (tx4 (.inl ⟨rfl, rfl, rfl, rfl⟩) (.lam 27 _ _ _ _ (.nat 26) (tx3 (.inr (.inl ⟨rfl, rfl, rfl, rfl⟩)) (.nat 25) (.rnd 25 5 32 _ _ _ _ (.inr (.inr ⟨rfl, rfl⟩)) (.rnd 24 5 32 _ _ _ _ (.inr (.inr ⟨rfl, rfl⟩)) (.lam 23 _ _ _ _ (.nat 22) (.lam 22 _ _ _ _ (.nat 21) (tx4 (.inl ⟨rfl, rfl, rfl, rfl⟩) (.lam 20 _ _ _ _ (.nat 19) (.nat 19)) (.var 20 1 49 (by decide)) (.lam 20 _ _ _ _ (.nat 19) (.lam 19 _ _ _ _ (.nat 18) (.pre 18 8 43 _ _ (.inl ⟨rfl, rfl⟩) (.var 17 0 48 (by decide))))) (.var 20 0 48 (by decide))))) (.zero 23)) (.var 24 0 48 (by decide))) (.var 25 0 48 (by decide)))) (.pre 27 11 33 _ _ (.inr (.inl ⟨rfl, rfl⟩)) (.zero 26)) (.lam 27 _ _ _ _ (.nat 26) (.lam 26 _ _ _ _ (tx3 (.inr (.inl ⟨rfl, rfl, rfl, rfl⟩)) (.nat 24) (.rnd 24 5 32 _ _ _ _ (.inr (.inr ⟨rfl, rfl⟩)) (.rnd 23 5 32 _ _ _ _ (.inr (.inr ⟨rfl, rfl⟩)) (.lam 22 _ _ _ _ (.nat 21) (.lam 21 _ _ _ _ (.nat 20) (tx4 (.inl ⟨rfl, rfl, rfl, rfl⟩) (.lam 19 _ _ _ _ (.nat 18) (.nat 18)) (.var 19 1 49 (by decide)) (.lam 19 _ _ _ _ (.nat 18) (.lam 18 _ _ _ _ (.nat 17) (.pre 17 8 43 _ _ (.inl ⟨rfl, rfl⟩) (.var 16 0 48 (by decide))))) (.var 19 0 48 (by decide))))) (.zero 22)) (.var 23 0 48 (by decide))) (.var 24 0 48 (by decide))) (tx3 (.inr (.inr (.inr ⟨rfl, rfl, rfl, rfl⟩))) (.lam 24 _ _ _ _ (.nat 23) (tx3 (.inr (.inl ⟨rfl, rfl, rfl, rfl⟩)) (.nat 22) (.pre 22 8 43 _ _ (.inl ⟨rfl, rfl⟩) (.rnd 21 5 32 _ _ _ _ (.inr (.inr ⟨rfl, rfl⟩)) (.rnd 20 5 32 _ _ _ _ (.inr (.inr ⟨rfl, rfl⟩)) (.lam 19 _ _ _ _ (.nat 18) (.lam 18 _ _ _ _ (.nat 17) (tx4 (.inl ⟨rfl, rfl, rfl, rfl⟩) (.lam 16 _ _ _ _ (.nat 15) (.nat 15)) (.var 16 1 49 (by decide)) (.lam 16 _ _ _ _ (.nat 15) (.lam 15 _ _ _ _ (.nat 14) (.pre 14 8 43 _ _ (.inl ⟨rfl, rfl⟩) (.var 13 0 48 (by decide))))) (.var 16 0 48 (by decide))))) (.zero 19)) (.var 20 2 50 (by decide)))) (.pre 22 8 43 _ _ (.inl ⟨rfl, rfl⟩) (.var 21 0 48 (by decide))))) (.var 24 0 48 (by decide)) (.pre 24 11 33 _ _ (.inr (.inl ⟨rfl, rfl⟩)) (.pre 23 8 43 _ _ (.inl ⟨rfl, rfl⟩) (.rnd 22 5 32 _ _ _ _ (.inr (.inr ⟨rfl, rfl⟩)) (.rnd 21 5 32 _ _ _ _ (.inr (.inr ⟨rfl, rfl⟩)) (.lam 20 _ _ _ _ (.nat 19) (.lam 19 _ _ _ _ (.nat 18) (tx4 (.inl ⟨rfl, rfl, rfl, rfl⟩) (.lam 17 _ _ _ _ (.nat 16) (.nat 16)) (.var 17 1 49 (by decide)) (.lam 17 _ _ _ _ (.nat 16) (.lam 16 _ _ _ _ (.nat 15) (.pre 15 8 43 _ _ (.inl ⟨rfl, rfl⟩) (.var 14 0 48 (by decide))))) (.var 17 0 48 (by decide))))) (.zero 20)) (.var 21 1 49 (by decide)))))))) (.var 27 0 48 (by decide)))) (by simp [ser, thP2B]), by decide +kernel, by decide⟩
def thS3R : List UInt8 := [40, 78, 62, 123, 78, 44, 40, 81, 32, 43, 35, 48, 41, 44, 35, 48, 125, 41]
def thS3B : List UInt8 := [40, 78, 62, 123, 78, 44, 40, 91, 78, 93, 60, 91, 78, 93, 78, 44, 48, 44, 91, 78, 93, 91, 78, 93, 35, 49, 44, 35, 48, 62, 32, 43, 35, 48, 41, 44, 35, 48, 125, 41]
def thS3 : Tm := (.mk 3 0 [(.mk 6 0 []), (.mk 10 0 [(.mk 6 0 []), (.mk 5 0 [(.mk 4 0 [(.mk 6 0 []), (.mk 9 0 [(.mk 4 0 [(.mk 6 0 []), (.mk 6 0 [])]), (.mk 7 0 []), (.mk 4 0 [(.mk 6 0 []), (.mk 4 0 [(.mk 6 0 []), (.mk 1 1 [])])]), (.mk 1 0 [])])]), (.mk 8 0 [(.mk 1 0 [])])]), (.mk 1 0 [])])])
theorem thS3_chain : Chain thS3R thS3B := ⟨[40, 78, 62, 123, 78, 44, 40, 81, 32, 43, 35, 48, 41, 44, 35, 48, 125, 41], [40, 78, 62, 123, 78, 44, 40, 81, 32, 43, 35, 48, 41, 44, 35, 48, 125, 41], [40, 78, 62, 123, 78, 44, 40, 81, 32, 43, 35, 48, 41, 44, 35, 48, 125, 41], [40, 78, 62, 123, 78, 44, 40, 81, 32, 43, 35, 48, 41, 44, 35, 48, 125, 41], by decide +kernel, by decide +kernel, by decide +kernel, by decide +kernel, by decide +kernel, by decide +kernel⟩
theorem thS3_good : Good thS3 thS3B := ⟨Tx.cast (.rnd 29 3 62 _ _ _ _ (.inl ⟨rfl, rfl⟩) (.nat 28) (tx3 (.inr (.inl ⟨rfl, rfl, rfl, rfl⟩)) (.nat 27) (.rnd 27 5 32 _ _ _ _ (.inr (.inr ⟨rfl, rfl⟩)) (.lam 26 _ _ _ _ (.nat 25) (tx4 (.inl ⟨rfl, rfl, rfl, rfl⟩) (.lam 24 _ _ _ _ (.nat 23) (.nat 23)) (.zero 24) (.lam 24 _ _ _ _ (.nat 23) (.lam 23 _ _ _ _ (.nat 22) (.var 22 1 49 (by decide)))) (.var 24 0 48 (by decide)))) (.pre 26 8 43 _ _ (.inl ⟨rfl, rfl⟩) (.var 25 0 48 (by decide)))) (.var 27 0 48 (by decide)))) (by simp [ser, thS3B]), by decide +kernel, by decide⟩
def thP3R : List UInt8 := [91, 78, 93, 33, 35, 48]
def thP3B : List UInt8 := [91, 78, 93, 33, 35, 48]
def thP3 : Tm := (.mk 4 0 [(.mk 6 0 []), (.mk 11 0 [(.mk 1 0 [])])])
theorem thP3_chain : Chain thP3R thP3B := ⟨[91, 78, 93, 33, 35, 48], [91, 78, 93, 33, 35, 48], [91, 78, 93, 33, 35, 48], [91, 78, 93, 33, 35, 48], by decide +kernel, by decide +kernel, by decide +kernel, by decide +kernel, by decide +kernel, by decide +kernel⟩
theorem thP3_good : Good thP3 thP3B := ⟨Tx.cast (.lam 29 _ _ _ _ (.nat 28) (.pre 28 11 33 _ _ (.inr (.inl ⟨rfl, rfl⟩)) (.var 27 0 48 (by decide)))) (by simp [ser, thP3B]), by decide +kernel, by decide⟩
def thS4R : List UInt8 := [40, 123, 78, 44, 48, 44, 43, 48, 125, 62, 40, 42, 48, 62, 35, 48, 41, 41]
def thS4B : List UInt8 := [40, 123, 78, 44, 48, 44, 43, 48, 125, 62, 40, 42, 48, 62, 35, 48, 41, 41]
def thS4 : Tm := (.mk 3 0 [(.mk 10 0 [(.mk 6 0 []), (.mk 7 0 []), (.mk 8 0 [(.mk 7 0 [])])]), (.mk 3 0 [(.mk 2 0 []), (.mk 1 0 [])])])
theorem thS4_chain : Chain thS4R thS4B := ⟨[40, 123, 78, 44, 48, 44, 43, 48, 125, 62, 40, 42, 48, 62, 35, 48, 41, 41], [40, 123, 78, 44, 48, 44, 43, 48, 125, 62, 40, 42, 48, 62, 35, 48, 41, 41], [40, 123, 78, 44, 48, 44, 43, 48, 125, 62, 40, 42, 48, 62, 35, 48, 41, 41], [40, 123, 78, 44, 48, 44, 43, 48, 125, 62, 40, 42, 48, 62, 35, 48, 41, 41], by decide +kernel, by decide +kernel, by decide +kernel, by decide +kernel, by decide +kernel, by decide +kernel⟩
theorem thS4_good : Good thS4 thS4B := ⟨Tx.cast (.rnd 29 3 62 _ _ _ _ (.inl ⟨rfl, rfl⟩) (tx3 (.inr (.inl ⟨rfl, rfl, rfl, rfl⟩)) (.nat 27) (.zero 27) (.pre 27 8 43 _ _ (.inl ⟨rfl, rfl⟩) (.zero 26))) (.rnd 28 3 62 _ _ _ _ (.inl ⟨rfl, rfl⟩) (.sort 27 0 48 (by decide)) (.var 27 0 48 (by decide)))) (by simp [ser, thS4B]), by decide +kernel, by decide⟩
def thP4R : List UInt8 := [91, 123, 78, 44, 48, 44, 43, 48, 125, 93, 64, 60, 91, 78, 93, 60, 91, 78, 93, 42, 49, 44, 40, 42, 48, 62, 42, 48, 41, 44, 91, 78, 93, 91, 42, 49, 93, 40, 42, 48, 62, 35, 48, 41, 44, 35, 48, 62, 44, 35, 48, 44, 91, 42, 48, 93, 35, 48, 62]
def thP4B : List UInt8 := [91, 123, 78, 44, 48, 44, 43, 48, 125, 93, 64, 60, 91, 78, 93, 60, 91, 78, 93, 42, 49, 44, 40, 42, 48, 62, 42, 48, 41, 44, 91, 78, 93, 91, 42, 49, 93, 40, 42, 48, 62, 35, 48, 41, 44, 35, 48, 62, 44, 35, 48, 44, 91, 42, 48, 93, 35, 48, 62]
def thP4 : Tm := (.mk 4 0 [(.mk 10 0 [(.mk 6 0 []), (.mk 7 0 []), (.mk 8 0 [(.mk 7 0 [])])]), (.mk 12 0 [(.mk 4 0 [(.mk 6 0 []), (.mk 9 0 [(.mk 4 0 [(.mk 6 0 []), (.mk 2 1 [])]), (.mk 3 0 [(.mk 2 0 []), (.mk 2 0 [])]), (.mk 4 0 [(.mk 6 0 []), (.mk 4 0 [(.mk 2 1 []), (.mk 3 0 [(.mk 2 0 []), (.mk 1 0 [])])])]), (.mk 1 0 [])])]), (.mk 1 0 []), (.mk 4 0 [(.mk 2 0 []), (.mk 1 0 [])])])])
theorem thP4_chain : Chain thP4R thP4B := ⟨[91, 123, 78, 44, 48, 44, 43, 48, 125, 93, 64, 60, 91, 78, 93, 60, 91, 78, 93, 42, 49, 44, 40, 42, 48, 62, 42, 48, 41, 44, 91, 78, 93, 91, 42, 49, 93, 40, 42, 48, 62, 35, 48, 41, 44, 35, 48, 62, 44, 35, 48, 44, 91, 42, 48, 93, 35, 48, 62], [91, 123, 78, 44, 48, 44, 43, 48, 125, 93, 64, 60, 91, 78, 93, 60, 91, 78, 93, 42, 49, 44, 40, 42, 48, 62, 42, 48, 41, 44, 91, 78, 93, 91, 42, 49, 93, 40, 42, 48, 62, 35, 48, 41, 44, 35, 48, 62, 44, 35, 48, 44, 91, 42, 48, 93, 35, 48, 62], [91, 123, 78, 44, 48, 44, 43, 48, 125, 93, 64, 60, 91, 78, 93, 60, 91, 78, 93, 42, 49, 44, 40, 42, 48, 62, 42, 48, 41, 44, 91, 78, 93, 91, 42, 49, 93, 40, 42, 48, 62, 35, 48, 41, 44, 35, 48, 62, 44, 35, 48, 44, 91, 42, 48, 93, 35, 48, 62], [91, 123, 78, 44, 48, 44, 43, 48, 125, 93, 64, 60, 91, 78, 93, 60, 91, 78, 93, 42, 49, 44, 40, 42, 48, 62, 42, 48, 41, 44, 91, 78, 93, 91, 42, 49, 93, 40, 42, 48, 62, 35, 48, 41, 44, 35, 48, 62, 44, 35, 48, 44, 91, 42, 48, 93, 35, 48, 62], by decide +kernel, by decide +kernel, by decide +kernel, by decide +kernel, by decide +kernel, by decide +kernel⟩
theorem thP4_good : Good thP4 thP4B := ⟨Tx.cast (.lam 29 _ _ _ _ (tx3 (.inr (.inl ⟨rfl, rfl, rfl, rfl⟩)) (.nat 27) (.zero 27) (.pre 27 8 43 _ _ (.inl ⟨rfl, rfl⟩) (.zero 26))) (tx3 (.inr (.inr (.inr ⟨rfl, rfl, rfl, rfl⟩))) (.lam 27 _ _ _ _ (.nat 26) (tx4 (.inl ⟨rfl, rfl, rfl, rfl⟩) (.lam 25 _ _ _ _ (.nat 24) (.sort 24 1 49 (by decide))) (.rnd 25 3 62 _ _ _ _ (.inl ⟨rfl, rfl⟩) (.sort 24 0 48 (by decide)) (.sort 24 0 48 (by decide))) (.lam 25 _ _ _ _ (.nat 24) (.lam 24 _ _ _ _ (.sort 23 1 49 (by decide)) (.rnd 23 3 62 _ _ _ _ (.inl ⟨rfl, rfl⟩) (.sort 22 0 48 (by decide)) (.var 22 0 48 (by decide))))) (.var 25 0 48 (by decide)))) (.var 27 0 48 (by decide)) (.lam 27 _ _ _ _ (.sort 26 0 48 (by decide)) (.var 26 0 48 (by decide))))) (by simp [ser, thP4B]), by decide +kernel, by decide⟩
def thS5R : List UInt8 := [40, 78, 62, 40, 78, 62, 40, 123, 78, 44, 35, 49, 44, 35, 48, 125, 62, 123, 78, 44, 35, 49, 44, 35, 50, 125, 41, 41, 41]
def thS5B : List UInt8 := [40, 78, 62, 40, 78, 62, 40, 123, 78, 44, 35, 49, 44, 35, 48, 125, 62, 123, 78, 44, 35, 49, 44, 35, 50, 125, 41, 41, 41]
def thS5 : Tm := (.mk 3 0 [(.mk 6 0 []), (.mk 3 0 [(.mk 6 0 []), (.mk 3 0 [(.mk 10 0 [(.mk 6 0 []), (.mk 1 1 []), (.mk 1 0 [])]), (.mk 10 0 [(.mk 6 0 []), (.mk 1 1 []), (.mk 1 2 [])])])])])
theorem thS5_chain : Chain thS5R thS5B := ⟨[40, 78, 62, 40, 78, 62, 40, 123, 78, 44, 35, 49, 44, 35, 48, 125, 62, 123, 78, 44, 35, 49, 44, 35, 50, 125, 41, 41, 41], [40, 78, 62, 40, 78, 62, 40, 123, 78, 44, 35, 49, 44, 35, 48, 125, 62, 123, 78, 44, 35, 49, 44, 35, 50, 125, 41, 41, 41], [40, 78, 62, 40, 78, 62, 40, 123, 78, 44, 35, 49, 44, 35, 48, 125, 62, 123, 78, 44, 35, 49, 44, 35, 50, 125, 41, 41, 41], [40, 78, 62, 40, 78, 62, 40, 123, 78, 44, 35, 49, 44, 35, 48, 125, 62, 123, 78, 44, 35, 49, 44, 35, 50, 125, 41, 41, 41], by decide +kernel, by decide +kernel, by decide +kernel, by decide +kernel, by decide +kernel, by decide +kernel⟩
theorem thS5_good : Good thS5 thS5B := ⟨Tx.cast (.rnd 29 3 62 _ _ _ _ (.inl ⟨rfl, rfl⟩) (.nat 28) (.rnd 28 3 62 _ _ _ _ (.inl ⟨rfl, rfl⟩) (.nat 27) (.rnd 27 3 62 _ _ _ _ (.inl ⟨rfl, rfl⟩) (tx3 (.inr (.inl ⟨rfl, rfl, rfl, rfl⟩)) (.nat 25) (.var 25 1 49 (by decide)) (.var 25 0 48 (by decide))) (tx3 (.inr (.inl ⟨rfl, rfl, rfl, rfl⟩)) (.nat 25) (.var 25 1 49 (by decide)) (.var 25 2 50 (by decide)))))) (by simp [ser, thS5B]), by decide +kernel, by decide⟩
def thP5R : List UInt8 := [91, 78, 93, 91, 78, 93, 91, 123, 78, 44, 35, 49, 44, 35, 48, 125, 93, 64, 60, 91, 78, 93, 123, 78, 44, 35, 48, 44, 35, 51, 125, 44, 35, 48, 44, 33, 35, 50, 62]
def thP5B : List UInt8 := [91, 78, 93, 91, 78, 93, 91, 123, 78, 44, 35, 49, 44, 35, 48, 125, 93, 64, 60, 91, 78, 93, 123, 78, 44, 35, 48, 44, 35, 51, 125, 44, 35, 48, 44, 33, 35, 50, 62]
def thP5 : Tm := (.mk 4 0 [(.mk 6 0 []), (.mk 4 0 [(.mk 6 0 []), (.mk 4 0 [(.mk 10 0 [(.mk 6 0 []), (.mk 1 1 []), (.mk 1 0 [])]), (.mk 12 0 [(.mk 4 0 [(.mk 6 0 []), (.mk 10 0 [(.mk 6 0 []), (.mk 1 0 []), (.mk 1 3 [])])]), (.mk 1 0 []), (.mk 11 0 [(.mk 1 2 [])])])])])])
theorem thP5_chain : Chain thP5R thP5B := ⟨[91, 78, 93, 91, 78, 93, 91, 123, 78, 44, 35, 49, 44, 35, 48, 125, 93, 64, 60, 91, 78, 93, 123, 78, 44, 35, 48, 44, 35, 51, 125, 44, 35, 48, 44, 33, 35, 50, 62], [91, 78, 93, 91, 78, 93, 91, 123, 78, 44, 35, 49, 44, 35, 48, 125, 93, 64, 60, 91, 78, 93, 123, 78, 44, 35, 48, 44, 35, 51, 125, 44, 35, 48, 44, 33, 35, 50, 62], [91, 78, 93, 91, 78, 93, 91, 123, 78, 44, 35, 49, 44, 35, 48, 125, 93, 64, 60, 91, 78, 93, 123, 78, 44, 35, 48, 44, 35, 51, 125, 44, 35, 48, 44, 33, 35, 50, 62], [91, 78, 93, 91, 78, 93, 91, 123, 78, 44, 35, 49, 44, 35, 48, 125, 93, 64, 60, 91, 78, 93, 123, 78, 44, 35, 48, 44, 35, 51, 125, 44, 35, 48, 44, 33, 35, 50, 62], by decide +kernel, by decide +kernel, by decide +kernel, by decide +kernel, by decide +kernel, by decide +kernel⟩
theorem thP5_good : Good thP5 thP5B := ⟨Tx.cast (.lam 29 _ _ _ _ (.nat 28) (.lam 28 _ _ _ _ (.nat 27) (.lam 27 _ _ _ _ (tx3 (.inr (.inl ⟨rfl, rfl, rfl, rfl⟩)) (.nat 25) (.var 25 1 49 (by decide)) (.var 25 0 48 (by decide))) (tx3 (.inr (.inr (.inr ⟨rfl, rfl, rfl, rfl⟩))) (.lam 25 _ _ _ _ (.nat 24) (tx3 (.inr (.inl ⟨rfl, rfl, rfl, rfl⟩)) (.nat 23) (.var 23 0 48 (by decide)) (.var 23 3 51 (by decide)))) (.var 25 0 48 (by decide)) (.pre 25 11 33 _ _ (.inr (.inl ⟨rfl, rfl⟩)) (.var 24 2 50 (by decide))))))) (by simp [ser, thP5B]), by decide +kernel, by decide⟩
end Go.Proofs.YthgmofdfecioaaaGreatDoor

namespace Go.Proofs.YthgmofdfecioaaaGreatDoor
open Go.RowKit
set_option linter.unusedSimpArgs false
set_option linter.unusedVariables false

/-- what a parser hands back: the term, and that it is one -/
def GotP (w : World) (o : Option Tm) (e : Ending) (w' : World) : Prop :=
  ∃ (k n : Int) (ks : List Tm) (A : Option Addr) (c : Nat), o.getD (.mk 0 0 []) = .mk k n ks ∧ e = .returned (.tuple #[.agg #[.int .i64 k, .int .i64 n, .slice A ks.length c], .bool o.isSome]) ∧ ks.length ≤ 9223372036854775807 ∧ Fresh w.heap.size w' A ks ∧ Below w.heap.size w w'

set_option maxHeartbeats 4000000 in
set_option maxRecDepth 100000 in
theorem iParse_any {t : Tm} {b : List UInt8} (h : Good t b) (w : World) (hm : GM w) : Calls Tryz.prog 60 #[.string (byt b)] w (GotP w (some t)) := by
  obtain ⟨htx, hv, hb⟩ := h
  obtain ⟨k, n, ks⟩ := t
  have hread := hide (fun w hm => by simpa using readTerm_any htx.tu k n ks rfl [] 1 w (by simp; omega) trivial (by omega) (by omega) hm)
  have htext := hide (fun A c w hm hr => termText_any htx.tu k n ks rfl A c w (by omega) hm hr)
  have hvs := validT_size' hv
  have hv' := hide hv
  have q3 : ((byt b).toList == (byt b).toList) = true := by simp
  have hm' := hide hm
  have qe : ((byt []).toList == []) = true ∧ (byt []).toList.isEmpty = true := by simp [byt]
  obtain ⟨qe1, qe2⟩ := qe
  clear htx hv hm
  go_enter Tryz.func60, Tryz.ntmps60
  go_wp2_with (first
    | (go_at_call 87; refine (htext.out A1 c1 _ ((((hm'.out.keep g1).alloc _)).keep hb2) hf2.rd).mono ?_; rintro e w3 ⟨rfl, hb3⟩; clear x0 x1 x2; replace hX := hX.keep hb3; replace hZ := hZ.keep hb3; obtain ⟨x0, x1, x2⟩ := hX.three; obtain ⟨d0, d1, d2⟩ := hZ.three; have e0 := hZ.frozen 0; have e1 := hZ.frozen 1; have e2 := hZ.frozen 2; have lx := hX.lt; have lz := hZ.lt; have g3 : Below w.heap.size w w3 := g2.trans (hb3.mono g2.size))
    | (go_at_call 35; refine (iTermValid_any k n ks A1 c1 _ (by omega) (hf1.rd.alloc _)).mono ?_; rw [hv'.out]; rintro e w2 ⟨rfl, hb2⟩; replace hX := hX.keep hb2; replace hZ := (hZ.alloc _).keep hb2; obtain ⟨x0, x1, x2⟩ := hX.three; have g2 : Below w.heap.size w w2 := (g1.alloc (by omega) _).trans (hb2.mono (by simp; omega)); have hf2 := (hf1.alloc (.cells #[.int .i64 k, .int .i64 n, .slice A1 ks.length c1] 27)).below hb2)
    | (go_at_call 86; refine (hread.out _ (hm'.out.alloc _)).mono ?_; rintro e w1 ⟨A1, c1, rfl, hl1, hf1, hb1⟩; have hZ := (Blk.new_ w 27 #[.int .i64 0, .int .i64 0, .slice none 0 0] rfl).keep hb1; have g1 : Below w.heap.size w w1 := ((Below.refl _ _).alloc (Nat.le_refl _) _).trans (hb1.mono (by simp)); have s1 := g1.size; have hX := Blk.new_ w1 27 #[.int .i64 k, .int .i64 n, .slice A1 ks.length c1] rfl; have lz1 := hZ.lt))
  have hf3 := hf2.below hb3
  refine bodyPost_ret (v := .tuple #[.agg #[.int .i64 k, .int .i64 n, .slice A1 ks.length c1], .bool true]) (by simp [results, Tryz.results60, go_sem, d0, d1, d2]) rfl ⟨k, n, ks, A1, c1, rfl, rfl, hl1, ?_, ((g3.setCell (by simp) _).setCell (by simp) _).setCell (by simp) _⟩
  exact (((hf3.setCell (by simp) _).setCell (by simp) _).setCell (by simp) _).mono (by simp)
end Go.Proofs.YthgmofdfecioaaaGreatDoor

namespace Go.Proofs.YthgmofdfecioaaaGreatDoor
open Go.RowKit
set_option linter.unusedSimpArgs false
set_option linter.unusedVariables false

set_option maxRecDepth 100000

theorem byt_nil : byt [] = ⟨#[]⟩ := rfl
set_option maxHeartbeats 2000000 in
theorem iRead_nil (w : World) : Calls Tryz.prog 86 #[.string (byt []), .int .i64 1] w fun e w' => e = .returned (.tuple #[.agg #[.int .i64 0, .int .i64 0, .slice none 0 0], .string (byt []), .bool false]) ∧ Below w.heap.size w w' := by
  rw [byt_nil]
  go_enter Tryz.func86, Tryz.ntmps86
  go_wp2_with (go_at_call 112; refine (kindAt_nil _).mono ?_; rintro e w1 ⟨rfl, hb1⟩; have hZ := (Blk.new_ w 27 #[.int .i64 0, .int .i64 0, .slice none 0 0] rfl).keep hb1; obtain ⟨d0, d1, d2⟩ := hZ.three; have e0 := hZ.frozen 0; have e1 := hZ.frozen 1; have e2 := hZ.frozen 2; have g1 : Below w.heap.size w w1 := ((Below.refl _ _).alloc (Nat.le_refl _) _).trans (hb1.mono (by simp)))
  refine bodyPost_ret (v := .tuple #[.agg #[.int .i64 0, .int .i64 0, .slice none 0 0], .string ⟨#[]⟩, .bool false]) (by simp [results, Tryz.results86, go_sem, d0, d1, d2]) rfl ⟨rfl, ((g1.setCell (by simp) _).setCell (by simp) _).setCell (by simp) _⟩
set_option maxHeartbeats 2000000 in
theorem iParse_nil (w : World) : Calls Tryz.prog 60 #[.string (byt [])] w (GotP w none) := by
  have h0 := fun w => iRead_nil w
  rw [byt_nil] at h0 ⊢
  go_enter Tryz.func60, Tryz.ntmps60
  go_wp2_with (go_at_call 86; refine (h0 _).mono ?_; rintro e w1 ⟨rfl, hb1⟩; have hZ := (Blk.new_ w 27 #[.int .i64 0, .int .i64 0, .slice none 0 0] rfl).keep hb1; obtain ⟨d0, d1, d2⟩ := hZ.three; have e0 := hZ.frozen 0; have e1 := hZ.frozen 1; have e2 := hZ.frozen 2; have lz := hZ.lt; have g1 : Below w.heap.size w w1 := ((Below.refl _ _).alloc (Nat.le_refl _) _).trans (hb1.mono (by simp)))
  refine bodyPost_ret (v := .tuple #[.agg #[.int .i64 0, .int .i64 0, .slice none 0 0], .bool false]) (by simp [results, Tryz.results60, go_sem, d0, d1, d2, lz]) rfl ⟨0, 0, [], none, 0, rfl, rfl, by simp, Fresh.nil, (((g1.setCell (by simp) _).setCell (by simp) _).setCell (by simp) _).alloc (by simp; have := g1.size; omega) _⟩
set_option maxHeartbeats 2000000 in
theorem sParse1_nil (w : World) : Calls Tryz.prog 63 #[.string ⟨#[]⟩, .int .i64 0, .int .i64 30] w fun e w' => e = .returned (.tuple #[.agg #[.int .i64 0, .int .i64 0, .slice none 0 0], .int .i64 (-1)]) ∧ Below w.heap.size w w' := by
  go_enter Tryz.func63, Tryz.ntmps63
  go_wp2
  refine bodyPost_ret (v := .tuple #[.agg #[.int .i64 0, .int .i64 0, .slice none 0 0], .int .i64 (-1)]) (by simp [results, Tryz.results63, go_sem]) rfl ⟨rfl, ?_⟩
  exact (Below.refl _ _).alloc (Nat.le_refl _) _
set_option maxHeartbeats 2000000 in
theorem sParse_nil (w : World) : Calls Tryz.prog 40 #[.string (byt [])] w (GotP w none) := by
  rw [byt_nil]
  go_enter Tryz.func40, Tryz.ntmps40
  go_wp2_with (go_at_call 63; refine (sParse1_nil _).mono ?_; rintro e w1 ⟨rfl, hb1⟩; have hZ := (Blk.new_ w 27 #[.int .i64 0, .int .i64 0, .slice none 0 0] rfl).keep hb1; obtain ⟨d0, d1, d2⟩ := hZ.three; have e0 := hZ.frozen 0; have e1 := hZ.frozen 1; have e2 := hZ.frozen 2; have lz := hZ.lt; have g1 : Below w.heap.size w w1 := ((Below.refl _ _).alloc (Nat.le_refl _) _).trans (hb1.mono (by simp)))
  refine bodyPost_ret (v := .tuple #[.agg #[.int .i64 0, .int .i64 0, .slice none 0 0], .bool false]) (by simp [results, Tryz.results40, go_sem, d0, d1, d2, lz]) rfl ⟨0, 0, [], none, 0, rfl, rfl, by simp, Fresh.nil, (((g1.setCell (by simp) _).setCell (by simp) _).setCell (by simp) _).alloc (by simp; have := g1.size; omega) _⟩
theorem sParse_any {t : Tm} {b : List UInt8} (h : Good t b) (w : World) : Calls Tryz.prog 40 #[.string (byt b)] w (GotP w (some t)) := by
  obtain ⟨k, n, ks⟩ := t
  refine (parseTerm_any h w).mono fun e w' hg => ?_
  obtain ⟨A, c, rfl, hl, hf, hb⟩ := hg
  exact ⟨k, n, ks, A, c, rfl, rfl, hl, hf, hb⟩
theorem repl_any {a old new r : List UInt8} (h : Lib.replaceAll a old new = r) (ho : 1 ≤ old.length) (hl : a.length ≤ 1000) (hn : new.length ≤ 1000) (w : World) (hm : GM w) :
    Calls Tryz.prog 58 #[.string (byt a), .string (byt old), .string (byt new)] w fun e w' => e = .returned (.string (byt r)) ∧ Below w.heap.size w w' := by
  obtain ⟨m, hm⟩ := hm
  have sz : ∀ l : List UInt8, (byt l).size = l.length := fun l => by simp [byt, ByteArray.size]
  have hc := Lib.countB_le (byt old) (by rw [sz]; exact ho) _ (byt a) (Nat.le_refl _)
  rw [sz] at hc
  refine (Tryz.strings_ReplaceAll (byt a) (byt old) (byt new) m w (by rw [sz]; omega) hm (by rw [sz]; exact ho) ?_).mono ?_
  · rw [sz, sz]
    have : Lib.countB (byt a) (byt old) * new.length ≤ 1000 * 1000 := Nat.mul_le_mul (by omega) hn
    omega
  · rintro e w' ⟨rfl, hb⟩
    refine ⟨?_, hb⟩
    rw [byt_list, byt_list, byt_list, h]
    rfl
theorem funText1_any (w : World) : Calls Tryz.prog 59 #[.int .i64 1] w fun e w' => e = .returned (.string (byt plusB)) ∧ w = w' := by
  go_enter Tryz.func59, Tryz.ntmps59
  go_wp2
  go_ret
  exact ⟨rfl, rfl⟩
theorem funText3_any (w : World) : Calls Tryz.prog 59 #[.int .i64 3] w fun e w' => e = .returned (.string (byt predB)) ∧ w = w' := by
  go_enter Tryz.func59, Tryz.ntmps59
  go_wp2
  go_ret
  exact ⟨rfl, rfl⟩

/-- what a theorem's number stands for -/
def ThmAt (thm : Int) (sR pR sB pB : List UInt8) (oS oP : Option Tm) : Prop :=
  (thm = 1 ∧ sR = thS1R ∧ pR = thP1R ∧ sB = thS1B ∧ pB = thP1B ∧ oS = some thS1 ∧ oP = some thP1) ∨
  (thm = 2 ∧ sR = thS2R ∧ pR = thP2R ∧ sB = thS2B ∧ pB = thP2B ∧ oS = some thS2 ∧ oP = some thP2) ∨
  (thm = 3 ∧ sR = thS3R ∧ pR = thP3R ∧ sB = thS3B ∧ pB = thP3B ∧ oS = some thS3 ∧ oP = some thP3) ∨
  (thm = 4 ∧ sR = thS4R ∧ pR = thP4R ∧ sB = thS4B ∧ pB = thP4B ∧ oS = some thS4 ∧ oP = some thP4) ∨
  (thm = 5 ∧ sR = thS5R ∧ pR = thP5R ∧ sB = thS5B ∧ pB = thP5B ∧ oS = some thS5 ∧ oP = some thP5) ∨
  ((thm ≠ 1 ∧ thm ≠ 2 ∧ thm ≠ 3 ∧ thm ≠ 4 ∧ thm ≠ 5) ∧ sR = [] ∧ pR = [] ∧ sB = [] ∧ pB = [] ∧ oS = none ∧ oP = none)
theorem thmAt_ex (thm : Int) : ∃ sR pR sB pB oS oP, ThmAt thm sR pR sB pB oS oP := by
  by_cases h1 : thm = 1
  · exact ⟨_, _, _, _, _, _, .inl ⟨h1, rfl, rfl, rfl, rfl, rfl, rfl⟩⟩
  by_cases h2 : thm = 2
  · exact ⟨_, _, _, _, _, _, .inr (.inl ⟨h2, rfl, rfl, rfl, rfl, rfl, rfl⟩)⟩
  by_cases h3 : thm = 3
  · exact ⟨_, _, _, _, _, _, .inr (.inr (.inl ⟨h3, rfl, rfl, rfl, rfl, rfl, rfl⟩))⟩
  by_cases h4 : thm = 4
  · exact ⟨_, _, _, _, _, _, .inr (.inr (.inr (.inl ⟨h4, rfl, rfl, rfl, rfl, rfl, rfl⟩)))⟩
  by_cases h5 : thm = 5
  · exact ⟨_, _, _, _, _, _, .inr (.inr (.inr (.inr (.inl ⟨h5, rfl, rfl, rfl, rfl, rfl, rfl⟩))))⟩
  exact ⟨_, _, _, _, _, _, .inr (.inr (.inr (.inr (.inr ⟨⟨h1, h2, h3, h4, h5⟩, rfl, rfl, rfl, rfl, rfl, rfl⟩))))⟩
set_option maxHeartbeats 2000000 in
theorem theorem_any {thm : Int} {sR pR sB pB : List UInt8} {oS oP : Option Tm} (h : ThmAt thm sR pR sB pB oS oP) (w : World) :
    Calls Tryz.prog 37 #[.int .i64 thm] w fun e w' => e = .returned (.tuple #[.string (byt sR), .string (byt pR)]) ∧ w = w' := by
  rcases h with ⟨rfl, rfl, rfl, rfl, rfl, rfl, rfl⟩ | ⟨rfl, rfl, rfl, rfl, rfl, rfl, rfl⟩ | ⟨rfl, rfl, rfl, rfl, rfl, rfl, rfl⟩ | ⟨rfl, rfl, rfl, rfl, rfl, rfl, rfl⟩ | ⟨rfl, rfl, rfl, rfl, rfl, rfl, rfl⟩ | ⟨⟨h1, h2, h3, h4, h5⟩, rfl, rfl, rfl, rfl, rfl, rfl⟩
  · go_enter Tryz.func37, Tryz.ntmps37
    go_wp2
    go_ret2
    exact ⟨rfl, rfl⟩
  · go_enter Tryz.func37, Tryz.ntmps37
    go_wp2
    go_ret2
    exact ⟨rfl, rfl⟩
  · go_enter Tryz.func37, Tryz.ntmps37
    go_wp2
    go_ret2
    exact ⟨rfl, rfl⟩
  · go_enter Tryz.func37, Tryz.ntmps37
    go_wp2
    go_ret2
    exact ⟨rfl, rfl⟩
  · go_enter Tryz.func37, Tryz.ntmps37
    go_wp2
    go_ret2
    exact ⟨rfl, rfl⟩
  · have q1 : (thm == 1) = false := beq_eq_false_iff_ne.2 h1
    have q2 : (thm == 2) = false := beq_eq_false_iff_ne.2 h2
    have q3 : (thm == 3) = false := beq_eq_false_iff_ne.2 h3
    have q4 : (thm == 4) = false := beq_eq_false_iff_ne.2 h4
    have q5 : (thm == 5) = false := beq_eq_false_iff_ne.2 h5

    clear h1 h2 h3 h4 h5
    go_enter Tryz.func37, Tryz.ntmps37
    go_wp2
    go_ret2
    exact ⟨rfl, rfl⟩
set_option maxHeartbeats 4000000 in
theorem iRead_of {b0 b5 : List UInt8} (hc : Chain b0 b5) (o : Option Tm) (hp : ∀ w, GM w → Calls Tryz.prog 60 #[.string (byt b5)] w (GotP w o)) (w : World) (hm : GM w) :
    Calls Tryz.prog 38 #[.string (byt b0)] w (GotP w o) := by
  obtain ⟨b1, b2, b3, b4, ⟨l0, l1, l2, l3, l4⟩, e1, e2, e3, e4, e5⟩ := hc
  have r1 := hide (fun w hm => repl_any e1 (by decide) l0 (by decide) w hm)
  have r2 := hide (fun w hm => repl_any e2 (by decide) l1 (by decide) w hm)
  have r3 := hide (fun w hm => repl_any e3 (by decide) l2 (by decide) w hm)
  have r4 := hide (fun w hm => repl_any e4 (by decide) l3 (by decide) w hm)
  have r5 := hide (fun w hm => repl_any e5 (by decide) l4 (by decide) w hm)
  have hp' := hide hp
  have hm' := hide hm
  obtain ⟨ts, hts⟩ : ∃ ts : Nat → List UInt8, ts 0 = b0 ∧ ts 1 = b1 ∧ ts 2 = b2 ∧ ts 3 = b3 := ⟨fun i => match i with | 0 => b0 | 1 => b1 | 2 => b2 | _ => b3, rfl, rfl, rfl, rfl⟩
  have hts' := hide hts
  clear hp hm e1 e2 e3 e4 e5 hts
  have a1 : ∀ w, (Op.stringOp .add ⟨#[83, 40]⟩ ⟨#[35, 48]⟩).run Tryz.prog w = .ok (.string (byt [83, 40, 35, 48])) w := fun w => add_strE (a := [83, 40]) (b := [35, 48]) rfl (by decide) w
  have a2 : ∀ w, (Op.stringOp .add (byt [83, 40, 35, 48]) ⟨#[41]⟩).run Tryz.prog w = .ok (.string (byt [83, 40, 35, 48, 41])) w := fun w => add_strE (a := [83, 40, 35, 48]) (b := [41]) rfl (by decide) w
  have a3 : ∀ w, (Op.stringOp .add ⟨#[40, 40, 80, 32, 48, 41, 32]⟩ ⟨#[35, 48]⟩).run Tryz.prog w = .ok (.string (byt [40, 40, 80, 32, 48, 41, 32, 35, 48])) w := fun w => add_strE (a := [40, 40, 80, 32, 48, 41, 32]) (b := [35, 48]) rfl (by decide) w
  have a4 : ∀ w, (Op.stringOp .add (byt [40, 40, 80, 32, 48, 41, 32, 35, 48]) ⟨#[41]⟩).run Tryz.prog w = .ok (.string (byt [40, 40, 80, 32, 48, 41, 32, 35, 48, 41])) w := fun w => add_strE (a := [40, 40, 80, 32, 48, 41, 32, 35, 48]) (b := [41]) rfl (by decide) w
  have a5 : ∀ w, (Op.stringOp .add ⟨#[83, 40]⟩ ⟨#[35, 49]⟩).run Tryz.prog w = .ok (.string (byt [83, 40, 35, 49])) w := fun w => add_strE (a := [83, 40]) (b := [35, 49]) rfl (by decide) w
  have a6 : ∀ w, (Op.stringOp .add (byt [83, 40, 35, 49]) ⟨#[41]⟩).run Tryz.prog w = .ok (.string (byt [83, 40, 35, 49, 41])) w := fun w => add_strE (a := [83, 40, 35, 49]) (b := [41]) rfl (by decide) w
  have a7 : ∀ w, (Op.stringOp .add ⟨#[40, 40, 80, 32, 48, 41, 32]⟩ ⟨#[35, 49]⟩).run Tryz.prog w = .ok (.string (byt [40, 40, 80, 32, 48, 41, 32, 35, 49])) w := fun w => add_strE (a := [40, 40, 80, 32, 48, 41, 32]) (b := [35, 49]) rfl (by decide) w
  have a8 : ∀ w, (Op.stringOp .add (byt [40, 40, 80, 32, 48, 41, 32, 35, 49]) ⟨#[41]⟩).run Tryz.prog w = .ok (.string (byt [40, 40, 80, 32, 48, 41, 32, 35, 49, 41])) w := fun w => add_strE (a := [40, 40, 80, 32, 48, 41, 32, 35, 49]) (b := [41]) rfl (by decide) w
  have a9 : ∀ w, (Op.stringOp .add ⟨#[83, 40]⟩ ⟨#[35, 50]⟩).run Tryz.prog w = .ok (.string (byt [83, 40, 35, 50])) w := fun w => add_strE (a := [83, 40]) (b := [35, 50]) rfl (by decide) w
  have a10 : ∀ w, (Op.stringOp .add (byt [83, 40, 35, 50]) ⟨#[41]⟩).run Tryz.prog w = .ok (.string (byt [83, 40, 35, 50, 41])) w := fun w => add_strE (a := [83, 40, 35, 50]) (b := [41]) rfl (by decide) w
  have a11 : ∀ w, (Op.stringOp .add ⟨#[40, 40, 80, 32, 48, 41, 32]⟩ ⟨#[35, 50]⟩).run Tryz.prog w = .ok (.string (byt [40, 40, 80, 32, 48, 41, 32, 35, 50])) w := fun w => add_strE (a := [40, 40, 80, 32, 48, 41, 32]) (b := [35, 50]) rfl (by decide) w
  have a12 : ∀ w, (Op.stringOp .add (byt [40, 40, 80, 32, 48, 41, 32, 35, 50]) ⟨#[41]⟩).run Tryz.prog w = .ok (.string (byt [40, 40, 80, 32, 48, 41, 32, 35, 50, 41])) w := fun w => add_strE (a := [40, 40, 80, 32, 48, 41, 32, 35, 50]) (b := [41]) rfl (by decide) w
  go_enter Tryz.func38, Tryz.ntmps38
  go_wp2_with fail
  go_loopw [0, 8] (fun o i wr => ∃ j : Nat, j ≤ 3 ∧ o = .string (byt (ts j)) ∧ i = .int .i64 j ∧ Blk wr (w.heap.size + 1) #[.string ⟨#[35, 48]⟩, .string ⟨#[35, 49]⟩, .string ⟨#[35, 50]⟩] ∧ Blk wr w.heap.size #[.int .i64 0, .int .i64 0, .slice none 0 0] ∧ Below w.heap.size w wr) (fun _ i _ => 3 - (intOf i).toNat)
  case atStart => exact ⟨0, by omega, by rw [hts'.out.1], rfl, Blk.new_ _ 9 _ (by simp), (Blk.new_ w 27 _ rfl).alloc _, ((Below.refl _ _).alloc (Nat.le_refl _) _).alloc (by simp) _⟩
  case round =>
    obtain ⟨j, hj, rfl, rfl, hB, hZ, hb⟩ := hrel
    have gm := hm'.out.keep hb
    obtain ⟨c0, c1, c2⟩ := hB.three
    by_cases j0 : j = 0
    · subst j0
      rw [hts'.out.1]
      go_wp2_with (go_at_call 58; refine (r1.out _ gm).mono ?_; rintro e w1 ⟨rfl, hb1⟩)
      go_roundw
      case rel => exact ⟨1, by omega, by rw [hts'.out.2.1], rfl, hB.keep hb1, hZ.keep hb1, hb.trans (hb1.mono hb.size)⟩
      case measure => simp [intOf]
    by_cases j1 : j = 1
    · subst j1
      rw [hts'.out.2.1]
      go_wp2_with (go_at_call 58; refine (r2.out _ gm).mono ?_; rintro e w1 ⟨rfl, hb1⟩)
      go_roundw
      case rel => exact ⟨2, by omega, by rw [hts'.out.2.2.1], rfl, hB.keep hb1, hZ.keep hb1, hb.trans (hb1.mono hb.size)⟩
      case measure => simp [intOf]
    by_cases j2 : j = 2
    · subst j2
      rw [hts'.out.2.2.1]
      go_wp2_with (go_at_call 58; refine (r3.out _ gm).mono ?_; rintro e w1 ⟨rfl, hb1⟩)
      go_roundw
      case rel => exact ⟨3, by omega, by rw [hts'.out.2.2.2], rfl, hB.keep hb1, hZ.keep hb1, hb.trans (hb1.mono hb.size)⟩
      case measure => simp [intOf]
    obtain rfl : j = 3 := by omega
    rw [hts'.out.2.2.2]
    clear c0 c1 c2
    go_wp2_with (first
      | (go_at_call 60; refine (hp'.out _ gm2).mono ?_; rintro e w3 ⟨k, n, ks, A, c, hk, rfl, hl, hf, hb3⟩; have hk' := hide hk; clear hk; have hZ3 := hZ2.keep hb3; obtain ⟨d0, d1, d2⟩ := hZ3.three; have e0 := hZ3.frozen 0; have e1 := hZ3.frozen 1; have e2 := hZ3.frozen 2; have g3 := g2.trans (hb3.mono g2.size))
      | (go_at_call 58; have _t := tok; refine (r5.out _ gm1).mono ?_; rintro e w2 ⟨rfl, hb2⟩; clear tok; have gm2 := gm1.keep hb2; have hZ2 := hZ1.keep hb2; have g2 := g1.trans (hb2.mono g1.size))
      | (go_at_call 58; refine (r4.out _ gm).mono ?_; rintro e w1 ⟨rfl, hb1⟩; have tok : True := trivial; have gm1 := gm.keep hb1; have hZ1 := hZ.keep hb1; have g1 := hb.trans (hb1.mono hb.size))
      | (go_at_call 59; have _t := tok; refine (funText3_any _).mono ?_; rintro e w9 ⟨rfl, rfl⟩)
      | (go_at_call 59; refine (funText1_any _).mono ?_; rintro e w9 ⟨rfl, rfl⟩))
    refine bodyPost_ret (v := .tuple #[.agg #[.int .i64 k, .int .i64 n, .slice A ks.length c], .bool o.isSome]) (by simp [results, Tryz.results38, go_sem, d0, d1, d2]) rfl ⟨k, n, ks, A, c, hk'.out, rfl, hl, ?_, ((g3.setCell (by simp) _).setCell (by simp) _).setCell (by simp) _⟩
    exact (((hf.setCell (by simp; have := hZ2.lt; omega) _).setCell (by simp; have := hZ2.lt; omega) _).setCell (by simp; have := hZ2.lt; omega) _).mono g2.size
theorem plus_any (w : World) : Calls Tryz.prog 61 #[] w fun e w' => e = .returned (.string (byt plusB)) ∧ w = w' := by
  go_enter Tryz.func61, Tryz.ntmps61
  go_wp2
  go_ret
  exact ⟨rfl, rfl⟩
set_option maxHeartbeats 2000000 in
theorem sum0_any (w : World) : Calls Tryz.prog 62 #[.string ⟨#[35, 48]⟩] w fun e w' => e = .returned (.string (byt [40, 40, 91, 78, 93, 91, 78, 93, 60, 91, 78, 93, 78, 44, 35, 49, 44, 91, 78, 93, 91, 78, 93, 43, 35, 48, 44, 35, 48, 62, 32, 48, 41, 32, 35, 48, 41])) ∧ w = w' := by
  have a13 : ∀ w, (Op.stringOp .add ⟨#[40, 40]⟩ (byt plusB)).run Tryz.prog w = .ok (.string (byt [40, 40, 91, 78, 93, 91, 78, 93, 60, 91, 78, 93, 78, 44, 35, 49, 44, 91, 78, 93, 91, 78, 93, 43, 35, 48, 44, 35, 48, 62])) w := fun w => add_strE (a := [40, 40]) (b := [91, 78, 93, 91, 78, 93, 60, 91, 78, 93, 78, 44, 35, 49, 44, 91, 78, 93, 91, 78, 93, 43, 35, 48, 44, 35, 48, 62]) rfl (by decide) w
  have a14 : ∀ w, (Op.stringOp .add (byt [40, 40, 91, 78, 93, 91, 78, 93, 60, 91, 78, 93, 78, 44, 35, 49, 44, 91, 78, 93, 91, 78, 93, 43, 35, 48, 44, 35, 48, 62]) ⟨#[32, 48, 41, 32]⟩).run Tryz.prog w = .ok (.string (byt [40, 40, 91, 78, 93, 91, 78, 93, 60, 91, 78, 93, 78, 44, 35, 49, 44, 91, 78, 93, 91, 78, 93, 43, 35, 48, 44, 35, 48, 62, 32, 48, 41, 32])) w := fun w => add_strE (a := [40, 40, 91, 78, 93, 91, 78, 93, 60, 91, 78, 93, 78, 44, 35, 49, 44, 91, 78, 93, 91, 78, 93, 43, 35, 48, 44, 35, 48, 62]) (b := [32, 48, 41, 32]) rfl (by decide) w
  have a15 : ∀ w, (Op.stringOp .add (byt [40, 40, 91, 78, 93, 91, 78, 93, 60, 91, 78, 93, 78, 44, 35, 49, 44, 91, 78, 93, 91, 78, 93, 43, 35, 48, 44, 35, 48, 62, 32, 48, 41, 32]) ⟨#[35, 48]⟩).run Tryz.prog w = .ok (.string (byt [40, 40, 91, 78, 93, 91, 78, 93, 60, 91, 78, 93, 78, 44, 35, 49, 44, 91, 78, 93, 91, 78, 93, 43, 35, 48, 44, 35, 48, 62, 32, 48, 41, 32, 35, 48])) w := fun w => add_strE (a := [40, 40, 91, 78, 93, 91, 78, 93, 60, 91, 78, 93, 78, 44, 35, 49, 44, 91, 78, 93, 91, 78, 93, 43, 35, 48, 44, 35, 48, 62, 32, 48, 41, 32]) (b := [35, 48]) rfl (by decide) w
  have a16 : ∀ w, (Op.stringOp .add (byt [40, 40, 91, 78, 93, 91, 78, 93, 60, 91, 78, 93, 78, 44, 35, 49, 44, 91, 78, 93, 91, 78, 93, 43, 35, 48, 44, 35, 48, 62, 32, 48, 41, 32, 35, 48]) ⟨#[41]⟩).run Tryz.prog w = .ok (.string (byt [40, 40, 91, 78, 93, 91, 78, 93, 60, 91, 78, 93, 78, 44, 35, 49, 44, 91, 78, 93, 91, 78, 93, 43, 35, 48, 44, 35, 48, 62, 32, 48, 41, 32, 35, 48, 41])) w := fun w => add_strE (a := [40, 40, 91, 78, 93, 91, 78, 93, 60, 91, 78, 93, 78, 44, 35, 49, 44, 91, 78, 93, 91, 78, 93, 43, 35, 48, 44, 35, 48, 62, 32, 48, 41, 32, 35, 48]) (b := [41]) rfl (by decide) w
  go_enter Tryz.func62, Tryz.ntmps62
  go_wp2_with (go_at_call 61; refine (plus_any _).mono ?_; rintro e w9 ⟨rfl, rfl⟩)
  go_ret
  exact ⟨rfl, rfl⟩
set_option maxHeartbeats 2000000 in
theorem sum1_any (w : World) : Calls Tryz.prog 62 #[.string ⟨#[35, 49]⟩] w fun e w' => e = .returned (.string (byt [40, 40, 91, 78, 93, 91, 78, 93, 60, 91, 78, 93, 78, 44, 35, 49, 44, 91, 78, 93, 91, 78, 93, 43, 35, 48, 44, 35, 48, 62, 32, 48, 41, 32, 35, 49, 41])) ∧ w = w' := by
  have a17 : ∀ w, (Op.stringOp .add ⟨#[40, 40]⟩ (byt plusB)).run Tryz.prog w = .ok (.string (byt [40, 40, 91, 78, 93, 91, 78, 93, 60, 91, 78, 93, 78, 44, 35, 49, 44, 91, 78, 93, 91, 78, 93, 43, 35, 48, 44, 35, 48, 62])) w := fun w => add_strE (a := [40, 40]) (b := [91, 78, 93, 91, 78, 93, 60, 91, 78, 93, 78, 44, 35, 49, 44, 91, 78, 93, 91, 78, 93, 43, 35, 48, 44, 35, 48, 62]) rfl (by decide) w
  have a18 : ∀ w, (Op.stringOp .add (byt [40, 40, 91, 78, 93, 91, 78, 93, 60, 91, 78, 93, 78, 44, 35, 49, 44, 91, 78, 93, 91, 78, 93, 43, 35, 48, 44, 35, 48, 62]) ⟨#[32, 48, 41, 32]⟩).run Tryz.prog w = .ok (.string (byt [40, 40, 91, 78, 93, 91, 78, 93, 60, 91, 78, 93, 78, 44, 35, 49, 44, 91, 78, 93, 91, 78, 93, 43, 35, 48, 44, 35, 48, 62, 32, 48, 41, 32])) w := fun w => add_strE (a := [40, 40, 91, 78, 93, 91, 78, 93, 60, 91, 78, 93, 78, 44, 35, 49, 44, 91, 78, 93, 91, 78, 93, 43, 35, 48, 44, 35, 48, 62]) (b := [32, 48, 41, 32]) rfl (by decide) w
  have a19 : ∀ w, (Op.stringOp .add (byt [40, 40, 91, 78, 93, 91, 78, 93, 60, 91, 78, 93, 78, 44, 35, 49, 44, 91, 78, 93, 91, 78, 93, 43, 35, 48, 44, 35, 48, 62, 32, 48, 41, 32]) ⟨#[35, 49]⟩).run Tryz.prog w = .ok (.string (byt [40, 40, 91, 78, 93, 91, 78, 93, 60, 91, 78, 93, 78, 44, 35, 49, 44, 91, 78, 93, 91, 78, 93, 43, 35, 48, 44, 35, 48, 62, 32, 48, 41, 32, 35, 49])) w := fun w => add_strE (a := [40, 40, 91, 78, 93, 91, 78, 93, 60, 91, 78, 93, 78, 44, 35, 49, 44, 91, 78, 93, 91, 78, 93, 43, 35, 48, 44, 35, 48, 62, 32, 48, 41, 32]) (b := [35, 49]) rfl (by decide) w
  have a20 : ∀ w, (Op.stringOp .add (byt [40, 40, 91, 78, 93, 91, 78, 93, 60, 91, 78, 93, 78, 44, 35, 49, 44, 91, 78, 93, 91, 78, 93, 43, 35, 48, 44, 35, 48, 62, 32, 48, 41, 32, 35, 49]) ⟨#[41]⟩).run Tryz.prog w = .ok (.string (byt [40, 40, 91, 78, 93, 91, 78, 93, 60, 91, 78, 93, 78, 44, 35, 49, 44, 91, 78, 93, 91, 78, 93, 43, 35, 48, 44, 35, 48, 62, 32, 48, 41, 32, 35, 49, 41])) w := fun w => add_strE (a := [40, 40, 91, 78, 93, 91, 78, 93, 60, 91, 78, 93, 78, 44, 35, 49, 44, 91, 78, 93, 91, 78, 93, 43, 35, 48, 44, 35, 48, 62, 32, 48, 41, 32, 35, 49]) (b := [41]) rfl (by decide) w
  go_enter Tryz.func62, Tryz.ntmps62
  go_wp2_with (go_at_call 61; refine (plus_any _).mono ?_; rintro e w9 ⟨rfl, rfl⟩)
  go_ret
  exact ⟨rfl, rfl⟩
set_option maxHeartbeats 2000000 in
theorem sum2_any (w : World) : Calls Tryz.prog 62 #[.string ⟨#[35, 50]⟩] w fun e w' => e = .returned (.string (byt [40, 40, 91, 78, 93, 91, 78, 93, 60, 91, 78, 93, 78, 44, 35, 49, 44, 91, 78, 93, 91, 78, 93, 43, 35, 48, 44, 35, 48, 62, 32, 48, 41, 32, 35, 50, 41])) ∧ w = w' := by
  have a21 : ∀ w, (Op.stringOp .add ⟨#[40, 40]⟩ (byt plusB)).run Tryz.prog w = .ok (.string (byt [40, 40, 91, 78, 93, 91, 78, 93, 60, 91, 78, 93, 78, 44, 35, 49, 44, 91, 78, 93, 91, 78, 93, 43, 35, 48, 44, 35, 48, 62])) w := fun w => add_strE (a := [40, 40]) (b := [91, 78, 93, 91, 78, 93, 60, 91, 78, 93, 78, 44, 35, 49, 44, 91, 78, 93, 91, 78, 93, 43, 35, 48, 44, 35, 48, 62]) rfl (by decide) w
  have a22 : ∀ w, (Op.stringOp .add (byt [40, 40, 91, 78, 93, 91, 78, 93, 60, 91, 78, 93, 78, 44, 35, 49, 44, 91, 78, 93, 91, 78, 93, 43, 35, 48, 44, 35, 48, 62]) ⟨#[32, 48, 41, 32]⟩).run Tryz.prog w = .ok (.string (byt [40, 40, 91, 78, 93, 91, 78, 93, 60, 91, 78, 93, 78, 44, 35, 49, 44, 91, 78, 93, 91, 78, 93, 43, 35, 48, 44, 35, 48, 62, 32, 48, 41, 32])) w := fun w => add_strE (a := [40, 40, 91, 78, 93, 91, 78, 93, 60, 91, 78, 93, 78, 44, 35, 49, 44, 91, 78, 93, 91, 78, 93, 43, 35, 48, 44, 35, 48, 62]) (b := [32, 48, 41, 32]) rfl (by decide) w
  have a23 : ∀ w, (Op.stringOp .add (byt [40, 40, 91, 78, 93, 91, 78, 93, 60, 91, 78, 93, 78, 44, 35, 49, 44, 91, 78, 93, 91, 78, 93, 43, 35, 48, 44, 35, 48, 62, 32, 48, 41, 32]) ⟨#[35, 50]⟩).run Tryz.prog w = .ok (.string (byt [40, 40, 91, 78, 93, 91, 78, 93, 60, 91, 78, 93, 78, 44, 35, 49, 44, 91, 78, 93, 91, 78, 93, 43, 35, 48, 44, 35, 48, 62, 32, 48, 41, 32, 35, 50])) w := fun w => add_strE (a := [40, 40, 91, 78, 93, 91, 78, 93, 60, 91, 78, 93, 78, 44, 35, 49, 44, 91, 78, 93, 91, 78, 93, 43, 35, 48, 44, 35, 48, 62, 32, 48, 41, 32]) (b := [35, 50]) rfl (by decide) w
  have a24 : ∀ w, (Op.stringOp .add (byt [40, 40, 91, 78, 93, 91, 78, 93, 60, 91, 78, 93, 78, 44, 35, 49, 44, 91, 78, 93, 91, 78, 93, 43, 35, 48, 44, 35, 48, 62, 32, 48, 41, 32, 35, 50]) ⟨#[41]⟩).run Tryz.prog w = .ok (.string (byt [40, 40, 91, 78, 93, 91, 78, 93, 60, 91, 78, 93, 78, 44, 35, 49, 44, 91, 78, 93, 91, 78, 93, 43, 35, 48, 44, 35, 48, 62, 32, 48, 41, 32, 35, 50, 41])) w := fun w => add_strE (a := [40, 40, 91, 78, 93, 91, 78, 93, 60, 91, 78, 93, 78, 44, 35, 49, 44, 91, 78, 93, 91, 78, 93, 43, 35, 48, 44, 35, 48, 62, 32, 48, 41, 32, 35, 50]) (b := [41]) rfl (by decide) w
  go_enter Tryz.func62, Tryz.ntmps62
  go_wp2_with (go_at_call 61; refine (plus_any _).mono ?_; rintro e w9 ⟨rfl, rfl⟩)
  go_ret
  exact ⟨rfl, rfl⟩
set_option maxHeartbeats 4000000 in
theorem l17Texts_any {thm : Int} {sR pR sB pB : List UInt8} {oS oP : Option Tm} (h : ThmAt thm sR pR sB pB oS oP) (w : World) :
    Calls Tryz.prog 39 #[.int .i64 thm] w fun e w' => e = .returned (.tuple #[.string (byt sB), .string (byt pB)]) ∧ w = w' := by
  rcases h with ⟨rfl, rfl, rfl, rfl, rfl, rfl, rfl⟩ | ⟨rfl, rfl, rfl, rfl, rfl, rfl, rfl⟩ | ⟨rfl, rfl, rfl, rfl, rfl, rfl, rfl⟩ | ⟨rfl, rfl, rfl, rfl, rfl, rfl, rfl⟩ | ⟨rfl, rfl, rfl, rfl, rfl, rfl, rfl⟩ | ⟨⟨h1, h2, h3, h4, h5⟩, rfl, rfl, rfl, rfl, rfl, rfl⟩
  · have a25 : ∀ w, (Op.stringOp .add ⟨#[40, 78, 62, 123, 78, 44, 40, 40]⟩ (byt plusB)).run Tryz.prog w = .ok (.string (byt [40, 78, 62, 123, 78, 44, 40, 40, 91, 78, 93, 91, 78, 93, 60, 91, 78, 93, 78, 44, 35, 49, 44, 91, 78, 93, 91, 78, 93, 43, 35, 48, 44, 35, 48, 62])) w := fun w => add_strE (a := [40, 78, 62, 123, 78, 44, 40, 40]) (b := [91, 78, 93, 91, 78, 93, 60, 91, 78, 93, 78, 44, 35, 49, 44, 91, 78, 93, 91, 78, 93, 43, 35, 48, 44, 35, 48, 62]) rfl (by decide) w
    have a26 : ∀ w, (Op.stringOp .add (byt [40, 78, 62, 123, 78, 44, 40, 40, 91, 78, 93, 91, 78, 93, 60, 91, 78, 93, 78, 44, 35, 49, 44, 91, 78, 93, 91, 78, 93, 43, 35, 48, 44, 35, 48, 62]) ⟨#[32, 35, 48, 41, 32, 48, 41, 44, 35, 48, 125, 41]⟩).run Tryz.prog w = .ok (.string (byt [40, 78, 62, 123, 78, 44, 40, 40, 91, 78, 93, 91, 78, 93, 60, 91, 78, 93, 78, 44, 35, 49, 44, 91, 78, 93, 91, 78, 93, 43, 35, 48, 44, 35, 48, 62, 32, 35, 48, 41, 32, 48, 41, 44, 35, 48, 125, 41])) w := fun w => add_strE (a := [40, 78, 62, 123, 78, 44, 40, 40, 91, 78, 93, 91, 78, 93, 60, 91, 78, 93, 78, 44, 35, 49, 44, 91, 78, 93, 91, 78, 93, 43, 35, 48, 44, 35, 48, 62]) (b := [32, 35, 48, 41, 32, 48, 41, 44, 35, 48, 125, 41]) rfl (by decide) w
    go_enter Tryz.func39, Tryz.ntmps39
    go_wp2_with (go_at_call 61; refine (plus_any _).mono ?_; rintro e w9 ⟨rfl, rfl⟩)
    go_ret2
    exact ⟨rfl, rfl⟩
  · have a27 : ∀ w, (Op.stringOp .add ⟨#[123, 78, 44]⟩ (byt [40, 40, 91, 78, 93, 91, 78, 93, 60, 91, 78, 93, 78, 44, 35, 49, 44, 91, 78, 93, 91, 78, 93, 43, 35, 48, 44, 35, 48, 62, 32, 48, 41, 32, 35, 48, 41])).run Tryz.prog w = .ok (.string (byt [123, 78, 44, 40, 40, 91, 78, 93, 91, 78, 93, 60, 91, 78, 93, 78, 44, 35, 49, 44, 91, 78, 93, 91, 78, 93, 43, 35, 48, 44, 35, 48, 62, 32, 48, 41, 32, 35, 48, 41])) w := fun w => add_strE (a := [123, 78, 44]) (b := [40, 40, 91, 78, 93, 91, 78, 93, 60, 91, 78, 93, 78, 44, 35, 49, 44, 91, 78, 93, 91, 78, 93, 43, 35, 48, 44, 35, 48, 62, 32, 48, 41, 32, 35, 48, 41]) rfl (by decide) w
    have a28 : ∀ w, (Op.stringOp .add (byt [123, 78, 44, 40, 40, 91, 78, 93, 91, 78, 93, 60, 91, 78, 93, 78, 44, 35, 49, 44, 91, 78, 93, 91, 78, 93, 43, 35, 48, 44, 35, 48, 62, 32, 48, 41, 32, 35, 48, 41]) ⟨#[44, 35, 48, 125]⟩).run Tryz.prog w = .ok (.string (byt [123, 78, 44, 40, 40, 91, 78, 93, 91, 78, 93, 60, 91, 78, 93, 78, 44, 35, 49, 44, 91, 78, 93, 91, 78, 93, 43, 35, 48, 44, 35, 48, 62, 32, 48, 41, 32, 35, 48, 41, 44, 35, 48, 125])) w := fun w => add_strE (a := [123, 78, 44, 40, 40, 91, 78, 93, 91, 78, 93, 60, 91, 78, 93, 78, 44, 35, 49, 44, 91, 78, 93, 91, 78, 93, 43, 35, 48, 44, 35, 48, 62, 32, 48, 41, 32, 35, 48, 41]) (b := [44, 35, 48, 125]) rfl (by decide) w
    have a29 : ∀ w, (Op.stringOp .add ⟨#[91, 78, 93, 91]⟩ (byt [123, 78, 44, 40, 40, 91, 78, 93, 91, 78, 93, 60, 91, 78, 93, 78, 44, 35, 49, 44, 91, 78, 93, 91, 78, 93, 43, 35, 48, 44, 35, 48, 62, 32, 48, 41, 32, 35, 48, 41, 44, 35, 48, 125])).run Tryz.prog w = .ok (.string (byt [91, 78, 93, 91, 123, 78, 44, 40, 40, 91, 78, 93, 91, 78, 93, 60, 91, 78, 93, 78, 44, 35, 49, 44, 91, 78, 93, 91, 78, 93, 43, 35, 48, 44, 35, 48, 62, 32, 48, 41, 32, 35, 48, 41, 44, 35, 48, 125])) w := fun w => add_strE (a := [91, 78, 93, 91]) (b := [123, 78, 44, 40, 40, 91, 78, 93, 91, 78, 93, 60, 91, 78, 93, 78, 44, 35, 49, 44, 91, 78, 93, 91, 78, 93, 43, 35, 48, 44, 35, 48, 62, 32, 48, 41, 32, 35, 48, 41, 44, 35, 48, 125]) rfl (by decide) w
    have a30 : ∀ w, (Op.stringOp .add (byt [91, 78, 93, 91, 123, 78, 44, 40, 40, 91, 78, 93, 91, 78, 93, 60, 91, 78, 93, 78, 44, 35, 49, 44, 91, 78, 93, 91, 78, 93, 43, 35, 48, 44, 35, 48, 62, 32, 48, 41, 32, 35, 48, 41, 44, 35, 48, 125]) ⟨#[93, 64, 60, 91, 78, 93, 123, 78, 44, 43]⟩).run Tryz.prog w = .ok (.string (byt [91, 78, 93, 91, 123, 78, 44, 40, 40, 91, 78, 93, 91, 78, 93, 60, 91, 78, 93, 78, 44, 35, 49, 44, 91, 78, 93, 91, 78, 93, 43, 35, 48, 44, 35, 48, 62, 32, 48, 41, 32, 35, 48, 41, 44, 35, 48, 125, 93, 64, 60, 91, 78, 93, 123, 78, 44, 43])) w := fun w => add_strE (a := [91, 78, 93, 91, 123, 78, 44, 40, 40, 91, 78, 93, 91, 78, 93, 60, 91, 78, 93, 78, 44, 35, 49, 44, 91, 78, 93, 91, 78, 93, 43, 35, 48, 44, 35, 48, 62, 32, 48, 41, 32, 35, 48, 41, 44, 35, 48, 125]) (b := [93, 64, 60, 91, 78, 93, 123, 78, 44, 43]) rfl (by decide) w
    have a31 : ∀ w, (Op.stringOp .add (byt [91, 78, 93, 91, 123, 78, 44, 40, 40, 91, 78, 93, 91, 78, 93, 60, 91, 78, 93, 78, 44, 35, 49, 44, 91, 78, 93, 91, 78, 93, 43, 35, 48, 44, 35, 48, 62, 32, 48, 41, 32, 35, 48, 41, 44, 35, 48, 125, 93, 64, 60, 91, 78, 93, 123, 78, 44, 43]) (byt [40, 40, 91, 78, 93, 91, 78, 93, 60, 91, 78, 93, 78, 44, 35, 49, 44, 91, 78, 93, 91, 78, 93, 43, 35, 48, 44, 35, 48, 62, 32, 48, 41, 32, 35, 50, 41])).run Tryz.prog w = .ok (.string (byt [91, 78, 93, 91, 123, 78, 44, 40, 40, 91, 78, 93, 91, 78, 93, 60, 91, 78, 93, 78, 44, 35, 49, 44, 91, 78, 93, 91, 78, 93, 43, 35, 48, 44, 35, 48, 62, 32, 48, 41, 32, 35, 48, 41, 44, 35, 48, 125, 93, 64, 60, 91, 78, 93, 123, 78, 44, 43, 40, 40, 91, 78, 93, 91, 78, 93, 60, 91, 78, 93, 78, 44, 35, 49, 44, 91, 78, 93, 91, 78, 93, 43, 35, 48, 44, 35, 48, 62, 32, 48, 41, 32, 35, 50, 41])) w := fun w => add_strE (a := [91, 78, 93, 91, 123, 78, 44, 40, 40, 91, 78, 93, 91, 78, 93, 60, 91, 78, 93, 78, 44, 35, 49, 44, 91, 78, 93, 91, 78, 93, 43, 35, 48, 44, 35, 48, 62, 32, 48, 41, 32, 35, 48, 41, 44, 35, 48, 125, 93, 64, 60, 91, 78, 93, 123, 78, 44, 43]) (b := [40, 40, 91, 78, 93, 91, 78, 93, 60, 91, 78, 93, 78, 44, 35, 49, 44, 91, 78, 93, 91, 78, 93, 43, 35, 48, 44, 35, 48, 62, 32, 48, 41, 32, 35, 50, 41]) rfl (by decide) w
    have a32 : ∀ w, (Op.stringOp .add (byt [91, 78, 93, 91, 123, 78, 44, 40, 40, 91, 78, 93, 91, 78, 93, 60, 91, 78, 93, 78, 44, 35, 49, 44, 91, 78, 93, 91, 78, 93, 43, 35, 48, 44, 35, 48, 62, 32, 48, 41, 32, 35, 48, 41, 44, 35, 48, 125, 93, 64, 60, 91, 78, 93, 123, 78, 44, 43, 40, 40, 91, 78, 93, 91, 78, 93, 60, 91, 78, 93, 78, 44, 35, 49, 44, 91, 78, 93, 91, 78, 93, 43, 35, 48, 44, 35, 48, 62, 32, 48, 41, 32, 35, 50, 41]) ⟨#[44, 43, 35, 48, 125, 44, 35, 48, 44, 33, 43]⟩).run Tryz.prog w = .ok (.string (byt [91, 78, 93, 91, 123, 78, 44, 40, 40, 91, 78, 93, 91, 78, 93, 60, 91, 78, 93, 78, 44, 35, 49, 44, 91, 78, 93, 91, 78, 93, 43, 35, 48, 44, 35, 48, 62, 32, 48, 41, 32, 35, 48, 41, 44, 35, 48, 125, 93, 64, 60, 91, 78, 93, 123, 78, 44, 43, 40, 40, 91, 78, 93, 91, 78, 93, 60, 91, 78, 93, 78, 44, 35, 49, 44, 91, 78, 93, 91, 78, 93, 43, 35, 48, 44, 35, 48, 62, 32, 48, 41, 32, 35, 50, 41, 44, 43, 35, 48, 125, 44, 35, 48, 44, 33, 43])) w := fun w => add_strE (a := [91, 78, 93, 91, 123, 78, 44, 40, 40, 91, 78, 93, 91, 78, 93, 60, 91, 78, 93, 78, 44, 35, 49, 44, 91, 78, 93, 91, 78, 93, 43, 35, 48, 44, 35, 48, 62, 32, 48, 41, 32, 35, 48, 41, 44, 35, 48, 125, 93, 64, 60, 91, 78, 93, 123, 78, 44, 43, 40, 40, 91, 78, 93, 91, 78, 93, 60, 91, 78, 93, 78, 44, 35, 49, 44, 91, 78, 93, 91, 78, 93, 43, 35, 48, 44, 35, 48, 62, 32, 48, 41, 32, 35, 50, 41]) (b := [44, 43, 35, 48, 125, 44, 35, 48, 44, 33, 43]) rfl (by decide) w
    have a33 : ∀ w, (Op.stringOp .add (byt [91, 78, 93, 91, 123, 78, 44, 40, 40, 91, 78, 93, 91, 78, 93, 60, 91, 78, 93, 78, 44, 35, 49, 44, 91, 78, 93, 91, 78, 93, 43, 35, 48, 44, 35, 48, 62, 32, 48, 41, 32, 35, 48, 41, 44, 35, 48, 125, 93, 64, 60, 91, 78, 93, 123, 78, 44, 43, 40, 40, 91, 78, 93, 91, 78, 93, 60, 91, 78, 93, 78, 44, 35, 49, 44, 91, 78, 93, 91, 78, 93, 43, 35, 48, 44, 35, 48, 62, 32, 48, 41, 32, 35, 50, 41, 44, 43, 35, 48, 125, 44, 35, 48, 44, 33, 43]) (byt [40, 40, 91, 78, 93, 91, 78, 93, 60, 91, 78, 93, 78, 44, 35, 49, 44, 91, 78, 93, 91, 78, 93, 43, 35, 48, 44, 35, 48, 62, 32, 48, 41, 32, 35, 49, 41])).run Tryz.prog w = .ok (.string (byt [91, 78, 93, 91, 123, 78, 44, 40, 40, 91, 78, 93, 91, 78, 93, 60, 91, 78, 93, 78, 44, 35, 49, 44, 91, 78, 93, 91, 78, 93, 43, 35, 48, 44, 35, 48, 62, 32, 48, 41, 32, 35, 48, 41, 44, 35, 48, 125, 93, 64, 60, 91, 78, 93, 123, 78, 44, 43, 40, 40, 91, 78, 93, 91, 78, 93, 60, 91, 78, 93, 78, 44, 35, 49, 44, 91, 78, 93, 91, 78, 93, 43, 35, 48, 44, 35, 48, 62, 32, 48, 41, 32, 35, 50, 41, 44, 43, 35, 48, 125, 44, 35, 48, 44, 33, 43, 40, 40, 91, 78, 93, 91, 78, 93, 60, 91, 78, 93, 78, 44, 35, 49, 44, 91, 78, 93, 91, 78, 93, 43, 35, 48, 44, 35, 48, 62, 32, 48, 41, 32, 35, 49, 41])) w := fun w => add_strE (a := [91, 78, 93, 91, 123, 78, 44, 40, 40, 91, 78, 93, 91, 78, 93, 60, 91, 78, 93, 78, 44, 35, 49, 44, 91, 78, 93, 91, 78, 93, 43, 35, 48, 44, 35, 48, 62, 32, 48, 41, 32, 35, 48, 41, 44, 35, 48, 125, 93, 64, 60, 91, 78, 93, 123, 78, 44, 43, 40, 40, 91, 78, 93, 91, 78, 93, 60, 91, 78, 93, 78, 44, 35, 49, 44, 91, 78, 93, 91, 78, 93, 43, 35, 48, 44, 35, 48, 62, 32, 48, 41, 32, 35, 50, 41, 44, 43, 35, 48, 125, 44, 35, 48, 44, 33, 43]) (b := [40, 40, 91, 78, 93, 91, 78, 93, 60, 91, 78, 93, 78, 44, 35, 49, 44, 91, 78, 93, 91, 78, 93, 43, 35, 48, 44, 35, 48, 62, 32, 48, 41, 32, 35, 49, 41]) rfl (by decide) w
    have a34 : ∀ w, (Op.stringOp .add (byt [91, 78, 93, 91, 123, 78, 44, 40, 40, 91, 78, 93, 91, 78, 93, 60, 91, 78, 93, 78, 44, 35, 49, 44, 91, 78, 93, 91, 78, 93, 43, 35, 48, 44, 35, 48, 62, 32, 48, 41, 32, 35, 48, 41, 44, 35, 48, 125, 93, 64, 60, 91, 78, 93, 123, 78, 44, 43, 40, 40, 91, 78, 93, 91, 78, 93, 60, 91, 78, 93, 78, 44, 35, 49, 44, 91, 78, 93, 91, 78, 93, 43, 35, 48, 44, 35, 48, 62, 32, 48, 41, 32, 35, 50, 41, 44, 43, 35, 48, 125, 44, 35, 48, 44, 33, 43, 40, 40, 91, 78, 93, 91, 78, 93, 60, 91, 78, 93, 78, 44, 35, 49, 44, 91, 78, 93, 91, 78, 93, 43, 35, 48, 44, 35, 48, 62, 32, 48, 41, 32, 35, 49, 41]) ⟨#[62]⟩).run Tryz.prog w = .ok (.string (byt [91, 78, 93, 91, 123, 78, 44, 40, 40, 91, 78, 93, 91, 78, 93, 60, 91, 78, 93, 78, 44, 35, 49, 44, 91, 78, 93, 91, 78, 93, 43, 35, 48, 44, 35, 48, 62, 32, 48, 41, 32, 35, 48, 41, 44, 35, 48, 125, 93, 64, 60, 91, 78, 93, 123, 78, 44, 43, 40, 40, 91, 78, 93, 91, 78, 93, 60, 91, 78, 93, 78, 44, 35, 49, 44, 91, 78, 93, 91, 78, 93, 43, 35, 48, 44, 35, 48, 62, 32, 48, 41, 32, 35, 50, 41, 44, 43, 35, 48, 125, 44, 35, 48, 44, 33, 43, 40, 40, 91, 78, 93, 91, 78, 93, 60, 91, 78, 93, 78, 44, 35, 49, 44, 91, 78, 93, 91, 78, 93, 43, 35, 48, 44, 35, 48, 62, 32, 48, 41, 32, 35, 49, 41, 62])) w := fun w => add_strE (a := [91, 78, 93, 91, 123, 78, 44, 40, 40, 91, 78, 93, 91, 78, 93, 60, 91, 78, 93, 78, 44, 35, 49, 44, 91, 78, 93, 91, 78, 93, 43, 35, 48, 44, 35, 48, 62, 32, 48, 41, 32, 35, 48, 41, 44, 35, 48, 125, 93, 64, 60, 91, 78, 93, 123, 78, 44, 43, 40, 40, 91, 78, 93, 91, 78, 93, 60, 91, 78, 93, 78, 44, 35, 49, 44, 91, 78, 93, 91, 78, 93, 43, 35, 48, 44, 35, 48, 62, 32, 48, 41, 32, 35, 50, 41, 44, 43, 35, 48, 125, 44, 35, 48, 44, 33, 43, 40, 40, 91, 78, 93, 91, 78, 93, 60, 91, 78, 93, 78, 44, 35, 49, 44, 91, 78, 93, 91, 78, 93, 43, 35, 48, 44, 35, 48, 62, 32, 48, 41, 32, 35, 49, 41]) (b := [62]) rfl (by decide) w
    have a35 : ∀ w, (Op.stringOp .add ⟨#[40, 78, 62]⟩ (byt [123, 78, 44, 40, 40, 91, 78, 93, 91, 78, 93, 60, 91, 78, 93, 78, 44, 35, 49, 44, 91, 78, 93, 91, 78, 93, 43, 35, 48, 44, 35, 48, 62, 32, 48, 41, 32, 35, 48, 41, 44, 35, 48, 125])).run Tryz.prog w = .ok (.string (byt [40, 78, 62, 123, 78, 44, 40, 40, 91, 78, 93, 91, 78, 93, 60, 91, 78, 93, 78, 44, 35, 49, 44, 91, 78, 93, 91, 78, 93, 43, 35, 48, 44, 35, 48, 62, 32, 48, 41, 32, 35, 48, 41, 44, 35, 48, 125])) w := fun w => add_strE (a := [40, 78, 62]) (b := [123, 78, 44, 40, 40, 91, 78, 93, 91, 78, 93, 60, 91, 78, 93, 78, 44, 35, 49, 44, 91, 78, 93, 91, 78, 93, 43, 35, 48, 44, 35, 48, 62, 32, 48, 41, 32, 35, 48, 41, 44, 35, 48, 125]) rfl (by decide) w
    have a36 : ∀ w, (Op.stringOp .add (byt [40, 78, 62, 123, 78, 44, 40, 40, 91, 78, 93, 91, 78, 93, 60, 91, 78, 93, 78, 44, 35, 49, 44, 91, 78, 93, 91, 78, 93, 43, 35, 48, 44, 35, 48, 62, 32, 48, 41, 32, 35, 48, 41, 44, 35, 48, 125]) ⟨#[41]⟩).run Tryz.prog w = .ok (.string (byt [40, 78, 62, 123, 78, 44, 40, 40, 91, 78, 93, 91, 78, 93, 60, 91, 78, 93, 78, 44, 35, 49, 44, 91, 78, 93, 91, 78, 93, 43, 35, 48, 44, 35, 48, 62, 32, 48, 41, 32, 35, 48, 41, 44, 35, 48, 125, 41])) w := fun w => add_strE (a := [40, 78, 62, 123, 78, 44, 40, 40, 91, 78, 93, 91, 78, 93, 60, 91, 78, 93, 78, 44, 35, 49, 44, 91, 78, 93, 91, 78, 93, 43, 35, 48, 44, 35, 48, 62, 32, 48, 41, 32, 35, 48, 41, 44, 35, 48, 125]) (b := [41]) rfl (by decide) w
    have a37 : ∀ w, (Op.stringOp .add ⟨#[91, 78, 93, 60, 91, 78, 93]⟩ (byt [123, 78, 44, 40, 40, 91, 78, 93, 91, 78, 93, 60, 91, 78, 93, 78, 44, 35, 49, 44, 91, 78, 93, 91, 78, 93, 43, 35, 48, 44, 35, 48, 62, 32, 48, 41, 32, 35, 48, 41, 44, 35, 48, 125])).run Tryz.prog w = .ok (.string (byt [91, 78, 93, 60, 91, 78, 93, 123, 78, 44, 40, 40, 91, 78, 93, 91, 78, 93, 60, 91, 78, 93, 78, 44, 35, 49, 44, 91, 78, 93, 91, 78, 93, 43, 35, 48, 44, 35, 48, 62, 32, 48, 41, 32, 35, 48, 41, 44, 35, 48, 125])) w := fun w => add_strE (a := [91, 78, 93, 60, 91, 78, 93]) (b := [123, 78, 44, 40, 40, 91, 78, 93, 91, 78, 93, 60, 91, 78, 93, 78, 44, 35, 49, 44, 91, 78, 93, 91, 78, 93, 43, 35, 48, 44, 35, 48, 62, 32, 48, 41, 32, 35, 48, 41, 44, 35, 48, 125]) rfl (by decide) w
    have a38 : ∀ w, (Op.stringOp .add (byt [91, 78, 93, 60, 91, 78, 93, 123, 78, 44, 40, 40, 91, 78, 93, 91, 78, 93, 60, 91, 78, 93, 78, 44, 35, 49, 44, 91, 78, 93, 91, 78, 93, 43, 35, 48, 44, 35, 48, 62, 32, 48, 41, 32, 35, 48, 41, 44, 35, 48, 125]) ⟨#[44, 33, 48, 44]⟩).run Tryz.prog w = .ok (.string (byt [91, 78, 93, 60, 91, 78, 93, 123, 78, 44, 40, 40, 91, 78, 93, 91, 78, 93, 60, 91, 78, 93, 78, 44, 35, 49, 44, 91, 78, 93, 91, 78, 93, 43, 35, 48, 44, 35, 48, 62, 32, 48, 41, 32, 35, 48, 41, 44, 35, 48, 125, 44, 33, 48, 44])) w := fun w => add_strE (a := [91, 78, 93, 60, 91, 78, 93, 123, 78, 44, 40, 40, 91, 78, 93, 91, 78, 93, 60, 91, 78, 93, 78, 44, 35, 49, 44, 91, 78, 93, 91, 78, 93, 43, 35, 48, 44, 35, 48, 62, 32, 48, 41, 32, 35, 48, 41, 44, 35, 48, 125]) (b := [44, 33, 48, 44]) rfl (by decide) w
    have a39 : ∀ w, (Op.stringOp .add (byt [91, 78, 93, 60, 91, 78, 93, 123, 78, 44, 40, 40, 91, 78, 93, 91, 78, 93, 60, 91, 78, 93, 78, 44, 35, 49, 44, 91, 78, 93, 91, 78, 93, 43, 35, 48, 44, 35, 48, 62, 32, 48, 41, 32, 35, 48, 41, 44, 35, 48, 125, 44, 33, 48, 44]) (byt [91, 78, 93, 91, 123, 78, 44, 40, 40, 91, 78, 93, 91, 78, 93, 60, 91, 78, 93, 78, 44, 35, 49, 44, 91, 78, 93, 91, 78, 93, 43, 35, 48, 44, 35, 48, 62, 32, 48, 41, 32, 35, 48, 41, 44, 35, 48, 125, 93, 64, 60, 91, 78, 93, 123, 78, 44, 43, 40, 40, 91, 78, 93, 91, 78, 93, 60, 91, 78, 93, 78, 44, 35, 49, 44, 91, 78, 93, 91, 78, 93, 43, 35, 48, 44, 35, 48, 62, 32, 48, 41, 32, 35, 50, 41, 44, 43, 35, 48, 125, 44, 35, 48, 44, 33, 43, 40, 40, 91, 78, 93, 91, 78, 93, 60, 91, 78, 93, 78, 44, 35, 49, 44, 91, 78, 93, 91, 78, 93, 43, 35, 48, 44, 35, 48, 62, 32, 48, 41, 32, 35, 49, 41, 62])).run Tryz.prog w = .ok (.string (byt [91, 78, 93, 60, 91, 78, 93, 123, 78, 44, 40, 40, 91, 78, 93, 91, 78, 93, 60, 91, 78, 93, 78, 44, 35, 49, 44, 91, 78, 93, 91, 78, 93, 43, 35, 48, 44, 35, 48, 62, 32, 48, 41, 32, 35, 48, 41, 44, 35, 48, 125, 44, 33, 48, 44, 91, 78, 93, 91, 123, 78, 44, 40, 40, 91, 78, 93, 91, 78, 93, 60, 91, 78, 93, 78, 44, 35, 49, 44, 91, 78, 93, 91, 78, 93, 43, 35, 48, 44, 35, 48, 62, 32, 48, 41, 32, 35, 48, 41, 44, 35, 48, 125, 93, 64, 60, 91, 78, 93, 123, 78, 44, 43, 40, 40, 91, 78, 93, 91, 78, 93, 60, 91, 78, 93, 78, 44, 35, 49, 44, 91, 78, 93, 91, 78, 93, 43, 35, 48, 44, 35, 48, 62, 32, 48, 41, 32, 35, 50, 41, 44, 43, 35, 48, 125, 44, 35, 48, 44, 33, 43, 40, 40, 91, 78, 93, 91, 78, 93, 60, 91, 78, 93, 78, 44, 35, 49, 44, 91, 78, 93, 91, 78, 93, 43, 35, 48, 44, 35, 48, 62, 32, 48, 41, 32, 35, 49, 41, 62])) w := fun w => add_strE (a := [91, 78, 93, 60, 91, 78, 93, 123, 78, 44, 40, 40, 91, 78, 93, 91, 78, 93, 60, 91, 78, 93, 78, 44, 35, 49, 44, 91, 78, 93, 91, 78, 93, 43, 35, 48, 44, 35, 48, 62, 32, 48, 41, 32, 35, 48, 41, 44, 35, 48, 125, 44, 33, 48, 44]) (b := [91, 78, 93, 91, 123, 78, 44, 40, 40, 91, 78, 93, 91, 78, 93, 60, 91, 78, 93, 78, 44, 35, 49, 44, 91, 78, 93, 91, 78, 93, 43, 35, 48, 44, 35, 48, 62, 32, 48, 41, 32, 35, 48, 41, 44, 35, 48, 125, 93, 64, 60, 91, 78, 93, 123, 78, 44, 43, 40, 40, 91, 78, 93, 91, 78, 93, 60, 91, 78, 93, 78, 44, 35, 49, 44, 91, 78, 93, 91, 78, 93, 43, 35, 48, 44, 35, 48, 62, 32, 48, 41, 32, 35, 50, 41, 44, 43, 35, 48, 125, 44, 35, 48, 44, 33, 43, 40, 40, 91, 78, 93, 91, 78, 93, 60, 91, 78, 93, 78, 44, 35, 49, 44, 91, 78, 93, 91, 78, 93, 43, 35, 48, 44, 35, 48, 62, 32, 48, 41, 32, 35, 49, 41, 62]) rfl (by decide) w
    have a40 : ∀ w, (Op.stringOp .add (byt [91, 78, 93, 60, 91, 78, 93, 123, 78, 44, 40, 40, 91, 78, 93, 91, 78, 93, 60, 91, 78, 93, 78, 44, 35, 49, 44, 91, 78, 93, 91, 78, 93, 43, 35, 48, 44, 35, 48, 62, 32, 48, 41, 32, 35, 48, 41, 44, 35, 48, 125, 44, 33, 48, 44, 91, 78, 93, 91, 123, 78, 44, 40, 40, 91, 78, 93, 91, 78, 93, 60, 91, 78, 93, 78, 44, 35, 49, 44, 91, 78, 93, 91, 78, 93, 43, 35, 48, 44, 35, 48, 62, 32, 48, 41, 32, 35, 48, 41, 44, 35, 48, 125, 93, 64, 60, 91, 78, 93, 123, 78, 44, 43, 40, 40, 91, 78, 93, 91, 78, 93, 60, 91, 78, 93, 78, 44, 35, 49, 44, 91, 78, 93, 91, 78, 93, 43, 35, 48, 44, 35, 48, 62, 32, 48, 41, 32, 35, 50, 41, 44, 43, 35, 48, 125, 44, 35, 48, 44, 33, 43, 40, 40, 91, 78, 93, 91, 78, 93, 60, 91, 78, 93, 78, 44, 35, 49, 44, 91, 78, 93, 91, 78, 93, 43, 35, 48, 44, 35, 48, 62, 32, 48, 41, 32, 35, 49, 41, 62]) ⟨#[44, 35, 48, 62]⟩).run Tryz.prog w = .ok (.string (byt [91, 78, 93, 60, 91, 78, 93, 123, 78, 44, 40, 40, 91, 78, 93, 91, 78, 93, 60, 91, 78, 93, 78, 44, 35, 49, 44, 91, 78, 93, 91, 78, 93, 43, 35, 48, 44, 35, 48, 62, 32, 48, 41, 32, 35, 48, 41, 44, 35, 48, 125, 44, 33, 48, 44, 91, 78, 93, 91, 123, 78, 44, 40, 40, 91, 78, 93, 91, 78, 93, 60, 91, 78, 93, 78, 44, 35, 49, 44, 91, 78, 93, 91, 78, 93, 43, 35, 48, 44, 35, 48, 62, 32, 48, 41, 32, 35, 48, 41, 44, 35, 48, 125, 93, 64, 60, 91, 78, 93, 123, 78, 44, 43, 40, 40, 91, 78, 93, 91, 78, 93, 60, 91, 78, 93, 78, 44, 35, 49, 44, 91, 78, 93, 91, 78, 93, 43, 35, 48, 44, 35, 48, 62, 32, 48, 41, 32, 35, 50, 41, 44, 43, 35, 48, 125, 44, 35, 48, 44, 33, 43, 40, 40, 91, 78, 93, 91, 78, 93, 60, 91, 78, 93, 78, 44, 35, 49, 44, 91, 78, 93, 91, 78, 93, 43, 35, 48, 44, 35, 48, 62, 32, 48, 41, 32, 35, 49, 41, 62, 44, 35, 48, 62])) w := fun w => add_strE (a := [91, 78, 93, 60, 91, 78, 93, 123, 78, 44, 40, 40, 91, 78, 93, 91, 78, 93, 60, 91, 78, 93, 78, 44, 35, 49, 44, 91, 78, 93, 91, 78, 93, 43, 35, 48, 44, 35, 48, 62, 32, 48, 41, 32, 35, 48, 41, 44, 35, 48, 125, 44, 33, 48, 44, 91, 78, 93, 91, 123, 78, 44, 40, 40, 91, 78, 93, 91, 78, 93, 60, 91, 78, 93, 78, 44, 35, 49, 44, 91, 78, 93, 91, 78, 93, 43, 35, 48, 44, 35, 48, 62, 32, 48, 41, 32, 35, 48, 41, 44, 35, 48, 125, 93, 64, 60, 91, 78, 93, 123, 78, 44, 43, 40, 40, 91, 78, 93, 91, 78, 93, 60, 91, 78, 93, 78, 44, 35, 49, 44, 91, 78, 93, 91, 78, 93, 43, 35, 48, 44, 35, 48, 62, 32, 48, 41, 32, 35, 50, 41, 44, 43, 35, 48, 125, 44, 35, 48, 44, 33, 43, 40, 40, 91, 78, 93, 91, 78, 93, 60, 91, 78, 93, 78, 44, 35, 49, 44, 91, 78, 93, 91, 78, 93, 43, 35, 48, 44, 35, 48, 62, 32, 48, 41, 32, 35, 49, 41, 62]) (b := [44, 35, 48, 62]) rfl (by decide) w
    go_enter Tryz.func39, Tryz.ntmps39
    go_wp2_with (first
      | (go_at_call 62; refine (sum1_any _).mono ?_; rintro e w9 ⟨rfl, rfl⟩)
      | (go_at_call 62; refine (sum2_any _).mono ?_; rintro e w9 ⟨rfl, rfl⟩)
      | (go_at_call 62; refine (sum0_any _).mono ?_; rintro e w9 ⟨rfl, rfl⟩))
    go_ret2
    exact ⟨rfl, rfl⟩
  · go_enter Tryz.func39, Tryz.ntmps39
    go_wp2
    go_ret2
    exact ⟨rfl, rfl⟩
  · go_enter Tryz.func39, Tryz.ntmps39
    go_wp2
    go_ret2
    exact ⟨rfl, rfl⟩
  · go_enter Tryz.func39, Tryz.ntmps39
    go_wp2
    go_ret2
    exact ⟨rfl, rfl⟩
  · have q1 : (thm == 1) = false := beq_eq_false_iff_ne.2 h1
    have q2 : (thm == 2) = false := beq_eq_false_iff_ne.2 h2
    have q3 : (thm == 3) = false := beq_eq_false_iff_ne.2 h3
    have q4 : (thm == 4) = false := beq_eq_false_iff_ne.2 h4
    have q5 : (thm == 5) = false := beq_eq_false_iff_ne.2 h5

    clear h1 h2 h3 h4 h5
    go_enter Tryz.func39, Tryz.ntmps39
    go_wp2
    go_ret2
    exact ⟨rfl, rfl⟩
theorem thm_good {thm : Int} {sR pR sB pB : List UInt8} {oS oP : Option Tm} (h : ThmAt thm sR pR sB pB oS oP) :
    Chain sR sB ∧ Chain pR pB ∧ ((∃ t, oS = some t ∧ Good t sB) ∨ (oS = none ∧ sB = [])) ∧ ((∃ t, oP = some t ∧ Good t pB) ∨ (oP = none ∧ pB = [])) := by
  rcases h with ⟨rfl, rfl, rfl, rfl, rfl, rfl, rfl⟩ | ⟨rfl, rfl, rfl, rfl, rfl, rfl, rfl⟩ | ⟨rfl, rfl, rfl, rfl, rfl, rfl, rfl⟩ | ⟨rfl, rfl, rfl, rfl, rfl, rfl, rfl⟩ | ⟨rfl, rfl, rfl, rfl, rfl, rfl, rfl⟩ | ⟨⟨h1, h2, h3, h4, h5⟩, rfl, rfl, rfl, rfl, rfl, rfl⟩
  · exact ⟨thS1_chain, thP1_chain, .inl ⟨_, rfl, thS1_good⟩, .inl ⟨_, rfl, thP1_good⟩⟩
  · exact ⟨thS2_chain, thP2_chain, .inl ⟨_, rfl, thS2_good⟩, .inl ⟨_, rfl, thP2_good⟩⟩
  · exact ⟨thS3_chain, thP3_chain, .inl ⟨_, rfl, thS3_good⟩, .inl ⟨_, rfl, thP3_good⟩⟩
  · exact ⟨thS4_chain, thP4_chain, .inl ⟨_, rfl, thS4_good⟩, .inl ⟨_, rfl, thP4_good⟩⟩
  · exact ⟨thS5_chain, thP5_chain, .inl ⟨_, rfl, thS5_good⟩, .inl ⟨_, rfl, thP5_good⟩⟩
  · exact ⟨chain_nil, chain_nil, .inr ⟨rfl, rfl⟩, .inr ⟨rfl, rfl⟩⟩
theorem iParse_or {o : Option Tm} {b : List UInt8} (h : (∃ t, o = some t ∧ Good t b) ∨ (o = none ∧ b = [])) (w : World) (hm : GM w) : Calls Tryz.prog 60 #[.string (byt b)] w (GotP w o) := by
  rcases h with ⟨t, rfl, h⟩ | ⟨rfl, rfl⟩
  · exact iParse_any h w hm
  · exact iParse_nil w
theorem sParse_or {o : Option Tm} {b : List UInt8} (h : (∃ t, o = some t ∧ Good t b) ∨ (o = none ∧ b = [])) (w : World) : Calls Tryz.prog 40 #[.string (byt b)] w (GotP w o) := by
  rcases h with ⟨t, rfl, h⟩ | ⟨rfl, rfl⟩
  · exact sParse_any h w
  · exact sParse_nil w
set_option maxHeartbeats 2000000 in
theorem iType_any {thm : Int} {sR pR sB pB : List UInt8} {oS oP : Option Tm} (h : ThmAt thm sR pR sB pB oS oP) (w : World) (hm : GM w) : Calls Tryz.prog 14 #[.int .i64 thm] w (GotP w oS) := by
  have h1 := hide (fun w => theorem_any h w)
  have h2 := hide (fun w (hm : GM w) => iRead_of (thm_good h).1 oS (iParse_or (thm_good h).2.2.1) w hm)
  have hm' := hide (hm.alloc (.cells #[.int .i64 0, .int .i64 0, .slice none 0 0] 27))
  clear h hm
  go_enter Tryz.func14, Tryz.ntmps14
  go_wp2_with (first
    | (go_at_call 38; refine (h2.out _ hm'.out).mono ?_; rintro e w3 ⟨k, n, ks, A, c, hk, rfl, hl, hf, hb3⟩; have hk' := hide hk; clear hk; have hZ3 := (Blk.new_ w 27 #[.int .i64 0, .int .i64 0, .slice none 0 0] rfl).keep hb3; obtain ⟨d0, d1, d2⟩ := hZ3.three; have e0 := hZ3.frozen 0; have e1 := hZ3.frozen 1; have e2 := hZ3.frozen 2; have g3 : Below w.heap.size w w3 := ((Below.refl _ _).alloc (Nat.le_refl _) _).trans (hb3.mono (by simp)))
    | (go_at_call 37; refine (h1.out _).mono ?_; rintro e w9 ⟨rfl, rfl⟩))
  refine bodyPost_ret (v := .tuple #[.agg #[.int .i64 k, .int .i64 n, .slice A ks.length c], .bool oS.isSome]) (by simp [results, Tryz.results14, go_sem, d0, d1, d2]) rfl ⟨k, n, ks, A, c, hk'.out, rfl, hl, ?_, ((g3.setCell (by simp) _).setCell (by simp) _).setCell (by simp) _⟩
  exact (((hf.setCell (by simp) _).setCell (by simp) _).setCell (by simp) _).mono (by simp)
set_option maxHeartbeats 2000000 in
theorem iProof_any {thm : Int} {sR pR sB pB : List UInt8} {oS oP : Option Tm} (h : ThmAt thm sR pR sB pB oS oP) (w : World) (hm : GM w) : Calls Tryz.prog 12 #[.int .i64 thm] w (GotP w oP) := by
  have h1 := hide (fun w => theorem_any h w)
  have h2 := hide (fun w (hm : GM w) => iRead_of (thm_good h).2.1 oP (iParse_or (thm_good h).2.2.2) w hm)
  have hm' := hide (hm.alloc (.cells #[.int .i64 0, .int .i64 0, .slice none 0 0] 27))
  clear h hm
  go_enter Tryz.func12, Tryz.ntmps12
  go_wp2_with (first
    | (go_at_call 38; refine (h2.out _ hm'.out).mono ?_; rintro e w3 ⟨k, n, ks, A, c, hk, rfl, hl, hf, hb3⟩; have hk' := hide hk; clear hk; have hZ3 := (Blk.new_ w 27 #[.int .i64 0, .int .i64 0, .slice none 0 0] rfl).keep hb3; obtain ⟨d0, d1, d2⟩ := hZ3.three; have e0 := hZ3.frozen 0; have e1 := hZ3.frozen 1; have e2 := hZ3.frozen 2; have g3 : Below w.heap.size w w3 := ((Below.refl _ _).alloc (Nat.le_refl _) _).trans (hb3.mono (by simp)))
    | (go_at_call 37; refine (h1.out _).mono ?_; rintro e w9 ⟨rfl, rfl⟩))
  refine bodyPost_ret (v := .tuple #[.agg #[.int .i64 k, .int .i64 n, .slice A ks.length c], .bool oP.isSome]) (by simp [results, Tryz.results12, go_sem, d0, d1, d2]) rfl ⟨k, n, ks, A, c, hk'.out, rfl, hl, ?_, ((g3.setCell (by simp) _).setCell (by simp) _).setCell (by simp) _⟩
  exact (((hf.setCell (by simp) _).setCell (by simp) _).setCell (by simp) _).mono (by simp)
set_option maxHeartbeats 2000000 in
theorem sType_any {thm : Int} {sR pR sB pB : List UInt8} {oS oP : Option Tm} (h : ThmAt thm sR pR sB pB oS oP) (w : World) (hm : GM w) : Calls Tryz.prog 29 #[.int .i64 thm] w (GotP w oS) := by
  have h1 := hide (fun w => l17Texts_any h w)
  have h2 := hide (fun w (hm : GM w) => sParse_or (thm_good h).2.2.1 w)
  have hm' := hide (hm.alloc (.cells #[.int .i64 0, .int .i64 0, .slice none 0 0] 27))
  clear h hm
  go_enter Tryz.func29, Tryz.ntmps29
  go_wp2_with (first
    | (go_at_call 40; refine (h2.out _ hm'.out).mono ?_; rintro e w3 ⟨k, n, ks, A, c, hk, rfl, hl, hf, hb3⟩; have hk' := hide hk; clear hk; have hZ3 := (Blk.new_ w 27 #[.int .i64 0, .int .i64 0, .slice none 0 0] rfl).keep hb3; obtain ⟨d0, d1, d2⟩ := hZ3.three; have e0 := hZ3.frozen 0; have e1 := hZ3.frozen 1; have e2 := hZ3.frozen 2; have g3 : Below w.heap.size w w3 := ((Below.refl _ _).alloc (Nat.le_refl _) _).trans (hb3.mono (by simp)))
    | (go_at_call 39; refine (h1.out _).mono ?_; rintro e w9 ⟨rfl, rfl⟩))
  refine bodyPost_ret (v := .tuple #[.agg #[.int .i64 k, .int .i64 n, .slice A ks.length c], .bool oS.isSome]) (by simp [results, Tryz.results29, go_sem, d0, d1, d2]) rfl ⟨k, n, ks, A, c, hk'.out, rfl, hl, ?_, ((g3.setCell (by simp) _).setCell (by simp) _).setCell (by simp) _⟩
  exact (((hf.setCell (by simp) _).setCell (by simp) _).setCell (by simp) _).mono (by simp)
set_option maxHeartbeats 2000000 in
theorem sProof_any {thm : Int} {sR pR sB pB : List UInt8} {oS oP : Option Tm} (h : ThmAt thm sR pR sB pB oS oP) (w : World) (hm : GM w) : Calls Tryz.prog 13 #[.int .i64 thm] w (GotP w oP) := by
  have h1 := hide (fun w => l17Texts_any h w)
  have h2 := hide (fun w (hm : GM w) => sParse_or (thm_good h).2.2.2 w)
  have hm' := hide (hm.alloc (.cells #[.int .i64 0, .int .i64 0, .slice none 0 0] 27))
  clear h hm
  go_enter Tryz.func13, Tryz.ntmps13
  go_wp2_with (first
    | (go_at_call 40; refine (h2.out _ hm'.out).mono ?_; rintro e w3 ⟨k, n, ks, A, c, hk, rfl, hl, hf, hb3⟩; have hk' := hide hk; clear hk; have hZ3 := (Blk.new_ w 27 #[.int .i64 0, .int .i64 0, .slice none 0 0] rfl).keep hb3; obtain ⟨d0, d1, d2⟩ := hZ3.three; have e0 := hZ3.frozen 0; have e1 := hZ3.frozen 1; have e2 := hZ3.frozen 2; have g3 : Below w.heap.size w w3 := ((Below.refl _ _).alloc (Nat.le_refl _) _).trans (hb3.mono (by simp)))
    | (go_at_call 39; refine (h1.out _).mono ?_; rintro e w9 ⟨rfl, rfl⟩))
  refine bodyPost_ret (v := .tuple #[.agg #[.int .i64 k, .int .i64 n, .slice A ks.length c], .bool oP.isSome]) (by simp [results, Tryz.results13, go_sem, d0, d1, d2]) rfl ⟨k, n, ks, A, c, hk'.out, rfl, hl, ?_, ((g3.setCell (by simp) _).setCell (by simp) _).setCell (by simp) _⟩
  exact (((hf.setCell (by simp) _).setCell (by simp) _).setCell (by simp) _).mono (by simp)
end Go.Proofs.YthgmofdfecioaaaGreatDoor

namespace Go.Proofs.YthgmofdfecioaaaGreatDoor
open Go.RowKit
set_option linter.unusedSimpArgs false
set_option linter.unusedVariables false

/-- what fill puts in a variable's place -/
def filF (args : List Tm) (n d : Int) : Tm :=
  if n - d < 0 then .mk 1 n [] else if (args.length : Int) ≤ n - d then .mk 1 (n - args.length) [] else (shiftI d 0 (args.getD (n - d).toNat default)).getD (.mk 0 0 [])
def filOk (args : List Tm) (n d : Int) : Bool :=
  if n - d < 0 then true else if (args.length : Int) ≤ n - d then true else (shiftI d 0 (args.getD (n - d).toNat default)).isSome
theorem gotO_some {w : World} {k n : Int} {ks : List Tm} {e : Ending} {w' : World} (h : GotO w (some (.mk k n ks)) e w') :
    ∃ A c, e = .returned (.tuple #[.agg #[.int .i64 k, .int .i64 n, .slice A ks.length c], .bool true]) ∧ ks.length ≤ 9223372036854775807 ∧ Fresh w.heap.size w' A ks ∧ Below w.heap.size w w' := h
theorem gotO_none {w : World} {e : Ending} {w' : World} (h : GotO w none e w') : e = .returned (.tuple #[.agg #[.int .i64 0, .int .i64 0, .slice none 0 0], .bool false]) ∧ Below w.heap.size w w' := h

end Go.Proofs.YthgmofdfecioaaaGreatDoor

namespace Go.Proofs.YthgmofdfecioaaaGreatDoor
open Go.RowKit
set_option linter.unusedSimpArgs false
set_option linter.unusedVariables false

theorem validT_size {t : Tm} (h : validT t = true) : t.size ≤ 400 := by simp only [validT, Bool.and_eq_true, decide_eq_true_eq] at h; exact h.2
theorem filF_size (args : List Tm) (n d : Int) : (filF args n d).size ≤ 400 := by
  unfold filF
  split
  · simp [Tm.size, sizes]
  · split
    · simp [Tm.size, sizes]
    · unfold shiftI
      split
      · split
        · rename_i h; exact validT_size h
        · simp [Tm.size, sizes]
      · simp [Tm.size, sizes]
/-- what fill answers -/
def fillI (args : List Tm) (t : Tm) : Option Tm := if chgOk (filOk args) 0 t = true then (if validT (chg (filF args) 0 t) = true then some (chg (filF args) 0 t) else none) else none

end Go.Proofs.YthgmofdfecioaaaGreatDoor

namespace Go.Proofs.YthgmofdfecioaaaGreatDoor
open Go.RowKit
set_option linter.unusedSimpArgs false
set_option linter.unusedVariables false

/-- what subst puts in a variable's place -/
def sbF (x : Int) (u : Tm) (n d : Int) : Tm := if n - d = x then (shiftI d 0 u).getD (.mk 0 0 []) else if x < n - d then .mk 1 (n - 1) [] else .mk 1 n []
def sbOk (x : Int) (u : Tm) (n d : Int) : Bool := if n - d = x then (shiftI d 0 u).isSome else true
set_option maxHeartbeats 4000000 in
set_option maxRecDepth 100000 in
theorem subst1_ok {x k' n' : Int} {ks' : List Tm} {A' : Option Addr} {c' bi ba g : Nat} {W0 : World} (hx : 0 ≤ x ∧ x ≤ 20) (hsh : shape 30 (.mk k' n' ks') = true) (hsz : sizes ks' ≤ 1000000000) (hI : Blk W0 bi #[.int .i64 x]) (hA : Blk W0 ba #[.int .i64 k', .int .i64 n', .slice A' ks'.length c']) (hR : RdP (· ≠ g) W0 A' 0 ks') (hig : bi ≠ g) (hag : ba ≠ g) :
    FunOk 51 [.pointer (some ⟨bi, 0, none⟩), .pointer (some ⟨ba, 0, none⟩), .pointer (some ⟨g, 0, none⟩)] W0 g (sbF x (.mk k' n' ks')) (sbOk x (.mk k' n' ks')) := by
  intro n d w b hn0 hn1 hd0 hd1 hW hg
  have hIw := hI.grown hW (by simpa using hig)
  have hAw := hA.grown hW (by simpa using hag)
  have hRw := hR.grown hW (fun b hb e => hb (by injection e))
  have i0 := hIw.at_ (i := 0) rfl
  have x0 := hAw.at_ (i := 0) rfl
  have x1 := hAw.at_ (i := 1) rfl
  have x3 := hAw.at_ (i := 2) rfl
  have x2 := hg.at_ (i := 0) rfl
  have z2 := hg.frozen 0
  have li := hIw.lt
  have l0 := hAw.lt
  have l2 := hg.lt
  have hrd := hRw.rd
  have H4 := hide hsh
  clear hsh
  by_cases h1 : n - d = x
  · have hz : sbF x (.mk k' n' ks') n d = (shiftI d 0 (.mk k' n' ks')).getD (.mk 0 0 []) := by rw [sbF, if_pos h1]
    have hzo : sbOk x (.mk k' n' ks') n d = (shiftI d 0 (.mk k' n' ks')).isSome := by rw [sbOk, if_pos h1]
    rw [hz, hzo]
    have q1 : ((n - d) == x) = true := by simpa using h1
    have H := hide h1
    clear h1 hz hzo
    cases hsi : shiftI d 0 (.mk k' n' ks') with
    | none =>
      rw [show (none : Option Tm).getD (.mk 0 0 []) = .mk 0 0 [] from rfl, show (none : Option Tm).isSome = false from rfl, Bool.and_false]
      cases b
      all_goals
        go_enter Tryz.func51, Tryz.ntmps51
        go_wp2_with (go_at_call 52; refine (shift_any k' n' ks' A' c' d 0 _ (by omega) (by omega) (by omega) H4.out (hrd.alloc _)).mono ?_; rw [hsi]; intro e w1 hp; obtain ⟨he, hb1⟩ := gotO_none hp; subst he; clear hp; have hT : Blk w1 w.heap.size #[.int .i64 0, .int .i64 0, .slice none 0 0] := (Blk.new_ _ 27 _ rfl).keep hb1; obtain ⟨d0, d1, d2⟩ := hT.three; have e0 := hT.frozen 0; have e1 := hT.frozen 1; have e2 := hT.frozen 2; have hG1 := (hg.alloc (.cells #[.int .i64 0, .int .i64 0, .slice none 0 0] 27)).keep hb1; have g1 := hG1.at_ (i := 0) rfl; have gz := hG1.frozen 0; have lT := hT.lt; have lG := hG1.lt; replace hb1 : w.grownBy w1 (some g) := only_below (only_alloc (World.grownBy.refl _ _) _) hb1)
        have y := fun (v : Value) (o : Obj) => ((((((hT.far (p := ⟨g, 0, none⟩) (by simp; omega) v).set_ 0 (.int .i64 0)).set_ 1 (.int .i64 0)).set_ 2 (.slice none 0 0)).alloc o : Blk _ _ #[.int .i64 0, .int .i64 0, .slice none 0 0])).three
        refine bodyPost_ret (v := .agg #[.int .i64 0, .int .i64 0, .slice none 0 0]) (by simp [results, Tryz.results51, go_sem, y]) rfl ⟨_, _, rfl, ?_, ?_, ?_, ?_⟩
        · simp [Tm.ks]
        · exact Fresh.nil
        · exact ((((hG1.set_ 0 (.bool false)).far (by simp; omega) _).far (by simp; omega) _).far (by simp; omega) _).alloc _
        · exact only_alloc (only_setCell (only_setCell (only_setCell (only_setCell hb1 (.inl rfl) _) (.inr (by simp)) _) (.inr (by simp)) _) (.inr (by simp)) _) _
    | some t =>
      obtain ⟨k2, n2, ks2⟩ := t
      rw [show (some (Tm.mk k2 n2 ks2)).getD (.mk 0 0 []) = .mk k2 n2 ks2 from rfl, show (some (Tm.mk k2 n2 ks2)).isSome = true from rfl, Bool.and_true]
      cases b
      · go_enter Tryz.func51, Tryz.ntmps51
        go_wp2_with (go_at_call 52; refine (shift_any k' n' ks' A' c' d 0 _ (by omega) (by omega) (by omega) H4.out (hrd.alloc _)).mono ?_; rw [hsi]; intro e w1 hp; obtain ⟨A1, c1, rfl, hl1, hf1, hb1⟩ := gotO_some hp; clear hp; have hT : Blk w1 w.heap.size #[.int .i64 0, .int .i64 0, .slice none 0 0] := (Blk.new_ _ 27 _ rfl).keep hb1; obtain ⟨d0, d1, d2⟩ := hT.three; have e0 := hT.frozen 0; have e1 := hT.frozen 1; have e2 := hT.frozen 2; have hG1 := (hg.alloc (.cells #[.int .i64 0, .int .i64 0, .slice none 0 0] 27)).keep hb1; have g1 := hG1.at_ (i := 0) rfl; have gz := hG1.frozen 0; have lT := hT.lt; have lG := hG1.lt; replace hf1 : Fresh (w.heap.size + 1) w1 A1 ks2 := hf1.mono (by simp); replace hb1 : w.grownBy w1 (some g) := only_below (only_alloc (World.grownBy.refl _ _) _) hb1)
        have y := fun (v : Value) (o : Obj) => ((((((hT.far (p := ⟨g, 0, none⟩) (by simp; omega) v).set_ 0 (.int .i64 k2)).set_ 1 (.int .i64 n2)).set_ 2 (.slice A1 ks2.length c1)).alloc o : Blk _ _ #[.int .i64 k2, .int .i64 n2, .slice A1 ks2.length c1])).three
        refine bodyPost_ret (v := .agg #[.int .i64 k2, .int .i64 n2, .slice A1 ks2.length c1]) (by simp [results, Tryz.results51, go_sem, y]) rfl ⟨_, _, rfl, ?_, ?_, ?_, ?_⟩
        · exact hl1
        · exact (((((hf1.setCell (by simp; omega) _).setCell (by simp) _).setCell (by simp) _).setCell (by simp) _).alloc _).mono (by simp)
        · exact ((((hG1.set_ 0 (.bool false)).far (by simp; omega) _).far (by simp; omega) _).far (by simp; omega) _).alloc _
        · exact only_alloc (only_setCell (only_setCell (only_setCell (only_setCell hb1 (.inl rfl) _) (.inr (by simp)) _) (.inr (by simp)) _) (.inr (by simp)) _) _
      · go_enter Tryz.func51, Tryz.ntmps51
        go_wp2_with (go_at_call 52; refine (shift_any k' n' ks' A' c' d 0 _ (by omega) (by omega) (by omega) H4.out (hrd.alloc _)).mono ?_; rw [hsi]; intro e w1 hp; obtain ⟨A1, c1, rfl, hl1, hf1, hb1⟩ := gotO_some hp; clear hp; have hT : Blk w1 w.heap.size #[.int .i64 0, .int .i64 0, .slice none 0 0] := (Blk.new_ _ 27 _ rfl).keep hb1; obtain ⟨d0, d1, d2⟩ := hT.three; have e0 := hT.frozen 0; have e1 := hT.frozen 1; have e2 := hT.frozen 2; have hG1 := (hg.alloc (.cells #[.int .i64 0, .int .i64 0, .slice none 0 0] 27)).keep hb1; have g1 := hG1.at_ (i := 0) rfl; have gz := hG1.frozen 0; have lT := hT.lt; have lG := hG1.lt; replace hf1 : Fresh (w.heap.size + 1) w1 A1 ks2 := hf1.mono (by simp); replace hb1 : w.grownBy w1 (some g) := only_below (only_alloc (World.grownBy.refl _ _) _) hb1)
        have y := fun (v : Value) (o : Obj) => ((((((hT.far (p := ⟨g, 0, none⟩) (by simp; omega) v).set_ 0 (.int .i64 k2)).set_ 1 (.int .i64 n2)).set_ 2 (.slice A1 ks2.length c1)).alloc o : Blk _ _ #[.int .i64 k2, .int .i64 n2, .slice A1 ks2.length c1])).three
        refine bodyPost_ret (v := .agg #[.int .i64 k2, .int .i64 n2, .slice A1 ks2.length c1]) (by simp [results, Tryz.results51, go_sem, y]) rfl ⟨_, _, rfl, ?_, ?_, ?_, ?_⟩
        · exact hl1
        · exact (((((hf1.setCell (by simp; omega) _).setCell (by simp) _).setCell (by simp) _).setCell (by simp) _).alloc _).mono (by simp)
        · exact ((((hG1.set_ 0 (.bool true)).far (by simp; omega) _).far (by simp; omega) _).far (by simp; omega) _).alloc _
        · exact only_alloc (only_setCell (only_setCell (only_setCell (only_setCell hb1 (.inl rfl) _) (.inr (by simp)) _) (.inr (by simp)) _) (.inr (by simp)) _) _
  · have q1 : ((n - d) == x) = false := by simpa using h1
    have hzo : sbOk x (.mk k' n' ks') n d = true := by rw [sbOk, if_neg h1]
    by_cases h2 : x < n - d
    · have hz : sbF x (.mk k' n' ks') n d = .mk 1 (n - 1) [] := by rw [sbF, if_neg h1, if_pos h2]
      rw [hz, hzo, Bool.and_true]
      have q2 : decide (x < n - d) = true := decide_eq_true h2
      have H := hide h1
      clear h1 h2 hz hzo
      go_enter Tryz.func51, Tryz.ntmps51
      go_wp2_with (go_at_call 53; refine (variable_any _ _).mono ?_; rintro e w1 ⟨rfl, hv1⟩; have hT : Blk w1 w.heap.size #[.int .i64 0, .int .i64 0, .slice none 0 0] := (Blk.new_ _ 27 _ rfl).keep hv1; obtain ⟨d0, d1, d2⟩ := hT.three; have e0 := hT.frozen 0; have e1 := hT.frozen 1; have e2 := hT.frozen 2; have hG1 := (hg.alloc (.cells #[.int .i64 0, .int .i64 0, .slice none 0 0] 27)).keep hv1; replace hv1 : w.grownBy w1 (some g) := only_below (only_alloc (World.grownBy.refl _ _) _) hv1)
      refine bodyPost_ret (v := .agg #[.int .i64 1, .int .i64 (n - 1), .slice none 0 0]) (by simp [results, Tryz.results51, go_sem, d0, d1, d2]) rfl ⟨none, 0, rfl, by simp [Tm.ks], Fresh.nil, ?_, ?_⟩
      · exact ((hG1.far (by simp; omega) _).far (by simp; omega) _).far (by simp; omega) _
      · exact only_setCell (only_setCell (only_setCell hv1 (.inr (by simp)) _) (.inr (by simp)) _) (.inr (by simp)) _
    · have hz : sbF x (.mk k' n' ks') n d = .mk 1 n [] := by rw [sbF, if_neg h1, if_neg h2]
      rw [hz, hzo, Bool.and_true]
      have q2 : decide (x < n - d) = false := decide_eq_false h2
      have H := hide h1
      clear h1 h2 hz hzo
      go_enter Tryz.func51, Tryz.ntmps51
      go_wp2_with (go_at_call 53; refine (variable_any _ _).mono ?_; rintro e w1 ⟨rfl, hv1⟩; have hT : Blk w1 w.heap.size #[.int .i64 0, .int .i64 0, .slice none 0 0] := (Blk.new_ _ 27 _ rfl).keep hv1; obtain ⟨d0, d1, d2⟩ := hT.three; have e0 := hT.frozen 0; have e1 := hT.frozen 1; have e2 := hT.frozen 2; have hG1 := (hg.alloc (.cells #[.int .i64 0, .int .i64 0, .slice none 0 0] 27)).keep hv1; replace hv1 : w.grownBy w1 (some g) := only_below (only_alloc (World.grownBy.refl _ _) _) hv1)
      refine bodyPost_ret (v := .agg #[.int .i64 1, .int .i64 (n), .slice none 0 0]) (by simp [results, Tryz.results51, go_sem, d0, d1, d2]) rfl ⟨none, 0, rfl, by simp [Tm.ks], Fresh.nil, ?_, ?_⟩
      · exact ((hG1.far (by simp; omega) _).far (by simp; omega) _).far (by simp; omega) _
      · exact only_setCell (only_setCell (only_setCell hv1 (.inr (by simp)) _) (.inr (by simp)) _) (.inr (by simp)) _

/-- what subst answers -/
def substI (x : Int) (u : Tm) (t : Tm) : Option Tm := if chgOk (sbOk x u) 0 t = true then (if validT (chg (sbF x u) 0 t) = true then some (chg (sbF x u) 0 t) else none) else none
theorem sbF_size (x : Int) (u : Tm) (n d : Int) : (sbF x u n d).size ≤ 400 := by
  unfold sbF
  split
  · unfold shiftI
    split
    · split
      · rename_i h; exact validT_size h
      · simp [Tm.size, sizes]
    · simp [Tm.size, sizes]
  · split <;> simp [Tm.size, sizes]

set_option maxHeartbeats 4000000 in
set_option maxRecDepth 100000 in
theorem subst_any (k n : Int) (ks : List Tm) (A : Option Addr) (c : Nat) (x ku nu : Int) (us : List Tm) (B : Option Addr) (cb : Nat) (w : World) (hx : 0 ≤ x ∧ x ≤ 20) (hsa : shape 30 (.mk ku nu us) = true) (hza : sizes us ≤ 1000000000) (hRa : Rd w B 0 us) (hM : sizes ks ≤ 1000) (hs : shape 30 (.mk k n ks) = true) (hr : Rd w A 0 ks) :
    Calls Tryz.prog 28 #[(.agg #[.int .i64 k, .int .i64 n, .slice A ks.length c]), .int .i64 x, .agg #[.int .i64 ku, .int .i64 nu, .slice B us.length cb]] w (GotO w (substI x (.mk ku nu us) (.mk k n ks))) := by
  have hrp : RdP (· ≠ w.heap.size + 4) w A 0 ks := hr.rdp.mono (fun b hb => by have hb : b < w.heap.size := hb; show b ≠ _; omega)
  have hRp : RdP (· ≠ w.heap.size + 4) w B 0 us := hRa.rdp.mono (fun b hb => by have hb : b < w.heap.size := hb; show b ≠ _; omega)
  obtain ⟨k2, n2, ks2, hct⟩ := tm_eta (chg (sbF x (.mk ku nu us)) 0 (.mk k n ks))
  have hsz2 : sizes ks2 ≤ 1000000001 := by
    have := (chg_size (by omega) (sbF_size x (.mk ku nu us))).1 (.mk k n ks) 0
    rw [hct, Tm.size, Tm.size] at this
    omega
  cases hok : chgOk (sbOk x (.mk ku nu us)) 0 (.mk k n ks) with
  | false =>
    have hz : substI x (.mk ku nu us) (.mk k n ks) = none := by rw [substI, hok]; rfl
    rw [hz]
    clear hz
    go_enter Tryz.func28, Tryz.ntmps28
    go_wp2_with (go_at_call 50; refine (changed_any (subst1_ok (x := x) (k' := ku) (n' := nu) (ks' := us) (A' := B) (c' := cb) (bi := w.heap.size + 1) (ba := w.heap.size + 2) (g := w.heap.size + 4) hx hsa hza ((((Blk.new_ _ 3 _ (by simp)).alloc _).alloc _).alloc _) (((Blk.new_ _ 27 _ (by simp)).alloc _).alloc _) (((((hRp.alloc _).alloc _).alloc _).alloc _).alloc _) (by omega) (by omega)) (run_enter Tryz.func51 (by kernel_rfl) (by kernel_rfl)) (sizes ks + 1) k n ks A c 0 30 _ true (by omega) hs (by omega) (by omega) (by omega) (World.grownBy.refl _ _) (Blk.new_ _ 4 _ (by simp)) (((((hrp.alloc _).alloc _).alloc _).alloc _).alloc _)).mono ?_; rw [hct, hok]; intro e w6 hpost; obtain ⟨A6, c6, rfl, hl6, hf6, hG6, hg6⟩ := gotG_mk hpost; clear hpost; have hT6 : Blk w6 (w.heap.size + 1 + 1 + 1) #[.int .i64 0, .int .i64 0, .slice none 0 0] := ((Blk.new_ _ 27 _ (by simp)).alloc _).grown hg6 (by simp); have f0 := hG6.at_ (i := 0) rfl; obtain ⟨d0, d1, d2⟩ := hT6.three; have e0 := hT6.frozen 0; have e1 := hT6.frozen 1; have e2 := hT6.frozen 2; have lT := hT6.lt; have lG := hG6.lt; have hb6 : Below w.heap.size w w6 := ((((((Below.refl _ _).alloc (Nat.le_refl _) _).alloc (by simp) _).alloc (by simp; omega) _).alloc (by simp; omega) _).alloc (by simp; omega) _).grown hg6 (by simp; omega) (fun k e => by cases e; omega); replace hf6 := hf6.mono (B' := w.heap.size + 5) (by simp))
    have y := fun o => (((((hT6.set_ 0 (.int .i64 0)).set_ 1 (.int .i64 0)).set_ 2 (.slice none 0 0)).alloc o : Blk _ _ #[.int .i64 0, .int .i64 0, .slice none 0 0])).three
    refine bodyPost_ret (v := .tuple #[zeroV, .bool false]) (by simp [results, Tryz.results28, go_sem, y, zeroV]) rfl ⟨rfl, ?_⟩
    exact (((hb6.setCell (by simp; omega) _).setCell (by simp; omega) _).setCell (by simp; omega) _).alloc (by simp [World.setCell]; omega) _
  | true =>
    cases hv : validT (.mk k2 n2 ks2) with
    | false =>
      have hz : substI x (.mk ku nu us) (.mk k n ks) = none := by rw [substI, hok, if_pos rfl, hct, hv]; rfl
      rw [hz]
      clear hz
      go_enter Tryz.func28, Tryz.ntmps28
      go_wp2_with (first | (go_at_call 50; refine (changed_any (subst1_ok (x := x) (k' := ku) (n' := nu) (ks' := us) (A' := B) (c' := cb) (bi := w.heap.size + 1) (ba := w.heap.size + 2) (g := w.heap.size + 4) hx hsa hza ((((Blk.new_ _ 3 _ (by simp)).alloc _).alloc _).alloc _) (((Blk.new_ _ 27 _ (by simp)).alloc _).alloc _) (((((hRp.alloc _).alloc _).alloc _).alloc _).alloc _) (by omega) (by omega)) (run_enter Tryz.func51 (by kernel_rfl) (by kernel_rfl)) (sizes ks + 1) k n ks A c 0 30 _ true (by omega) hs (by omega) (by omega) (by omega) (World.grownBy.refl _ _) (Blk.new_ _ 4 _ (by simp)) (((((hrp.alloc _).alloc _).alloc _).alloc _).alloc _)).mono ?_; rw [hct, hok]; intro e w6 hpost; obtain ⟨A6, c6, rfl, hl6, hf6, hG6, hg6⟩ := gotG_mk hpost; clear hpost; have hT6 : Blk w6 (w.heap.size + 1 + 1 + 1) #[.int .i64 0, .int .i64 0, .slice none 0 0] := ((Blk.new_ _ 27 _ (by simp)).alloc _).grown hg6 (by simp); have f0 := hG6.at_ (i := 0) rfl; obtain ⟨d0, d1, d2⟩ := hT6.three; have e0 := hT6.frozen 0; have e1 := hT6.frozen 1; have e2 := hT6.frozen 2; have lT := hT6.lt; have lG := hG6.lt; have hb6 : Below w.heap.size w w6 := ((((((Below.refl _ _).alloc (Nat.le_refl _) _).alloc (by simp) _).alloc (by simp; omega) _).alloc (by simp; omega) _).alloc (by simp; omega) _).grown hg6 (by simp; omega) (fun k e => by cases e; omega); replace hf6 := hf6.mono (B' := w.heap.size + 5) (by simp)) | (go_at_call 25; refine (valid_no k2 n2 ks2 A6 c6 _ (by omega) (hf6.rd.alloc _) hv).mono ?_; rintro e w8 ⟨rfl, hb8⟩; have hT8 : Blk w8 (w.heap.size + 1 + 1 + 1) #[.int .i64 0, .int .i64 0, .slice none 0 0] := (hT6.alloc _).keep hb8; obtain ⟨x0, x1, x2⟩ := hT8.three; have e80 := hT8.frozen 0; have e81 := hT8.frozen 1; have e82 := hT8.frozen 2; replace hb8 : Below w.heap.size w w8 := (hb6.alloc hb6.size _).trans (hb8.mono (by have := hb6.size; simp; omega)); have hzz : zeroV = .agg #[.int .i64 0, .int .i64 0, .slice none 0 0] := rfl))
      refine bodyPost_ret (v := .tuple #[zeroV, .bool false]) (by simp [results, Tryz.results28, go_sem, x0, x1, x2, zeroV]) rfl ⟨rfl, ?_⟩
      exact ((hb8.setCell (by simp; omega) _).setCell (by simp; omega) _).setCell (by simp; omega) _
    | true =>
      have hz : substI x (.mk ku nu us) (.mk k n ks) = some (.mk k2 n2 ks2) := by rw [substI, hok, if_pos rfl, hct, hv]; rfl
      rw [hz]
      clear hz
      go_enter Tryz.func28, Tryz.ntmps28
      go_wp2_with (first | (go_at_call 50; refine (changed_any (subst1_ok (x := x) (k' := ku) (n' := nu) (ks' := us) (A' := B) (c' := cb) (bi := w.heap.size + 1) (ba := w.heap.size + 2) (g := w.heap.size + 4) hx hsa hza ((((Blk.new_ _ 3 _ (by simp)).alloc _).alloc _).alloc _) (((Blk.new_ _ 27 _ (by simp)).alloc _).alloc _) (((((hRp.alloc _).alloc _).alloc _).alloc _).alloc _) (by omega) (by omega)) (run_enter Tryz.func51 (by kernel_rfl) (by kernel_rfl)) (sizes ks + 1) k n ks A c 0 30 _ true (by omega) hs (by omega) (by omega) (by omega) (World.grownBy.refl _ _) (Blk.new_ _ 4 _ (by simp)) (((((hrp.alloc _).alloc _).alloc _).alloc _).alloc _)).mono ?_; rw [hct, hok]; intro e w6 hpost; obtain ⟨A6, c6, rfl, hl6, hf6, hG6, hg6⟩ := gotG_mk hpost; clear hpost; have hT6 : Blk w6 (w.heap.size + 1 + 1 + 1) #[.int .i64 0, .int .i64 0, .slice none 0 0] := ((Blk.new_ _ 27 _ (by simp)).alloc _).grown hg6 (by simp); have f0 := hG6.at_ (i := 0) rfl; obtain ⟨d0, d1, d2⟩ := hT6.three; have e0 := hT6.frozen 0; have e1 := hT6.frozen 1; have e2 := hT6.frozen 2; have lT := hT6.lt; have lG := hG6.lt; have hb6 : Below w.heap.size w w6 := ((((((Below.refl _ _).alloc (Nat.le_refl _) _).alloc (by simp) _).alloc (by simp; omega) _).alloc (by simp; omega) _).alloc (by simp; omega) _).grown hg6 (by simp; omega) (fun k e => by cases e; omega); replace hf6 := hf6.mono (B' := w.heap.size + 5) (by simp)) | (go_at_call 25; refine (valid_yes k2 n2 ks2 A6 c6 _ (by omega) (hf6.rd.alloc _) hv).mono ?_; rintro e w8 ⟨rfl, hb8⟩; have hf8 := (hf6.alloc (.cells #[.int .i64 k2, .int .i64 n2, .slice A6 ks2.length c6] 27)).below hb8; have hT8 : Blk w8 (w.heap.size + 1 + 1 + 1) #[.int .i64 0, .int .i64 0, .slice none 0 0] := (hT6.alloc _).keep hb8; obtain ⟨x0, x1, x2⟩ := hT8.three; have e80 := hT8.frozen 0; have e81 := hT8.frozen 1; have e82 := hT8.frozen 2; replace hb8 : Below w.heap.size w w8 := (hb6.alloc hb6.size _).trans (hb8.mono (by have := hb6.size; simp; omega))))
      refine bodyPost_ret (v := .tuple #[.agg #[.int .i64 k2, .int .i64 n2, .slice A6 ks2.length c6], .bool true]) (by simp [results, Tryz.results28, go_sem, x0, x1, x2]) rfl ⟨A6, c6, rfl, hl6, ?_, ?_⟩
      · exact (((hf8.setCell (by simp) _).setCell (by simp) _).setCell (by simp) _).mono (by omega)
      · exact ((hb8.setCell (by simp; omega) _).setCell (by simp; omega) _).setCell (by simp; omega) _
end Go.Proofs.YthgmofdfecioaaaGreatDoor

namespace Go.Proofs.YthgmofdfecioaaaGreatDoor
open Go.RowKit
set_option linter.unusedSimpArgs false
set_option linter.unusedVariables false

def substTI (x : Int) (u t : Tm) : Option Tm := if validT t = true ∧ validT u = true then substI x u t else none
theorem substTI_size {x : Int} {u t : Tm} {k n : Int} {ks : List Tm} (ht : (substTI x u t).getD (.mk 0 0 []) = .mk k n ks) : sizes ks ≤ 400 := by
  unfold substTI at ht
  split at ht
  · unfold substI at ht
    split at ht
    · split at ht
      · rename_i h
        have := validT_size h
        rw [Option.getD_some] at ht
        rw [ht, Tm.size] at this; omega
      · injection ht with _ _ h3; subst h3; simp [sizes]
    · injection ht with _ _ h3; subst h3; simp [sizes]
  · injection ht with _ _ h3; subst h3; simp [sizes]
end Go.Proofs.YthgmofdfecioaaaGreatDoor

namespace Go.Proofs.YthgmofdfecioaaaGreatDoor
open Go.RowKit
set_option linter.unusedSimpArgs false
set_option linter.unusedVariables false

/-- what is asked of a test of terms -/
def TestOk (F : Nat) (p : Tm → Bool) : Prop := ∀ (k n : Int) (ks : List Tm) (A : Option Addr) (c : Nat) (w : World), sizes ks ≤ 1099511627775 → Rd w A 0 ks →
  Calls Tryz.prog F #[.agg #[.int .i64 k, .int .i64 n, .slice A ks.length c]] w fun e w' => e = .returned (.bool (p (.mk k n ks))) ∧ Below w.heap.size w w'

set_option maxHeartbeats 1000000 in
set_option maxRecDepth 100000 in
theorem indexFunc_any {F : Nat} {p : Tm → Bool} (hF : TestOk F p) (hrun : ∀ (args : Array Value) (w : World), (callFunc F args).run Tryz.prog w = .ok (.enter F args) w) (ks : List Tm) (A : Option Addr) (c : Nat) (w : World) (hM : sizes ks ≤ 1099511627775) (hr : Rd w A 0 ks) :
    Calls Tryz.prog 93 #[.slice A ks.length c, .func (.func F) #[] #[]] w fun e w' => ∃ r : Int, e = .returned (.int .i64 r) ∧ decide (0 ≤ r) = ks.any p ∧ Below w.heap.size w w' := by
  have hlen := length_le_sizes ks
  go_enter Tryz.func93, Tryz.ntmps93
  go_wp2_with fail
  go_loopw [8] (fun i wr => ∃ j : Nat, j ≤ ks.length ∧ i = .int .i64 j ∧ Hid (∀ t, t ∈ ks.take j → p t = false) ∧ Below w.heap.size w wr) (fun i _ => ks.length - (intOf i).toNat)
  case atStart => exact ⟨0, Nat.zero_le _, rfl, hide (by simp), Below.refl _ _⟩
  case round =>
    obtain ⟨j, hj, rfl, hall, hb⟩ := hrel
    by_cases hlt : j < ks.length
    · obtain ⟨b, off, k1, n1, ks1, A1, c1, rfl, hkj, hc1, hc2, hc3, hl1, hr1⟩ := (hr.below hb).at_ hlt
      have hsz := sizes_le (List.getElem_mem hlt)
      rw [hkj] at hsz
      simp only [Tm.size] at hsz
      have H3 := hide hkj
      clear hkj
      go_wp2_with (refine (hF k1 n1 ks1 A1 c1 _ (by omega) hr1).mono ?_; rintro e w3 ⟨rfl, hb3⟩)
      · rename_i hbx
        go_ret
        refine ⟨_, rfl, ?_, hb.trans (hb3.mono hb.size)⟩
        rw [decide_eq_true (by omega)]
        refine (List.any_eq_true.2 ⟨ks[j], List.getElem_mem hlt, ?_⟩).symm
        rw [H3.out]; exact hbx
      · rename_i hbx
        have hp1 : p (.mk k1 n1 ks1) = false := by simpa using hbx
        go_roundw
        case rel => exact ⟨j + 1, hlt, by go_num, hide (all_take hlt hall.out (by rw [H3.out]; exact hp1)), hb.trans (hb3.mono hb.size)⟩
        case measure => simp [intOf]; omega
    · have hje : j = ks.length := by omega
      go_wp2_with fail
      go_ret
      refine ⟨-1, rfl, ?_, hb⟩
      have ha := hall.out
      rw [hje, List.take_length] at ha
      refine (List.any_eq_false.2 fun t ht => ?_).symm
      rw [ha t ht]; exact Bool.false_ne_true

set_option maxHeartbeats 1000000 in
set_option maxRecDepth 100000 in
theorem contains_any {F : Nat} {p : Tm → Bool} (hF : TestOk F p) (hrun : ∀ (args : Array Value) (w : World), (callFunc F args).run Tryz.prog w = .ok (.enter F args) w) (ks : List Tm) (A : Option Addr) (c : Nat) (w : World) (hM : sizes ks ≤ 1099511627775) (hr : Rd w A 0 ks) :
    Calls Tryz.prog 66 #[.slice A ks.length c, .func (.func F) #[] #[]] w fun e w' => e = .returned (.bool (ks.any p)) ∧ Below w.heap.size w w' := by
  go_enter Tryz.func66, Tryz.ntmps66
  go_wp2_with (go_at_call 93; refine (indexFunc_any hF hrun ks A c _ hM hr).mono ?_; rintro e w1 ⟨r, rfl, hr1, hb1⟩)
  go_ret
  exact ⟨rfl, hb1⟩

/-- what FillTerm answers -/
def fillTI (t : Tm) (args : List Tm) : Option Tm := if validT t = true ∧ args.length ≤ 6 ∧ (args.any fun a => !validT a) = false then fillI args t else none
end Go.Proofs.YthgmofdfecioaaaGreatDoor

namespace Go.Proofs.YthgmofdfecioaaaGreatDoor
open Go.RowKit
set_option linter.unusedSimpArgs false
set_option linter.unusedVariables false

set_option maxHeartbeats 2000000 in
set_option maxRecDepth 100000 in
theorem made_yes (k n : Int) (ks : List Tm) (A : Option Addr) (c : Nat) (w : World) (hM : sizes ks ≤ 1099511627775) (hr : Rd w A 0 ks) (hv : validT (.mk k n ks) = true) :
    Calls Tryz.prog 31 #[(.agg #[.int .i64 k, .int .i64 n, .slice A ks.length c])] w fun e w' => e = .returned (.tuple #[(.agg #[.int .i64 k, .int .i64 n, .slice A ks.length c]), .bool true]) ∧ Below w.heap.size w w' := by
  go_enter Tryz.func31, Tryz.ntmps31
  go_wp2_with (go_at_call 55; refine (sTermValid_any k n ks A c _ hM ((hr.alloc _).alloc _)).mono ?_; rw [hv]; rintro e w1 ⟨rfl, hb1⟩; have hB : Blk w1 w.heap.size #[.int .i64 k, .int .i64 n, .slice A ks.length c] := ((Blk.new_ w 27 #[.int .i64 k, .int .i64 n, .slice A ks.length c] rfl).alloc _).keep hb1; have hT : Blk w1 (w.heap.size + 1) #[.int .i64 0, .int .i64 0, .slice none 0 0] := (Blk.new_ _ 27 _ (by simp)).keep hb1; obtain ⟨p0, p1, p2⟩ := hB.three; obtain ⟨d0, d1, d2⟩ := hT.three; have e0 := hT.frozen 0; have e1 := hT.frozen 1; have e2 := hT.frozen 2; replace hb1 : Below w.heap.size w w1 := (((Below.refl _ _).alloc (Nat.le_refl _) _).alloc (by simp) _).trans (hb1.mono (by simp; omega)))
  refine bodyPost_ret (v := .tuple #[(.agg #[.int .i64 k, .int .i64 n, .slice A ks.length c]), .bool true]) (by simp [results, Tryz.results31, go_sem, d0, d1, d2]) rfl ⟨rfl, ?_⟩
  exact ((hb1.setCell (by simp) _).setCell (by simp) _).setCell (by simp) _
set_option maxHeartbeats 2000000 in
set_option maxRecDepth 100000 in
theorem made_no (k n : Int) (ks : List Tm) (A : Option Addr) (c : Nat) (w : World) (hM : sizes ks ≤ 1099511627775) (hr : Rd w A 0 ks) (hv : validT (.mk k n ks) = false) :
    Calls Tryz.prog 31 #[(.agg #[.int .i64 k, .int .i64 n, .slice A ks.length c])] w fun e w' => e = .returned (.tuple #[.agg #[.int .i64 0, .int .i64 0, .slice none 0 0], .bool false]) ∧ Below w.heap.size w w' := by
  go_enter Tryz.func31, Tryz.ntmps31
  go_wp2_with (go_at_call 55; refine (sTermValid_any k n ks A c _ hM ((hr.alloc _).alloc _)).mono ?_; rw [hv]; rintro e w1 ⟨rfl, hb1⟩; have hT : Blk w1 (w.heap.size + 1) #[.int .i64 0, .int .i64 0, .slice none 0 0] := (Blk.new_ _ 27 _ (by simp)).keep hb1; obtain ⟨d0, d1, d2⟩ := hT.three; have e0 := hT.frozen 0; have e1 := hT.frozen 1; have e2 := hT.frozen 2; replace hb1 : Below w.heap.size w w1 := (((Below.refl _ _).alloc (Nat.le_refl _) _).alloc (by simp) _).trans (hb1.mono (by simp; omega)))
  refine bodyPost_ret (v := .tuple #[.agg #[.int .i64 0, .int .i64 0, .slice none 0 0], .bool false]) (by simp [results, Tryz.results31, go_sem, d0, d1, d2]) rfl ⟨rfl, ?_⟩
  exact ((hb1.setCell (by simp) _).setCell (by simp) _).setCell (by simp) _

theorem shS_size (by_ : Int) (t : Tm) : ∀ d, (shS by_ d t).size = t.size := by
  refine Tm.rec (motive_1 := fun t => ∀ d, (shS by_ d t).size = t.size) (motive_2 := fun ts => ∀ k d i, sizes (shSL by_ k d i ts) = sizes ts) ?_ ?_ ?_ t
  · intro k n ks ih d; rw [shS, Tm.size, Tm.size, ih]
  · intro k d i; rfl
  · intro t ts h1 h2 k d i; rw [shSL, sizes, sizes, h1, h2]
theorem flS_size (args : List Tm) (hs : ∀ t, t ∈ args → t.size ≤ 400) (t : Tm) : ∀ d, (flS args d t).size ≤ t.size * 400 := by
  refine Tm.rec (motive_1 := fun t => ∀ d, (flS args d t).size ≤ t.size * 400) (motive_2 := fun ts => ∀ k d i, sizes (flSL args k d i ts) ≤ sizes ts * 400) ?_ ?_ ?_ t
  · intro k n ks ih d
    rw [flS]
    have h3 := ih k d 0
    split
    · split
      · rename_i h1 h2
        rw [shS_size, List.getD_eq_getElem?_getD]
        have hlt : (n - d).toNat < args.length := by omega
        rw [List.getElem?_eq_getElem hlt, Option.getD_some]
        have := hs _ (List.getElem_mem hlt)
        simp only [Tm.size]; omega
      · simp only [Tm.size, sizes]; omega
    · simp only [Tm.size]; omega
  · intro k d i; simp [flSL, sizes]
  · intro t ts h1 h2 k d i; have a := h1 (d + under k i); have b := h2 k d (i + 1); rw [flSL, sizes, sizes]; omega

/-- what the reference's FillTerm answers -/
def fillTS (t : Tm) (args : List Tm) : Option Tm := if validT t = true ∧ args.length ≤ 6 ∧ (args.any fun a => !validT a) = false ∧ validT (flS args 0 t) = true then some (flS args 0 t) else none

end Go.Proofs.YthgmofdfecioaaaGreatDoor
