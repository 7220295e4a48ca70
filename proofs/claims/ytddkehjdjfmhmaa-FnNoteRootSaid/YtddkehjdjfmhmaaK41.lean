/-
 Contracts of the functions that the law reaches, and plain lemmas. No condition.
-/
import Derived.Test.YtddkehjdjfmhmaaK5
import Derived.Test.YtddkehjdjfmhmaaK7
import Derived.Test.YtddkehjdjfmhmaaK37
import Derived.Test.YtddkehjdjfmhmaaK40
import Derived.Test.YtddkehjdjfmhmaaChecked
import Derived.ChangeSlices
import Derived.ProofKit
import Derived.OpenShut
import Derived.JoinedCond
import Derived.Carry
import Derived.Below
import Derived.ChangeSame
namespace Go.Proofs.Ytddkehjdjfmhmaa
set_option linter.unusedSimpArgs false
set_option linter.unusedVariables false
open Go.RowKit
theorem Blk.oneN {w : World} {z : Nat} {x : Int} (h : Blk w z #[.int .i64 x]) : RdI w (some ⟨z, 0, none⟩) [x] := fun j hj => by
 have h0 : j = 0 := by simp at hj; exact hj
 subst h0
 exact ⟨z, 0, rfl, h.at_ (i := 0) rfl⟩
theorem tmEq_selfN (t : Tm) : tmEq t t = true := tmEq_self t
theorem name_callsNR {f : Nat} {args : Array Value} {w : World} {Q : Ending → World → Prop} (h : ∀ wx, wx = w → Calls Try.prog f args wx Q) : Calls Try.prog f args w Q := h w rfl
theorem gotO_pairN {w : World} {o : Option Tm} {e : Ending} {w' : World} (h : GotO w o e w') {k n : Int} {ks : List Tm} (ho : o.getD (.mk 0 0 []) = .mk k n ks) {b : Bool} (hb : o.isSome = b) :
  ∃ A c, e = .returned (.tuple #[.agg #[.int .i64 k, .int .i64 n, .slice A ks.length c], .bool b]) ∧ ks.length ≤ 9223372036854775807 ∧ Rd w' A 0 ks ∧ Below w.heap.size w w' := by
 cases o with
 | none =>
  obtain ⟨rfl, h2⟩ := gotO_none h
  subst hb
  injection ho with e1 e2 e3
  subst e1 e2 e3
  exact ⟨none, 0, rfl, by simp, Rd.nil, h2⟩
 | some t =>
  obtain ⟨k1, n1, ks1⟩ := t
  obtain ⟨A, c, rfl, h1, h2, h3⟩ := gotO_some h
  subst hb
  injection ho with e1 e2 e3
  subst e1 e2 e3
  exact ⟨A, c, rfl, h1, h2.rd, h3⟩
theorem sizes_validN : ∀ {ns : List Tm}, (∀ u, u ∈ ns → validT u = true) → sizes ns ≤ 400 * ns.length
 | [], _ => by simp [sizes]
 | t :: ts, h => by
  have h1 := validT_size (h t (List.mem_cons_self ..))
  have h2 := sizes_validN (fun u hu => h u (List.mem_cons_of_mem _ hu))
  rw [sizes, List.length_cons]
  omega
theorem noteS_root {t : Tm} {ns : List Tm} {u : Tm} (h : noteS t ns [] = some u) : ns.length = t.size ∧ ns.getD 0 default = u ∧ validT u = true := by
 unfold noteS at h
 split at h
 ·rename_i h1
  split at h
  ·rename_i h2
   injection h with h
   rw [idxT] at h h2
   exact ⟨h1.2, h, h ▸ h2⟩
  ·cases h
 ·cases h
theorem noteS_kid {k n : Int} {ks ns : List Tm} (hv : validT (.mk k n ks) = true) (hn : ns.length = (Tm.mk k n ks).size) (hall : ∀ u, u ∈ ns → validT u = true) {j : Nat} (hj : j < ks.length) : ∃ u, noteS (.mk k n ks) ns [(j : Int)] = some u ∧ validT u = true := by
 have hat : atT (.mk k n ks) [(j : Int)] = some (ks.getD j default) := by
  rw [atT, if_pos ⟨by omega, by simp only [Tm.kids]; omega⟩, Int.toNat_natCast]; rfl
 have hid := idx_lt hat
 have hs : 0 < (ks.getD j default).size := by cases h : ks.getD j default with | mk a b c => rw [Tm.size]; omega
 have hlt : idxT (.mk k n ks) [(j : Int)] < ns.length := by omega
 have hm : ns.getD (idxT (.mk k n ks) [(j : Int)]) default ∈ ns := by
  rw [List.getD_eq_getElem?_getD, List.getElem?_eq_getElem hlt, Option.getD_some]; exact List.getElem_mem hlt
 refine ⟨ns.getD (idxT (.mk k n ks) [(j : Int)]) default, ?_, hall _ hm⟩
 unfold noteS
 rw [if_pos ⟨by rw [termAt, if_pos hv, hat]; rfl, hn⟩, if_pos (hall _ hm)]
set_option maxHeartbeats 16000000 in
set_option maxRecDepth 100000 in
theorem lawNoteRoot_any (bs : List Int) (A : Option Addr) (c : Nat) (w : World) (hl : bs.length ≤ 9223372036854775807) (hc : bs.length ≤ c) (hr : RdY w A bs) :
  Calls Try.prog 3 #[.slice A bs.length c] w fun e w' => e = .returned (.bool true) ∧ Below w.heap.size w w' := by
 by_cases hbig : 1048576 < bs.length
 ·go_enter Try.func3, Try.ntmps3
  go_wp2_with fail
  go_ret
  exact ⟨rfl, Below.refl _ _⟩
 ·go_enter Try.func3, Try.ntmps3
  go_wp2_with (go_at_call 4; refine (drawNote_any bs A c _ hl hc hr).mono ?_; rintro e w1 ⟨k, n, ks, At, ct, ns, D, dc, xs, P, cp, rfl, hvt, hall, hnl, hxl, hpi, rt, rn, hb1⟩)
  refine name_callsNR ?_
  intro w2 hw2
  have X : Blk w2 w1.heap.size #[.int .i64 k, .int .i64 n, .slice At ks.length ct] := by rw [hw2]; exact (Blk.new_ w1 25 #[.int .i64 k, .int .i64 n, .slice At ks.length ct] rfl).alloc _
  have g : Below w.heap.size w w2 := by rw [hw2]; exact (hb1.alloc hb1.size _).alloc (by have := hb1.size; simp; omega) _
  replace rt : Rd w2 At 0 ks := by rw [hw2]; exact (rt.alloc _).alloc _
  replace rn : Rd w2 D 0 ns := by rw [hw2]; exact (rn.alloc _).alloc _
  clear hw2 hpi
  obtain ⟨x0, x1, x2⟩ := X.three
  have lX := X.lt
  have hzt : sizes ks ≤ 1048576 := by have := validT_size' hvt; omega
  have hzn : sizes ns ≤ 1048576 := by have := sizes_validN hall.out; omega
  have hlk : ks.length ≤ 400 := by have := validT_size' hvt; have := length_le_sizes ks; omega
  have hvt' := hide hvt
  clear hvt
  obtain ⟨ko, no, so, hoo⟩ := tm_eta ((noteS (.mk k n ks) ns []).getD (.mk 0 0 []))
  have tokA := True.intro
  cases ho : noteS (.mk k n ks) ns [] with
  | none =>
   rw [ho] at hoo
   have hS := hide (show (noteS (.mk k n ks) ns []).getD (.mk 0 0 []) = .mk ko no so by rw [ho]; exact hoo)
   have hB := hide (show (noteS (.mk k n ks) ns []).isSome = false by rw [ho]; rfl)
   clear ho hoo
   go_wp2_with (first | (go_at_call 7; have _t := tokD; refine (iSame_any ko no so A3 c3 ko no so A4 c4 _ hl3 hl4 r3 r4).mono ?_; rw [tmEq_selfN]; rintro e w6 ⟨rfl, hb6⟩; replace g := g.trans (hb6.mono g.size); clear tokD _t) | (go_at_call 7; have _t := tokC; refine name_callsNR ?_; intro wc hwc; have bc : Below w4.heap.size w4 wc := (by rw [hwc]; exact by_alloc (by_refl _) _); have H0 : Blk wc w4.heap.size #[.int .i64 ko, .int .i64 no, .slice A4 so.length c4] := (by rw [hwc]; exact Blk.new_ w4 25 #[.int .i64 ko, .int .i64 no, .slice A4 so.length c4] rfl); clear hwc; replace X := X.keep bc; replace G := G.keep bc; replace rt := rt.below bc; replace rn := rn.below bc; replace r3 := r3.below bc; replace r4 := r4.below bc; replace g := g.trans (bc.mono g.size); refine (iSame_any ko no so A3 c3 ko no so A4 c4 _ hl3 hl4 r3 r4).mono ?_; rw [tmEq_selfN]; rintro e w5 ⟨rfl, hb5⟩; have H := H0.keep hb5; replace X := X.keep hb5; replace G := G.keep hb5; replace rt := rt.below hb5; replace rn := rn.below hb5; replace r3 := r3.below hb5; replace r4 := r4.below hb5; replace g := g.trans (hb5.mono g.size); clear x0 x1 x2 y0 y1 y2; obtain ⟨x0, x1, x2⟩ := X.three; obtain ⟨y0, y1, y2⟩ := G.three; obtain ⟨z0, z1, z2⟩ := H.three; have lX5 := X.lt; have lG5 := G.lt; have lH5 := H.lt; clear tokC _t; have tokD := trivial) | (go_at_call 6; have _t := tokB; refine name_callsNR ?_; intro wb hwb; have bb : Below w3.heap.size w3 wb := (by rw [hwb]; exact by_alloc (by_alloc (by_refl _) _) _); have G0 : Blk wb w3.heap.size #[.int .i64 ko, .int .i64 no, .slice A3 so.length c3] := (by rw [hwb]; exact (Blk.new_ w3 25 #[.int .i64 ko, .int .i64 no, .slice A3 so.length c3] rfl).alloc _); clear hwb; replace X := X.keep bb; replace rt := rt.below bb; replace rn := rn.below bb; replace r3 := r3.below bb; replace g := g.trans (bb.mono g.size); refine (sNoteAt_any k n ks At ct ns D dc [] _ 0 _ hzt hzn (by simp) rt rn (fun j hj => absurd hj (Nat.not_lt_zero _))).mono ?_; intro e w4 hgo; obtain ⟨A4, c4, rfl, hl4, r4, hb4⟩ := gotO_pairN hgo hS.out hB.out; clear hgo; have G := G0.keep hb4; replace X := X.keep hb4; replace rt := rt.below hb4; replace rn := rn.below hb4; replace r3 := r3.below hb4; replace g := g.trans (hb4.mono g.size); clear x0 x1 x2; obtain ⟨x0, x1, x2⟩ := X.three; have lX4 := X.lt; have lG4 := G.lt; obtain ⟨y0, y1, y2⟩ := G.three; clear tokB _t; have tokC := trivial) | (go_at_call 5; have _t := tokA; refine (iNoteAt_any k n ks At ct ns D dc [] _ 0 _ hzt hzn (by simp) rt rn (fun j hj => absurd hj (Nat.not_lt_zero _))).mono ?_; intro e w3 hgo; obtain ⟨A3, c3, rfl, hl3, r3, hb3⟩ := gotO_pairN hgo hS.out hB.out; clear hgo; replace X := X.keep hb3; replace rt := rt.below hb3; replace rn := rn.below hb3; replace g := g.trans (hb3.mono g.size); clear x0 x1 x2; obtain ⟨x0, x1, x2⟩ := X.three; have lX3 := X.lt; clear tokA _t; have tokB := trivial))
   go_ret
   exact ⟨rfl, g⟩
  | some u =>
   rw [ho] at hoo
   obtain ⟨hnt, hn0, hvu⟩ := noteS_root ho
   have hS := hide (show (noteS (.mk k n ks) ns []).getD (.mk 0 0 []) = .mk ko no so by rw [ho]; exact hoo)
   have hB := hide (show (noteS (.mk k n ks) ns []).isSome = true by rw [ho]; rfl)
   have hkid := hide (fun (j : Nat) (hj : j < ks.length) => noteS_kid hvt'.out hnt hall.out hj)
   have hn1 : ns.getD 0 default = .mk ko no so := by rw [hn0]; exact hoo
   have hnp : 0 < ns.length := by rw [hnt, Tm.size]; omega
   have hzo : sizes so ≤ 400 := by have : u = .mk ko no so := hoo; rw [this] at hvu; exact validT_size' hvu
   have hn1' := hide hn1
   clear ho hoo hnt hn0 hn1 hvu
   go_wp2_with (first | (go_at_call 7; have _t := tokC; refine name_callsNR ?_; intro wc hwc; have bc : Below w4.heap.size w4 wc := (by rw [hwc]; exact by_alloc (by_refl _) _); have H0 : Blk wc w4.heap.size #[.int .i64 ko, .int .i64 no, .slice A4 so.length c4] := (by rw [hwc]; exact Blk.new_ w4 25 #[.int .i64 ko, .int .i64 no, .slice A4 so.length c4] rfl); clear hwc; replace X := X.keep bc; replace G := G.keep bc; replace rt := rt.below bc; replace rn := rn.below bc; replace r3 := r3.below bc; replace r4 := r4.below bc; replace g := g.trans (bc.mono g.size); refine (iSame_any ko no so A3 c3 ko no so A4 c4 _ hl3 hl4 r3 r4).mono ?_; rw [tmEq_selfN]; rintro e w5 ⟨rfl, hb5⟩; have H := H0.keep hb5; replace X := X.keep hb5; replace G := G.keep hb5; replace rt := rt.below hb5; replace rn := rn.below hb5; replace r3 := r3.below hb5; replace r4 := r4.below hb5; replace g := g.trans (hb5.mono g.size); clear x0 x1 x2 y0 y1 y2; obtain ⟨x0, x1, x2⟩ := X.three; obtain ⟨y0, y1, y2⟩ := G.three; obtain ⟨z0, z1, z2⟩ := H.three; have lX5 := X.lt; have lG5 := G.lt; have lH5 := H.lt; clear tokC _t; have tokD := trivial) | (go_at_call 6; have _t := tokB; refine name_callsNR ?_; intro wb hwb; have bb : Below w3.heap.size w3 wb := (by rw [hwb]; exact by_alloc (by_alloc (by_refl _) _) _); have G0 : Blk wb w3.heap.size #[.int .i64 ko, .int .i64 no, .slice A3 so.length c3] := (by rw [hwb]; exact (Blk.new_ w3 25 #[.int .i64 ko, .int .i64 no, .slice A3 so.length c3] rfl).alloc _); clear hwb; replace X := X.keep bb; replace rt := rt.below bb; replace rn := rn.below bb; replace r3 := r3.below bb; replace g := g.trans (bb.mono g.size); refine (sNoteAt_any k n ks At ct ns D dc [] _ 0 _ hzt hzn (by simp) rt rn (fun j hj => absurd hj (Nat.not_lt_zero _))).mono ?_; intro e w4 hgo; obtain ⟨A4, c4, rfl, hl4, r4, hb4⟩ := gotO_pairN hgo hS.out hB.out; clear hgo; have G := G0.keep hb4; replace X := X.keep hb4; replace rt := rt.below hb4; replace rn := rn.below hb4; replace r3 := r3.below hb4; replace g := g.trans (hb4.mono g.size); clear x0 x1 x2; obtain ⟨x0, x1, x2⟩ := X.three; have lX4 := X.lt; have lG4 := G.lt; obtain ⟨y0, y1, y2⟩ := G.three; clear tokB _t; have tokC := trivial) | (go_at_call 5; have _t := tokA; refine (iNoteAt_any k n ks At ct ns D dc [] _ 0 _ hzt hzn (by simp) rt rn (fun j hj => absurd hj (Nat.not_lt_zero _))).mono ?_; intro e w3 hgo; obtain ⟨A3, c3, rfl, hl3, r3, hb3⟩ := gotO_pairN hgo hS.out hB.out; clear hgo; replace X := X.keep hb3; replace rt := rt.below hb3; replace rn := rn.below hb3; replace g := g.trans (hb3.mono g.size); clear x0 x1 x2; obtain ⟨x0, x1, x2⟩ := X.three; have lX3 := X.lt; clear tokA _t; have tokB := trivial))
   go_loopw [10] (fun iv wr => ∃ j : Nat, j ≤ ks.length ∧ iv = .int .i64 j ∧ Below w5.heap.size w5 wr) (fun iv _ => ks.length - (intOf iv).toNat)
   case atStart => exact ⟨0, Nat.zero_le _, rfl, Below.refl _ _⟩
   case round =>
    obtain ⟨j, hj, rfl, hbr⟩ := hrel
    replace X := X.keep hbr
    replace G := G.keep hbr
    replace rt := rt.below hbr
    replace rn := rn.below hbr
    replace r3 := r3.below hbr
    have sr := hbr.size
    clear x0 x1 x2 y0 y1 y2 z0 z1 z2
    obtain ⟨x0, x1, x2⟩ := X.three
    have lX6 := X.lt
    have lG6 := G.lt
    by_cases hlt : j < ks.length
    ·obtain ⟨uj, huj, hvj⟩ := hkid.out j hlt
     obtain ⟨kj, nj, sj⟩ := uj
     have hzj := validT_size' hvj
     have huj' := hide huj
     have hvj' := hide hvj
     clear huj hvj
     have hlj : (j : Int) < (ks.length : Int) := by omega
     have tokE := trivial
     go_wp2_with (first
      | (go_at_call 8; have _t := tokF; refine (iTermValid_any kj nj sj A7 c7 _ (by omega) (r7.alloc _)).mono ?_; rw [hvj'.out]; rintro e w8 ⟨rfl, hb8⟩; have b8 : Below wr.heap.size wr w8 := b7.trans (((by_alloc (by_refl _) _).trans (hb8.mono (by simp))).mono b7.size); clear tokF _t)
      | (go_at_call 5; have _t := tokE; refine (iNoteAt_any k n ks At ct ns D dc [(j : Int)] (some ⟨wr.heap.size, 0, none⟩) 1 _ hzt hzn (by simp) (rt.alloc _) (rn.alloc _) (Blk.oneN (Blk.new_ wr 3 #[.int .i64 j] rfl))).mono ?_; rw [huj'.out]; intro e w7 hgo; obtain ⟨A7, c7, rfl, hl7, hf7, hb7⟩ := gotO_some hgo; clear hgo; have r7 := hf7.rd; have b7 : Below wr.heap.size wr w7 := (by_alloc (by_refl _) _).trans (hb7.mono (by simp)); clear tokE _t; have tokF := trivial))
     go_roundw
     case rel => exact ⟨j + 1, hlt, by go_num, hbr.trans (b8.mono sr)⟩
     case measure => simp [intOf]; omega
    ·have hjl : j = ks.length := by omega
     subst hjl
     go_upto_region 14 with fail
     obtain ⟨b9, o9, k9, n9, s9, A9, c9, eD, hk9, m1, m2, m3, hl9, hr9⟩ := rn.at_ hnp
     have he9 : Tm.mk k9 n9 s9 = .mk ko no so := by rw [← hn1'.out, ← hk9]; simp [List.getD, List.getElem?_eq_getElem hnp]
     injection he9 with e1 e2 e3
     subst e1 e2 e3 eD
     clear hk9
     simp only [Nat.zero_mul, Nat.add_zero] at m1 m2 m3
     have t0 := rule_of G.three.1
     have t1 := rule_of G.three.2.1
     have t2 := rule_of G.three.2.2
     have t3 := rule_of m1
     have t4 := rule_of m2
     have t5 := rule_of m3
     have hnpi : (0 : Int) < (ns.length : Int) := by omega
     obtain ⟨q0, hq0⟩ : ∃ q0, q0 = wr.drew := ⟨_, rfl⟩
     have bq0 : Below wr.heap.size wr q0 := by rw [hq0]; exact by_drew (by_refl _)
     refine gC_start (fun w' => Below wr.heap.size wr w') [5] 6 (by kernel_rfl) rfl ?_
     refine gC_take [0, 1, 2, 3] (f := 2) (l' := #[true, true, true, true, false, false]) (lT := [_, _, _, _]) (by rw [← hq0]; exact bq0) rfl (by kernel_rfl) (by kernel_rfl) (by kernel_rfl) rfl (fun _ _ d _ _ h => by cases d <;> exact h) ?_
     repeat ((first | ((refine takeY_skip (a' := ?_) ?_ ?_ ?_); (rotate_left); (· (simp [Region.wanted, yielded]; done))) | ((refine takeY_step (v := ?_) (a' := ?_) ?_ ?_ ?_ ?_); (rotate_left 2); (· (simp [Region.wanted, yielded]; done)); (· (intro w' hS'; go_simp; try (with_reducible rfl))))); (· (simp only [List.getElem_toArray, List.getElem_cons_zero, List.getElem_cons_succ, Act.put, List.setIfInBounds_toArray, List.set_cons_zero, List.set_cons_succ]; exact rfl)))
     refine takeY_nil ?_
     rw [← hq0]
     clear hq0 t0 t1 t2 t3 t4 t5
     refine gC_one (i := 4) (by kernel_rfl) rfl ?_
     go_wp2_with (go_at_call 7; refine (iSame_any k9 n9 s9 A3 c3 k9 n9 s9 A9 c9 _ hl3 hl9 (r3.below bq0) (hr9.below bq0)).mono ?_; rw [tmEq_selfN]; rintro e q1 ⟨rfl, hq1⟩)
     have bq1 := bq0.trans (hq1.mono bq0.size)
     refine mid_intro bq1 ?_
     refine gC_end [5] (lB := [_]) (by simp) (by kernel_rfl) (by kernel_rfl) rfl ?_
     go_wp2_with fail
     go_ret
     exact ⟨rfl, (g.trans (hbr.mono g.size)).trans (bq1.mono (by have := g.size; omega))⟩
section
open Go.ChangeShapes Go.WideShapes Go.ChangeAt Go.RowKit
set_option maxRecDepth 100000 in
theorem open_code {H : Type} {enc : TypeId × Value → H} {W : World} {base : Nat} {spare : Nat → Bool} {held : Bool} {r : Reach} {b0 : Nat} {v : Value} {d : DataW H} {p : List MemPlace} (hv : Value.okWide Try.prog W r b0 22 v) (h : DataW.Trod enc Try.prog W base spare held 22 v d p) :
  ∃ (xs : List Int) (A : Option Addr) (c : Nat), v = .slice A xs.length c ∧ xs.length ≤ 9223372036854775807 ∧ xs.length ≤ c ∧ RdY W A xs := by
 obtain ⟨a, len, cap, rfl⟩ := Go.WideShapes.okWide_slice Try.underlying22 hv
 obtain ⟨fuel, hf⟩ := h
 have hmax : maxLen ≤ 9223372036854775807 := by decide
 rcases open_ints Try.underlying22 Try.underlying5 (by kernel_rfl) hf with ⟨hcs, _⟩ | ⟨a', len', cap', zs, hcs, _, hl, hm, hz, _, hcell, hwf⟩
 ·injection hcs with hcs
  injection hcs with e1 e2 e3
  subst e1 e2 e3
  exact ⟨[], none, 0, rfl, by simp, by simp, fun j hj => absurd hj (Nat.not_lt_zero _)⟩
 ·injection hcs with hcs
  injection hcs with e1 e2 e3
  subst e1 e2 e3
  have hzl : len ≤ zs.length := by rw [hz]; split <;> omega
  refine ⟨zs.take len, some a', cap, by rw [List.length_take, Nat.min_eq_left hzl], by rw [List.length_take]; omega, by rw [List.length_take]; omega, fun j hj => ?_⟩
  rw [List.length_take, Nat.min_eq_left hzl] at hj
  have h1 := hcell j (by omega)
  have h00 := hcell 0 (by omega)
  obtain ⟨b, off, spot⟩ := a'
  have hspot : spot = none := by
   have := World.cell?_spot h00
   simpa [Addr.add] using this
  subst hspot
  have e : (⟨b, off, none⟩ : Addr).add j = ⟨b, off + j, none⟩ := by unfold Addr.add; split <;> simp_all
  rw [e, List.getD_eq_getElem?_getD, List.getElem?_eq_getElem (by omega), Option.getD_some] at h1
  have hw := hwf zs[j] (List.getElem_mem _)
  have hw' : (decide ((0 : Int) ≤ zs[j]) && decide (zs[j] ≤ 255)) = true := hw
  simp only [Bool.and_eq_true, decide_eq_true_eq] at hw'
  exact ⟨b, off, rfl, by rw [h1, List.getElem_take], by rw [List.getElem_take]; exact hw'.1, by rw [List.getElem_take]; exact hw'.2⟩
section
variable {H : Type} {enc : TypeId × Value → H} {P : Program}
theorem post_below {f : Func} {s : ChangeSpec} {apart fresh handsOn again : Bool} {W W' : World} {args : Array Value} {v : Value} {ds gs : List (DataW H)} {before pa pv : List MemPlace}
  (hW : DataW.Whole enc P f.params.toList s.vars apart W args.toList ds gs before)
  (hres : ∀ (b : Nat) (sp : Nat → Bool) (hd : Bool), DataW.TrodAll enc P W' b sp hd f.resultTypes.toList (v.resultList f.resultTypes.size) (s.fn H (ds ++ gs)).results [])
  (hargs : ∀ sp : Nat → Bool, (∀ p ∈ before, sp p.block = true) → DataW.TrodAll enc P W' 0 sp true f.params.toList args.toList (s.fn H (ds ++ gs)).args pa)
  (hvars : ∀ sp : Nat → Bool, (∀ p ∈ before, sp p.block = true) → DataW.TrodVars enc P W' sp s.vars (s.fn H (ds ++ gs)).vars pv)
  (hps : before = pa ++ pv) (hb : Below W.heap.size W W')
  (hok : ∀ (j : Nat) (t : TypeId) (r : Value), f.resultTypes[j]? = some t → (v.resultList f.resultTypes.size)[j]? = some r → Value.okWide P W' .any 0 t r) :
  s.post enc P f apart fresh handsOn again W args v W' := by
 have hlt : ∀ p ∈ before, p.block < W.heap.size := fun p hp => hW.lt p hp
 have hold : ∀ p ∈ before, (fun b => decide (b < W.heap.size)) p.block = true := fun p hp => by simpa using hlt p hp
 refine ⟨ds, gs, before, [], pa, pv, hW, hres _ _ _, hargs _ hold, hvars _ hold, World.keptBut_mono (fun p hp => ⟨hp, ?_⟩) (hb.frame (· ∈ before)), fun _ => ?_⟩
 ·rw [hps, List.mem_append] at hp
  exact Or.inr hp
 ·obtain ⟨_, _, _, _, _, hz, hn⟩ := hW
  refine ⟨hok, _, _, ([] ++ pa) ++ pv, ⟨[] ++ pa, pv, trodAll_append (hargs _ (fun _ _ => rfl)) (hres _ _ _), hvars _ (fun _ _ => rfl), rfl, ?_, ?_⟩, ?_⟩
  ·intro b off hp
   have hin : MemPlace.cell b off ∈ before := by rw [hps]; simpa using hp
   rw [hb.frozen (hlt _ hin)]
   exact hz b off hin
  ·intro ha
   have := hn ha
   rw [hps] at this
   simpa using this
  ·intro p hp _
   rw [hps]
   simpa using hp
end
end
end Go.Proofs.Ytddkehjdjfmhmaa
