/-
  Contracts of the functions that the law reaches, and plain lemmas. No condition.
-/
import Derived.Test.YtodkenpmhhbppaaK9
import Derived.Test.YtodkenpmhhbppaaK11
import Derived.Test.YtodkenpmhhbppaaK19
import Derived.Test.YtodkenpmhhbppaaK22
import Derived.Test.YtodkenpmhhbppaaK25
import Derived.Test.YtodkenpmhhbppaaChecked
import Derived.ChangeSlices
import Derived.ProofKit
import Derived.OpenShut
import Derived.JoinedCond
import Derived.Carry
import Derived.Below
import Derived.ChangeSame
namespace Go.Proofs.Ytodkenpmhhbppaa
set_option linter.unusedSimpArgs false
set_option linter.unusedVariables false
open Go.RowKit
theorem tmEq_selfR (t : Tm) : tmEq t t = true := tmEq_self t
theorem gotX_pair {w : World} {o : Option Tm} {e : Ending} {w' : World} (h : GotX w o e w') {k n : Int} {ks : List Tm} (ho : o.getD (.mk 0 0 []) = .mk k n ks) {b : Bool} (hb : o.isSome = b) :
    ∃ A c, e = .returned (.tuple #[.agg #[.int .i64 k, .int .i64 n, .slice A ks.length c], .bool b]) ∧ sizes ks ≤ 400 ∧ Rd w' A 0 ks ∧ Below w.heap.size w w' := by
  obtain ⟨k1, n1, ks1, A, c, rfl, h1, h2, h3, h4⟩ := h
  have h5 := h1.out
  rw [ho] at h5
  injection h5 with e1 e2 e3
  subst e1 e2 e3 hb
  exact ⟨A, c, rfl, h2, h3, h4⟩
theorem rwTS_valid {p q t u : Tm} {z : Int} (h : rwTS p z q t = some u) : validT u = true := by
  unfold rwTS at h
  split at h
  · cases hr : rwS z.toNat p q t with
    | none => rw [hr] at h; cases h
    | some v =>
      rw [hr] at h
      change vO v = some u at h
      rw [vO] at h
      split at h
      · injection h with h; rw [← h]; assumption
      · cases h
  · cases h
set_option maxHeartbeats 8000000 in
set_option maxRecDepth 100000 in
theorem lawRewriteTerm_any (bs : List Int) (A : Option Addr) (c : Nat) (w : World) (hl : bs.length ≤ 9223372036854775807) (hc : bs.length ≤ c) (hr : RdY w A bs) :
    Calls Try.prog 15 #[.slice A bs.length c] w fun e w' => e = .returned (.bool true) ∧ Below w.heap.size w w' := by
  by_cases hbig : 1048576 < bs.length
  · go_enter Try.func15, Try.ntmps15
    go_wp2_with fail
    go_ret
    exact ⟨rfl, Below.refl _ _⟩
  · go_enter Try.func15, Try.ntmps15
    go_wp2_with (go_at_call 47; refine (drawRw_any bs A c _ hl hc hr).mono ?_; rintro e w1 ⟨kp, np, sp, Ap, cp, m, kq, nq, sq, Aq, cq, kt, nt, st, At, ct, rfl, hm, hsp, hsq, hst, h3p, h3q, h3t, hrp, hrq, hrt, hb1⟩)
    refine name_callsR ?_
    intro w2 hw2
    have X : Blk w2 w1.heap.size #[.int .i64 kp, .int .i64 np, .slice Ap sp.length cp] := by rw [hw2]; exact ((Blk.new_ w1 25 #[.int .i64 kp, .int .i64 np, .slice Ap sp.length cp] rfl).alloc _).alloc _
    have Q : Blk w2 (w1.heap.size + 1) #[.int .i64 kq, .int .i64 nq, .slice Aq sq.length cq] := by rw [hw2]; exact (Blk.new_ _ 25 #[.int .i64 kq, .int .i64 nq, .slice Aq sq.length cq] (by simp)).alloc _
    have T : Blk w2 (w1.heap.size + 1 + 1) #[.int .i64 kt, .int .i64 nt, .slice At st.length ct] := by rw [hw2]; exact Blk.new_ _ 25 #[.int .i64 kt, .int .i64 nt, .slice At st.length ct] (by simp)
    have g : Below w.heap.size w w2 := by rw [hw2]; exact ((hb1.alloc hb1.size _).alloc (by have := hb1.size; simp; omega) _).alloc (by have := hb1.size; simp; omega) _
    have rp : Rd w2 Ap 0 sp := by rw [hw2]; exact ((hrp.alloc _).alloc _).alloc _
    have rq : Rd w2 Aq 0 sq := by rw [hw2]; exact ((hrq.alloc _).alloc _).alloc _
    have rt : Rd w2 At 0 st := by rw [hw2]; exact ((hrt.alloc _).alloc _).alloc _
    clear hw2
    obtain ⟨x0, x1, x2⟩ := X.three
    obtain ⟨q0, q1, q2⟩ := Q.three
    obtain ⟨t0, t1, t2⟩ := T.three
    have lX := X.lt
    have lQ := Q.lt
    have lT := T.lt
    have hp3 := hide (fun hv => hid_hiN (h3p.out hv))
    have hq3 := hide (hid_hiN h3q.out)
    have hg3 := hide (fun hv => hgB_up (b := 18) (by omega) (hid_hgB (h3t.out hv)))
    have hsame := hide (rw_same (p := .mk kp np sp) (q := .mk kq nq sq) (t := .mk kt nt st) (z := m) hp3.out hq3.out hg3.out)
    obtain ⟨ko, no, so, hoo⟩ := tm_eta ((rwTS (.mk kp np sp) m (.mk kq nq sq) (.mk kt nt st)).getD (.mk 0 0 []))
    have tokA := True.intro
    cases ho : rwTS (.mk kp np sp) m (.mk kq nq sq) (.mk kt nt st) with
    | none =>
      rw [ho] at hoo
      have hS := hide (show (rwTS (.mk kp np sp) m (.mk kq nq sq) (.mk kt nt st)).getD (.mk 0 0 []) = .mk ko no so by rw [ho]; exact hoo)
      have hB := hide (show (rwTS (.mk kp np sp) m (.mk kq nq sq) (.mk kt nt st)).isSome = false by rw [ho]; rfl)
      clear ho hoo
      go_wp2_with (first | (go_at_call 19; have _t := tokD; refine (iSame_any ko no so A3 c3 ko no so A4 c4 _ (by have := length_le_sizes so; omega) (by have := length_le_sizes so; omega) r3 r4).mono ?_; rw [tmEq_selfR]; rintro e w6 ⟨rfl, hb6⟩; replace g := g.trans (hb6.mono g.size); clear tokD _t) | (go_at_call 19; have _t := tokC; refine (iSame_any ko no so A3 c3 ko no so A4 c4 _ (by have := length_le_sizes so; omega) (by have := length_le_sizes so; omega) (r3.alloc _) (r4.alloc _)).mono ?_; rw [tmEq_selfR]; rintro e w5 ⟨rfl, hb5⟩; have Y : Blk w5 w4.heap.size #[.int .i64 ko, .int .i64 no, .slice A4 so.length c4] := (Blk.new_ w4 25 _ rfl).keep hb5; obtain ⟨b0, b1, b2⟩ := Y.three; replace W := (W.alloc _).keep hb5; replace r3 := (r3.alloc _).below hb5; replace r4 := (r4.alloc _).below hb5; replace X := (X.alloc _).keep hb5; replace Q := (Q.alloc _).keep hb5; replace T := (T.alloc _).keep hb5; replace rp := (rp.alloc _).below hb5; replace rq := (rq.alloc _).below hb5; replace rt := (rt.alloc _).below hb5; replace g := (g.alloc g.size _).trans (hb5.mono (by have := g.size; simp; omega)); clear x0 x1 x2 q0 q1 q2 t0 t1 t2 lX lQ lT; obtain ⟨x0, x1, x2⟩ := X.three; obtain ⟨q0, q1, q2⟩ := Q.three; obtain ⟨t0, t1, t2⟩ := T.three; have lX := X.lt; have lQ := Q.lt; have lT := T.lt; clear a0 a1 a2 lW; obtain ⟨a0, a1, a2⟩ := W.three; have lW := W.lt; clear tokC _t; have tokD := trivial) | (go_at_call 49; have _t := tokB; refine (sRewriteTerm_any kp np sp Ap cp m hm kq nq sq Aq cq kt nt st At ct _ (by omega) (by omega) (by omega) hp3.out (fun _ => hq3.out) hg3.out (rp.alloc _) (rq.alloc _) (rt.alloc _)).mono ?_; intro e w4 hgo; obtain ⟨A4, c4, rfl, hs4, r4, hb4⟩ := gotX_pair hgo hS.out hB.out; clear hgo; have W : Blk w4 w3.heap.size #[.int .i64 ko, .int .i64 no, .slice A3 so.length c3] := (Blk.new_ w3 25 _ rfl).keep hb4; replace r3 := (r3.alloc _).below hb4; replace X := (X.alloc _).keep hb4; replace Q := (Q.alloc _).keep hb4; replace T := (T.alloc _).keep hb4; replace rp := (rp.alloc _).below hb4; replace rq := (rq.alloc _).below hb4; replace rt := (rt.alloc _).below hb4; replace g := (g.alloc g.size _).trans (hb4.mono (by have := g.size; simp; omega)); clear x0 x1 x2 q0 q1 q2 t0 t1 t2 lX lQ lT; obtain ⟨x0, x1, x2⟩ := X.three; obtain ⟨q0, q1, q2⟩ := Q.three; obtain ⟨t0, t1, t2⟩ := T.three; have lX := X.lt; have lQ := Q.lt; have lT := T.lt; obtain ⟨a0, a1, a2⟩ := W.three; have lW := W.lt; clear tokB _t; have tokC := trivial) | (go_at_call 48; have _t := tokA; refine (iRewriteTerm_any kp np sp Ap cp m hm kq nq sq Aq cq kt nt st At ct _ (by omega) (by omega) (by omega) hp3.out (fun _ => hq3.out) hg3.out rp rq rt).mono ?_; rw [← hsame.out]; intro e w3 hgo; obtain ⟨A3, c3, rfl, hs3, r3, hb3⟩ := gotX_pair hgo hS.out hB.out; clear hgo; replace X := X.keep hb3; replace Q := Q.keep hb3; replace T := T.keep hb3; replace rp := rp.below hb3; replace rq := rq.below hb3; replace rt := rt.below hb3; replace g := g.trans (hb3.mono g.size); clear x0 x1 x2 q0 q1 q2 t0 t1 t2 lX lQ lT; obtain ⟨x0, x1, x2⟩ := X.three; obtain ⟨q0, q1, q2⟩ := Q.three; obtain ⟨t0, t1, t2⟩ := T.three; have lX := X.lt; have lQ := Q.lt; have lT := T.lt; clear tokA _t; have tokB := trivial))
      go_ret
      exact ⟨rfl, g⟩
    | some u =>
      rw [ho] at hoo
      have hself := hide (rw_self (p := .mk kp np sp) (q := .mk kq nq sq) (t := .mk kt nt st) (z := m) hp3.out hg3.out (by rw [ho]; rfl))
      have huv := hide (show validT (.mk ko no so) = true by rw [← hoo]; exact rwTS_valid ho)
      have hS := hide (show (rwTS (.mk kp np sp) m (.mk kq nq sq) (.mk kt nt st)).getD (.mk 0 0 []) = .mk ko no so by rw [ho]; exact hoo)
      have hB := hide (show (rwTS (.mk kp np sp) m (.mk kq nq sq) (.mk kt nt st)).isSome = true by rw [ho]; rfl)
      have hS2 := hide (show (rwTI (.mk kp np sp) m (.mk kp np sp) (.mk kt nt st)).getD (.mk 0 0 []) = .mk kt nt st by rw [hself.out]; rfl)
      have hB2 := hide (show (rwTI (.mk kp np sp) m (.mk kp np sp) (.mk kt nt st)).isSome = true by rw [hself.out]; rfl)
      clear ho hoo
      go_wp2_with (first | (go_at_call 19; have _t := tokF; refine (iSame_any kt nt st A6 c6 kt nt st At ct _ (by have := length_le_sizes st; omega) (by have := length_le_sizes st; omega) r6 rt).mono ?_; rw [tmEq_selfR]; rintro e w8 ⟨rfl, hb8⟩; replace X := X.keep hb8; replace Q := Q.keep hb8; replace T := T.keep hb8; replace rp := rp.below hb8; replace rq := rq.below hb8; replace rt := rt.below hb8; replace g := g.trans (hb8.mono g.size); clear x0 x1 x2 q0 q1 q2 t0 t1 t2 lX lQ lT; obtain ⟨x0, x1, x2⟩ := X.three; obtain ⟨q0, q1, q2⟩ := Q.three; obtain ⟨t0, t1, t2⟩ := T.three; have lX := X.lt; have lQ := Q.lt; have lT := T.lt; clear tokF _t) | (go_at_call 34; have _t := tokE; refine (iTermValid_any ko no so A3 c3 _ (by omega) (r3.alloc _)).mono ?_; rw [huv.out]; rintro e w7 ⟨rfl, hb7⟩; have V : Blk w7 w6.heap.size #[.int .i64 kt, .int .i64 nt, .slice A6 st.length c6] := (Blk.new_ w6 25 _ rfl).keep hb7; replace r6 := (r6.alloc _).below hb7; replace X := (X.alloc _).keep hb7; replace Q := (Q.alloc _).keep hb7; replace T := (T.alloc _).keep hb7; replace rp := (rp.alloc _).below hb7; replace rq := (rq.alloc _).below hb7; replace rt := (rt.alloc _).below hb7; replace g := (g.alloc g.size _).trans (hb7.mono (by have := g.size; simp; omega)); clear x0 x1 x2 q0 q1 q2 t0 t1 t2 lX lQ lT; obtain ⟨x0, x1, x2⟩ := X.three; obtain ⟨q0, q1, q2⟩ := Q.three; obtain ⟨t0, t1, t2⟩ := T.three; have lX := X.lt; have lQ := Q.lt; have lT := T.lt; obtain ⟨b0, b1, b2⟩ := V.three; clear tokE _t; have tokF := trivial) | (go_at_call 48; have _t := tokD; refine (iRewriteTerm_any kp np sp Ap cp m hm kp np sp Ap cp kt nt st At ct _ (by omega) (by omega) (by omega) hp3.out hp3.out hg3.out rp rp rt).mono ?_; intro e w6 hgo; obtain ⟨A6, c6, rfl, hs6, r6, hb6⟩ := gotX_pair hgo hS2.out hB2.out; clear hgo; replace W := W.keep hb6; replace r3 := r3.below hb6; replace X := X.keep hb6; replace Q := Q.keep hb6; replace T := T.keep hb6; replace rp := rp.below hb6; replace rq := rq.below hb6; replace rt := rt.below hb6; replace g := g.trans (hb6.mono g.size); clear x0 x1 x2 q0 q1 q2 t0 t1 t2 lX lQ lT; obtain ⟨x0, x1, x2⟩ := X.three; obtain ⟨q0, q1, q2⟩ := Q.three; obtain ⟨t0, t1, t2⟩ := T.three; have lX := X.lt; have lQ := Q.lt; have lT := T.lt; clear a0 a1 a2 lW b0 b1 b2; obtain ⟨a0, a1, a2⟩ := W.three; have lW := W.lt; clear tokD _t; have tokE := trivial) | (go_at_call 19; have _t := tokC; refine (iSame_any ko no so A3 c3 ko no so A4 c4 _ (by have := length_le_sizes so; omega) (by have := length_le_sizes so; omega) (r3.alloc _) (r4.alloc _)).mono ?_; rw [tmEq_selfR]; rintro e w5 ⟨rfl, hb5⟩; have Y : Blk w5 w4.heap.size #[.int .i64 ko, .int .i64 no, .slice A4 so.length c4] := (Blk.new_ w4 25 _ rfl).keep hb5; obtain ⟨b0, b1, b2⟩ := Y.three; replace W := (W.alloc _).keep hb5; replace r3 := (r3.alloc _).below hb5; replace r4 := (r4.alloc _).below hb5; replace X := (X.alloc _).keep hb5; replace Q := (Q.alloc _).keep hb5; replace T := (T.alloc _).keep hb5; replace rp := (rp.alloc _).below hb5; replace rq := (rq.alloc _).below hb5; replace rt := (rt.alloc _).below hb5; replace g := (g.alloc g.size _).trans (hb5.mono (by have := g.size; simp; omega)); clear x0 x1 x2 q0 q1 q2 t0 t1 t2 lX lQ lT; obtain ⟨x0, x1, x2⟩ := X.three; obtain ⟨q0, q1, q2⟩ := Q.three; obtain ⟨t0, t1, t2⟩ := T.three; have lX := X.lt; have lQ := Q.lt; have lT := T.lt; clear a0 a1 a2 lW; obtain ⟨a0, a1, a2⟩ := W.three; have lW := W.lt; clear tokC _t; have tokD := trivial) | (go_at_call 49; have _t := tokB; refine (sRewriteTerm_any kp np sp Ap cp m hm kq nq sq Aq cq kt nt st At ct _ (by omega) (by omega) (by omega) hp3.out (fun _ => hq3.out) hg3.out (rp.alloc _) (rq.alloc _) (rt.alloc _)).mono ?_; intro e w4 hgo; obtain ⟨A4, c4, rfl, hs4, r4, hb4⟩ := gotX_pair hgo hS.out hB.out; clear hgo; have W : Blk w4 w3.heap.size #[.int .i64 ko, .int .i64 no, .slice A3 so.length c3] := (Blk.new_ w3 25 _ rfl).keep hb4; replace r3 := (r3.alloc _).below hb4; replace X := (X.alloc _).keep hb4; replace Q := (Q.alloc _).keep hb4; replace T := (T.alloc _).keep hb4; replace rp := (rp.alloc _).below hb4; replace rq := (rq.alloc _).below hb4; replace rt := (rt.alloc _).below hb4; replace g := (g.alloc g.size _).trans (hb4.mono (by have := g.size; simp; omega)); clear x0 x1 x2 q0 q1 q2 t0 t1 t2 lX lQ lT; obtain ⟨x0, x1, x2⟩ := X.three; obtain ⟨q0, q1, q2⟩ := Q.three; obtain ⟨t0, t1, t2⟩ := T.three; have lX := X.lt; have lQ := Q.lt; have lT := T.lt; obtain ⟨a0, a1, a2⟩ := W.three; have lW := W.lt; clear tokB _t; have tokC := trivial) | (go_at_call 48; have _t := tokA; refine (iRewriteTerm_any kp np sp Ap cp m hm kq nq sq Aq cq kt nt st At ct _ (by omega) (by omega) (by omega) hp3.out (fun _ => hq3.out) hg3.out rp rq rt).mono ?_; rw [← hsame.out]; intro e w3 hgo; obtain ⟨A3, c3, rfl, hs3, r3, hb3⟩ := gotX_pair hgo hS.out hB.out; clear hgo; replace X := X.keep hb3; replace Q := Q.keep hb3; replace T := T.keep hb3; replace rp := rp.below hb3; replace rq := rq.below hb3; replace rt := rt.below hb3; replace g := g.trans (hb3.mono g.size); clear x0 x1 x2 q0 q1 q2 t0 t1 t2 lX lQ lT; obtain ⟨x0, x1, x2⟩ := X.three; obtain ⟨q0, q1, q2⟩ := Q.three; obtain ⟨t0, t1, t2⟩ := T.three; have lX := X.lt; have lQ := Q.lt; have lT := T.lt; clear tokA _t; have tokB := trivial))
      go_ret
      exact ⟨rfl, g⟩
section
open Go.ChangeShapes Go.WideShapes Go.ChangeAt Go.RowKit
set_option maxRecDepth 100000 in
theorem open_code {H : Type} {enc : TypeId × Value → H} {W : World} {base : Nat} {spare : Nat → Bool} {held : Bool} {r : Reach} {b0 : Nat} {v : Value} {d : DataW H} {p : List MemPlace} (hv : Value.okWide Try.prog W r b0 22 v) (h : DataW.Trod enc Try.prog W base spare held 22 v d p) :
    ∃ (xs : List Int) (A : Option Addr) (c : Nat), v = .slice A xs.length c ∧ xs.length ≤ 9223372036854775807 ∧ xs.length ≤ c ∧ RdY W A xs := by
  obtain ⟨a, len, cap, rfl⟩ := Go.WideShapes.okWide_slice Try.underlying22 hv
  obtain ⟨fuel, hf⟩ := h
  have hmax : maxLen ≤ 9223372036854775807 := by decide
  rcases open_ints Try.underlying22 Try.underlying5 (by kernel_rfl) hf with ⟨hcs, _⟩ | ⟨a', len', cap', zs, hcs, _, hl, hm, hz, _, hcell, hwf⟩
  · injection hcs with hcs
    injection hcs with e1 e2 e3
    subst e1 e2 e3
    exact ⟨[], none, 0, rfl, by simp, by simp, fun j hj => absurd hj (Nat.not_lt_zero _)⟩
  · injection hcs with hcs
    injection hcs with e1 e2 e3
    subst e1 e2 e3
    have hzl : len ≤ zs.length := by rw [hz]; split <;> omega
    refine ⟨zs.take len, some a', cap, by rw [List.length_take, Nat.min_eq_left hzl], by rw [List.length_take]; omega, by rw [List.length_take]; omega, fun j hj => ?_⟩
    rw [List.length_take, Nat.min_eq_left hzl] at hj
    have h1 := hcell j (by omega)
    have h00 := hcell 0 (by omega)
    obtain ⟨b, off, spot⟩ := a'
    have hspot : spot = none := by
      have := World.cell?_spot h00
      simpa [Addr.add] using this
    subst hspot
    have e : (⟨b, off, none⟩ : Addr).add j = ⟨b, off + j, none⟩ := by unfold Addr.add; split <;> simp_all
    rw [e, List.getD_eq_getElem?_getD, List.getElem?_eq_getElem (by omega), Option.getD_some] at h1
    have hw := hwf zs[j] (List.getElem_mem _)
    have hw' : (decide ((0 : Int) ≤ zs[j]) && decide (zs[j] ≤ 255)) = true := hw
    simp only [Bool.and_eq_true, decide_eq_true_eq] at hw'
    exact ⟨b, off, rfl, by rw [h1, List.getElem_take], by rw [List.getElem_take]; exact hw'.1, by rw [List.getElem_take]; exact hw'.2⟩
section
variable {H : Type} {enc : TypeId × Value → H} {P : Program}
/-- the row's last step, where of the world behind the call 'Below' alone is known -/
theorem post_below {f : Func} {s : ChangeSpec} {apart fresh handsOn again : Bool} {W W' : World} {args : Array Value} {v : Value} {ds gs : List (DataW H)} {before pa pv : List MemPlace}
    (hW : DataW.Whole enc P f.params.toList s.vars apart W args.toList ds gs before)
    (hres : ∀ (b : Nat) (sp : Nat → Bool) (hd : Bool), DataW.TrodAll enc P W' b sp hd f.resultTypes.toList (v.resultList f.resultTypes.size) (s.fn H (ds ++ gs)).results [])
    (hargs : ∀ sp : Nat → Bool, (∀ p ∈ before, sp p.block = true) → DataW.TrodAll enc P W' 0 sp true f.params.toList args.toList (s.fn H (ds ++ gs)).args pa)
    (hvars : ∀ sp : Nat → Bool, (∀ p ∈ before, sp p.block = true) → DataW.TrodVars enc P W' sp s.vars (s.fn H (ds ++ gs)).vars pv)
    (hps : before = pa ++ pv) (hb : Below W.heap.size W W')
    (hok : ∀ (j : Nat) (t : TypeId) (r : Value), f.resultTypes[j]? = some t → (v.resultList f.resultTypes.size)[j]? = some r → Value.okWide P W' .any 0 t r) :
    s.post enc P f apart fresh handsOn again W args v W' := by
  have hlt : ∀ p ∈ before, p.block < W.heap.size := fun p hp => hW.lt p hp
  have hold : ∀ p ∈ before, (fun b => decide (b < W.heap.size)) p.block = true := fun p hp => by simpa using hlt p hp
  refine ⟨ds, gs, before, [], pa, pv, hW, hres _ _ _, hargs _ hold, hvars _ hold, World.keptBut_mono (fun p hp => ⟨hp, ?_⟩) (hb.frame (· ∈ before)), fun _ => ?_⟩
  · rw [hps, List.mem_append] at hp
    exact Or.inr hp
  · obtain ⟨_, _, _, _, _, hz, hn⟩ := hW
    refine ⟨hok, _, _, ([] ++ pa) ++ pv, ⟨[] ++ pa, pv, trodAll_append (hargs _ (fun _ _ => rfl)) (hres _ _ _), hvars _ (fun _ _ => rfl), rfl, ?_, ?_⟩, ?_⟩
    · intro b off hp
      have hin : MemPlace.cell b off ∈ before := by rw [hps]; simpa using hp
      rw [hb.frozen (hlt _ hin)]
      exact hz b off hin
    · intro ha
      have := hn ha
      rw [hps] at this
      simpa using this
    · intro p hp _
      rw [hps]
      simpa using hp
end
end
end Go.Proofs.Ytodkenpmhhbppaa
