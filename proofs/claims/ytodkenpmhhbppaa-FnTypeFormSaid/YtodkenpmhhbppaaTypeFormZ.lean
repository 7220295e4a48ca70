/-
  The statement FnTypeFormSaid, proved.
-/
import Derived.Test.YtodkenpmhhbppaaK2
import Derived.Test.YtodkenpmhhbppaaK12
import Derived.Test.YtodkenpmhhbppaaK21
import Derived.Test.YtodkenpmhhbppaaK23
import Derived.Test.YtodkenpmhhbppaaK24

namespace Go.Proofs.Ytodkenpmhhbppaa
open Go.RowKit
set_option linter.unusedSimpArgs false
set_option linter.unusedVariables false

theorem formT_law {t : Tm} (h : formT t ≠ 0) : validT t = true ∧ (nf t = true → formOf t = 1) := by
  unfold formT at h
  split at h
  · rename_i hv
    refine ⟨hv, fun hn => ?_⟩
    obtain ⟨k, n, ks⟩ := t
    have hk : k = 2 ∨ k = 3 ∨ k = 6 ∨ k = 10 ∨ k = 13 := by
      rcases Classical.em (k = 2 ∨ k = 3 ∨ k = 6 ∨ k = 10 ∨ k = 13) with hk | hk
      · exact hk
      · refine absurd ?_ h
        show formK k = 0
        unfold formK
        repeat rw [if_neg (by omega)]
    rw [formOf, if_pos hn, blk_form (by unfold isForm; omega)]
    show (if (none : Option Int).isSome = true then 6 else formC k) = 1
    rw [if_neg (by simp), formC, if_pos hk]
  · exact absurd rfl h
set_option maxHeartbeats 8000000 in
set_option maxRecDepth 100000 in
theorem lawTypeForm_of (hN : NatOk) (hC : Contract3) (bs : List Int) (A : Option Addr) (c : Nat) (w : World) (hl : bs.length ≤ 9223372036854775807) (hc : bs.length ≤ c) (hr : RdY w A bs) :
    Calls Try.prog 10 #[.slice A bs.length c] w fun e w' => e = .returned (.bool true) ∧ Below w.heap.size w w' := by
  by_cases hbig : 1048576 < bs.length
  · go_enter Try.func10, Try.ntmps10
    go_wp2_with fail
    go_ret
    exact ⟨rfl, Below.refl _ _⟩
  · go_enter Try.func10, Try.ntmps10
    go_wp2_with (go_at_call 35; refine (drawTypeForm_any hN hC bs A c _ hl hc hr).mono ?_; rintro e w1 ⟨k, n, ks, A1, c1, rfl, hlk, hsk, hrk, hb1⟩)
    refine name_calls ?_
    intro w2 hw2
    have hX : Blk w2 w1.heap.size #[.int .i64 k, .int .i64 n, .slice A1 ks.length c1] := by rw [hw2]; exact (Blk.new_ _ _ _ rfl)
    have rk : Rd w2 A1 0 ks := by rw [hw2]; exact (hrk.rd.alloc _)
    have gg : Below w.heap.size w w2 := by rw [hw2]; exact (hb1.alloc hb1.size _)
    clear hw2
    obtain ⟨x0, x1, x2⟩ := hX.three
    obtain ⟨f, hf⟩ : ∃ f, formT (.mk k n ks) = f := ⟨_, rfl⟩
    have hF := hide hf
    by_cases h0 : f = 0
    · subst h0
      clear hf
      go_wp2_with (first
        | (go_at_call 37; have _t := tok4; refine (sTypeForm_any k n ks A1 c1 _ (by omega) rk).mono ?_; rw [hF.out]; rintro e w5 ⟨rfl, hb5⟩; replace hX := hX.keep hb5; clear x0 x1 x2; obtain ⟨x0, x1, x2⟩ := hX.three; replace gg := gg.trans (hb5.mono gg.size); replace rk := rk.below hb5; have tok5 := trivial)
        | (go_at_call 37; have _t := tok3; refine (sTypeForm_any k n ks A1 c1 _ (by omega) rk).mono ?_; rw [hF.out]; rintro e w4 ⟨rfl, hb4⟩; replace hX := hX.keep hb4; clear x0 x1 x2; obtain ⟨x0, x1, x2⟩ := hX.three; replace gg := gg.trans (hb4.mono gg.size); replace rk := rk.below hb4; have tok4 := trivial)
        | (go_at_call 36; refine (iTypeForm_any k n ks A1 c1 _ (by omega) rk).mono ?_; rw [hF.out]; rintro e w3 ⟨rfl, hb3⟩; replace hX := hX.keep hb3; clear x0 x1 x2; obtain ⟨x0, x1, x2⟩ := hX.three; replace gg := gg.trans (hb3.mono gg.size); replace rk := rk.below hb3; have tok3 := trivial))
      go_ret
      exact ⟨rfl, gg⟩
    · have q0 : (f == 0) = false := by simpa using h0
      obtain ⟨hv, hform⟩ := formT_law (t := .mk k n ks) (by rw [hf]; exact h0)
      have hV := hide hv
      cases hn0 : nf (.mk k n ks) with
      | false =>
        have hNf := hide (show (validT (.mk k n ks) && nrm (.mk k n ks)) = false from hn0)
        clear hf h0 hv hform hn0
        go_wp2_with (first
          | (go_at_call 25; have _t := tok5; refine (iNormalTerm_any k n ks A1 c1 _ (by omega) rk).mono ?_; rw [hNf.out]; rintro e w6 ⟨rfl, hb6⟩; replace hX := hX.keep hb6; clear x0 x1 x2; obtain ⟨x0, x1, x2⟩ := hX.three; replace gg := gg.trans (hb6.mono gg.size); replace rk := rk.below hb6; have tok6 := trivial)
          | (go_at_call 34; have _t := tok4; refine (iTermValid_any k n ks A1 c1 _ (by omega) rk).mono ?_; rw [hV.out]; rintro e w5 ⟨rfl, hb5⟩; replace hX := hX.keep hb5; clear x0 x1 x2; obtain ⟨x0, x1, x2⟩ := hX.three; replace gg := gg.trans (hb5.mono gg.size); replace rk := rk.below hb5; have tok5 := trivial)
          | (go_at_call 37; have _t := tok3; refine (sTypeForm_any k n ks A1 c1 _ (by omega) rk).mono ?_; rw [hF.out]; rintro e w4 ⟨rfl, hb4⟩; replace hX := hX.keep hb4; clear x0 x1 x2; obtain ⟨x0, x1, x2⟩ := hX.three; replace gg := gg.trans (hb4.mono gg.size); replace rk := rk.below hb4; have tok4 := trivial)
          | (go_at_call 36; refine (iTypeForm_any k n ks A1 c1 _ (by omega) rk).mono ?_; rw [hF.out]; rintro e w3 ⟨rfl, hb3⟩; replace hX := hX.keep hb3; clear x0 x1 x2; obtain ⟨x0, x1, x2⟩ := hX.three; replace gg := gg.trans (hb3.mono gg.size); replace rk := rk.below hb3; have tok3 := trivial))
        go_ret
        exact ⟨rfl, gg⟩
      | true =>
        have hNf := hide (show (validT (.mk k n ks) && nrm (.mk k n ks)) = true from hn0)
        have hO := hide (hform hn0)
        clear hf h0 hv hform hn0
        go_wp2_with (first
          | (go_at_call 38; have _t := tok6; refine (iFormOf_any k n ks A1 c1 _ (by omega) rk).mono ?_; rw [hO.out]; rintro e w7 ⟨rfl, hb7⟩; replace gg := gg.trans (hb7.mono gg.size))
          | (go_at_call 25; have _t := tok5; refine (iNormalTerm_any k n ks A1 c1 _ (by omega) rk).mono ?_; rw [hNf.out]; rintro e w6 ⟨rfl, hb6⟩; replace hX := hX.keep hb6; clear x0 x1 x2; obtain ⟨x0, x1, x2⟩ := hX.three; replace gg := gg.trans (hb6.mono gg.size); replace rk := rk.below hb6; have tok6 := trivial)
          | (go_at_call 34; have _t := tok4; refine (iTermValid_any k n ks A1 c1 _ (by omega) rk).mono ?_; rw [hV.out]; rintro e w5 ⟨rfl, hb5⟩; replace hX := hX.keep hb5; clear x0 x1 x2; obtain ⟨x0, x1, x2⟩ := hX.three; replace gg := gg.trans (hb5.mono gg.size); replace rk := rk.below hb5; have tok5 := trivial)
          | (go_at_call 37; have _t := tok3; refine (sTypeForm_any k n ks A1 c1 _ (by omega) rk).mono ?_; rw [hF.out]; rintro e w4 ⟨rfl, hb4⟩; replace hX := hX.keep hb4; clear x0 x1 x2; obtain ⟨x0, x1, x2⟩ := hX.three; replace gg := gg.trans (hb4.mono gg.size); replace rk := rk.below hb4; have tok4 := trivial)
          | (go_at_call 36; refine (iTypeForm_any k n ks A1 c1 _ (by omega) rk).mono ?_; rw [hF.out]; rintro e w3 ⟨rfl, hb3⟩; replace hX := hX.keep hb3; clear x0 x1 x2; obtain ⟨x0, x1, x2⟩ := hX.three; replace gg := gg.trans (hb3.mono gg.size); replace rk := rk.below hb3; have tok3 := trivial))
        go_ret
        exact ⟨rfl, gg⟩
end Go.Proofs.Ytodkenpmhhbppaa

namespace Go.Proofs.Ytodkenpmhhbppaa
open Go.RowKit

theorem lawTypeForm_any (bs : List Int) (A : Option Addr) (c : Nat) (w : World) (hl : bs.length ≤ 9223372036854775807) (hc : bs.length ≤ c) (hr : RdY w A bs) :
    Calls Try.prog 10 #[.slice A bs.length c] w fun e w' => e = .returned (.bool true) ∧ Below w.heap.size w w' :=
  lawTypeForm_of natOk contract3 bs A c w hl hc hr
end Go.Proofs.Ytodkenpmhhbppaa

namespace Go.Proofs.Ytodkenpmhhbppaa.lTypeForm
open Go.ChangeShapes Go.WideShapes Go.ChangeAt Go.RowKit
set_option linter.unusedVariables false
set_option linter.unusedSimpArgs false

theorem own : ownKnob Try.prog.godebug = none := by kernel_rfl
theorem laidOut : laidOutB Try.prog = true := by kernel_rfl

set_option maxRecDepth 100000 in
theorem lifted (os : Os) (started : os.Started) (H : Type) (enc : TypeId × Value → H) :
    ReturnsInHanded {} Try.checked os 10 .any (Rows.fnTypeFormSpec.pre6 enc Try.prog Try.f10 Rows.fnTypeFormRow.domain false) (Rows.fnTypeFormSpec.post enc Try.prog Try.f10 false true false false) := by
  refine returnsInHanded_of_change (C := Try.checked) own started (by kernel_rfl) Try.func10
    (ChangeSpec.witness6 (enc := enc) (C := Try.checked) false ⟨#[], #[.slice none 0 0], []⟩ 8 (by kernel_rfl) (by kernel_rfl) (by kernel_rfl) (by kernel_rfl)) ?_
  intro W base args ds gs before hval0 hW hcnd _
  have hval : ∀ (j : Nat) t v, Try.f10.params[j]? = some t → args[j]? = some v → Value.okWide Try.prog W .any base t v := hval0
  have hW' := hW
  obtain ⟨p, q, hA0, hV, rfl, hfz, hnd⟩ := hW
  have hA : DataW.TrodAll enc Try.prog W 0 (fun _ => true) true Try.f10.params.toList args.toList ds p := hA0
  rw [Try.params10] at hA hval
  obtain ⟨v0, vs0, d0, ds0, p0, q0, hargs0, rfl, rfl, h0, r0⟩ := trodAll_cons hA
  obtain ⟨rfl, rfl, rfl⟩ := trodAll_nil r0
  obtain rfl : args = #[v0] := by cases args; simp_all
  obtain ⟨rfl, rfl⟩ := trodVars_none hV
  obtain ⟨xs0, P0, cp0, rfl, hl0, hc0, hr0⟩ := open_code (hval 0 22 v0 rfl rfl) h0
  clear hA0 hval0
  simp only [List.append_nil] at hW' hfz
  have hlt : ∀ x ∈ p0, x.block < W.heap.size := fun x hx => hW'.lt x hx
  refine (lawTypeForm_any xs0 P0 cp0 W hl0 hc0 hr0).mono fun e W' ⟨he, hb⟩ => ?_
  subst he
  exact ⟨_, rfl, post_below (pa := p0) (pv := []) hW' (fun _ _ _ => (trodAll_cons_mk (shut_bool Try.underlying4 _) trodAll_mk0)) (fun sp hsp => by
      have := (trodAll_cons_mk (WideElems.Trod_stays (sp' := sp) laidOut (by kernel_rfl) (of_decide_eq_true (by kernel_rfl)) h0 (fun x hx => hb.same (hlt x (by simp [hx]))) (fun x hx => hsp x (by simp [hx]))) trodAll_mk0)
      show DataW.TrodAll enc Try.prog W' 0 sp true Try.f10.params.toList [_] [d0] (p0)
      rw [Try.params10]
      simpa using this) (fun _ _ => rfl) (by simp)
    hb (ok_one (by kernel_rfl) rfl (okWide_bool_mk Try.underlying4 _))⟩

theorem holds : Rows.FnTypeFormSaid :=
  OpenClaim.holds_of_wide 10 Try.f10 rfl rfl rfl rfl rfl rfl rfl ⟨rfl, rfl, rfl, rfl, rfl⟩ rfl rfl rfl rfl rfl (by kernel_rfl) Try.func10 (by kernel_rfl)
    (of_decide_eq_true (by kernel_rfl)) (by unfold Func.isWrapper; first | (rw [if_pos (by decide +kernel)]; kernel_rfl) | (rw [if_neg (by decide +kernel)]; exact ⟨rfl, rfl⟩))
    (fun os started H enc _ => lifted os started H enc)
end Go.Proofs.Ytodkenpmhhbppaa.lTypeForm
