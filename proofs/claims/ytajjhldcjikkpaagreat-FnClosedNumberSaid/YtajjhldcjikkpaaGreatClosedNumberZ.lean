/-
 The statement FnClosedNumberSaid, proved.
-/
import Derived.Test.YtajjhldcjikkpaaGreatK30
open Go.Proofs.Tryz
namespace Go.Proofs.YtajjhldcjikkpaaGreat.lClosedNumber
set_option maxHeartbeats 200000
set_option maxRecDepth 100000
open Go.ChangeShapes Go.WideShapes Go.ChangeAt Go.RowKit
set_option linter.all false
theorem own:ownKnob prog.godebug=none:=by kernel_rfl
theorem aIh:laidOutB prog=true:=by kernel_rfl
theorem aWa (os:Os)(started:os.Started)(H:Type)(enc:TypeId × Value->H) :
  ReturnsInHanded {} Tryz.checked os 4 .any (Rows.fnClosedNumberSpec.pre6 enc prog Tryz.f4 Rows.fnClosedNumberRow.domain false) (Rows.fnClosedNumberSpec.post enc prog Tryz.f4 false true false false):=by
 refine returnsInHanded_of_change (C:=Tryz.checked) own started (by kernel_rfl) func4
  (ChangeSpec.witness6 (enc := enc) (C := Tryz.checked) false ⟨#[], #[.slice none 0 0, .slice none 0 0], []⟩ 8 (by kernel_rfl) (by kernel_rfl) (by kernel_rfl) (by kernel_rfl)) ?_
 intro W base args ds gs before hval0 hW hcnd _;have hval:∀(j:Nat) t v,Tryz.f4.params[j]?=some t->args[j]?=some v->Value.okWide prog W .any base t v:=hval0;have hW':=hW;obtain ⟨p,q,hA0,hV,rfl,hfz,hnd⟩:=hW;have hA:DataW.TrodAll enc prog W 0 (λ _=>true) true Tryz.f4.params.toList args.toList ds p:=hA0;rw [Tryz.params4] at hA hval;obtain ⟨v0,vs0,d0,ds0,p0,q0,hargs0,rfl,rfl,h0,r0⟩:=trodAll_cons hA;obtain ⟨v1,vs1,d1,ds1,p1,q1,hargs1,rfl,rfl,h1,r1⟩:=trodAll_cons r0;obtain ⟨rfl,rfl,rfl⟩:=trodAll_nil r1;obtain rfl:args=#[v0,v1]:=by cases args;simp_all
 obtain ⟨rfl,rfl⟩:=trodVars_none hV;obtain ⟨xs0,P0,cp0,rfl,hl0,hc0,hr0⟩:=zT (hval 0 22 v0 rfl rfl) h0;obtain ⟨xs1,P1,cp1,rfl,hl1,hc1,hr1⟩:=zT (hval 1 22 v1 rfl rfl) h1;clear hA0 hval0;simp only [List.append_nil] at hW' hfz
 have hlt:∀x∈p0++p1,x.block<W.heap.size:=λ x hx=>hW'.lt x hx
 refine (pX xs0 P0 cp0 xs1 P1 cp1 W hl0 hc0 hr0 hl1 hc1 hr1).mono λ e W' ⟨he,hb⟩=>?_
 subst he;exact ⟨_,rfl,aHc (pa:=p0++p1) (pv:=[]) hW' (λ _ _ _=>(trodAll_cons_mk (shut_bool Tryz.underlying4 _) trodAll_mk0)) (λ sp hsp=>by
   have:=(trodAll_cons_mk (WideElems.Trod_stays (sp':=sp) aIh (by kernel_rfl) (of_decide_eq_true (by kernel_rfl)) h0 (λ x hx=>hb.same (hlt x (by simp [hx]))) (λ x hx=>hsp x (by simp [hx]))) (trodAll_cons_mk (WideElems.Trod_stays (sp':=sp) aIh (by kernel_rfl) (of_decide_eq_true (by kernel_rfl)) h1 (λ x hx=>hb.same (hlt x (by simp [hx]))) (λ x hx=>hsp x (by simp [hx]))) trodAll_mk0));show DataW.TrodAll enc prog W' 0 sp true Tryz.f4.params.toList [_,_] [d0,d1] (p0++p1)
   rw [Tryz.params4];simpa using this) (λ _ _=>rfl) (by simp)
  hb (ok_one (by kernel_rfl) rfl (okWide_bool_mk Tryz.underlying4 _))⟩
theorem holds:Rows.FnClosedNumberSaid:=
 OpenClaim.holds_of_wide 4 Tryz.f4 rfl rfl rfl rfl rfl rfl rfl ⟨rfl,rfl,rfl,rfl,rfl⟩ rfl rfl rfl rfl rfl (by kernel_rfl) func4 (by kernel_rfl)
  (of_decide_eq_true (by kernel_rfl)) (by unfold Func.isWrapper; first | (rw [if_pos (by decide +kernel)]; kernel_rfl) | (rw [if_neg (by decide +kernel)]; exact ⟨rfl, rfl⟩))
  (λ os started H enc _ => aWa os started H enc)
end Go.Proofs.YtajjhldcjikkpaaGreat.lClosedNumber
