/-
 The statement FnExactInhabitedSaid, proved.
-/
import Derived.Test.YtjlaenhcemacdaaGreatK31
open Go.Proofs.Tryz
namespace Go.Proofs.YtjlaenhcemacdaaGreat.lInhabited
set_option maxHeartbeats 200000
set_option maxRecDepth 100000
open Go.ChangeShapes Go.WideShapes Go.ChangeAt Go.RowKit
set_option linter.unusedVariables false
set_option linter.unusedSimpArgs false
theorem own:ownKnob prog.godebug=none:=by kernel_rfl
theorem aCl:laidOutB prog=true:=by kernel_rfl
theorem aVi (os:Os)(started:os.Started)(H:Type)(enc:TypeId × Value->H) :
  ReturnsInHanded {} Tryz.checked os 4 .any (Rows.fnExactInhabitedSpec.pre6 enc prog Tryz.f4 Rows.fnExactInhabitedRow.domain false) (Rows.fnExactInhabitedSpec.post enc prog Tryz.f4 false true false false):=by
 refine returnsInHanded_of_change (C:=Tryz.checked) own started (by kernel_rfl) func4
  (ChangeSpec.witness6 (enc := enc) (C := Tryz.checked) false ⟨#[], #[.slice none 0 0, .agg Zr, .int .i64 0], []⟩ 8 (by kernel_rfl) (by kernel_rfl) (by kernel_rfl) (by kernel_rfl)) ?_
 intro W base args ds gs before hval0 hW hcnd _;have hval:∀(j:Nat) t v,Tryz.f4.params[j]?=some t->args[j]?=some v->Value.okWide prog W .any base t v:=hval0;have hW':=hW;obtain ⟨p,q,hA0,hV,rfl,hfz,hnd⟩:=hW;have hA:DataW.TrodAll enc prog W 0 (λ_=>true) true Tryz.f4.params.toList args.toList ds p:=hA0;rw [Tryz.params4] at hA hval;obtain ⟨v0,vs0,d0,ds0,p0,q0,hargs0,rfl,rfl,h0,r0⟩:=trodAll_cons hA;obtain ⟨v1,vs1,d1,ds1,p1,q1,hargs1,rfl,rfl,h1,r1⟩:=trodAll_cons r0;obtain ⟨v2,vs2,d2,ds2,p2,q2,hargs2,rfl,rfl,h2,r2⟩:=trodAll_cons r1;obtain ⟨rfl,rfl,rfl⟩:=trodAll_nil r2;obtain rfl:args=#[v0,v1,v2]:=by cases args;simp_all
 obtain ⟨rfl,rfl⟩:=trodVars_none hV;obtain ⟨ts0,B0,cb0,rfl,hl0,hr0⟩:=aLm (hval 0 22 v0 rfl rfl) h0;obtain ⟨k1,n1,ks1,A1,c1,rfl,hl1,hr1⟩:=aKb (hval 1 24 v1 rfl rfl) h1;obtain ⟨z2,rfl,hdz2,hpz2,hz2⟩:=open_int Tryz.underlying3 (hval 2 3 v2 rfl rfl) h2;clear hA0 hval0;simp only [List.append_nil] at hW' hfz;have hlt:∀x∈p0++(p1++p2),x.block<W.heap.size:=λx hx=>hW'.lt x hx
 refine (aAo ts0 B0 cb0 k1 n1 ks1 A1 c1 z2 W hl0 hr0 hl1 hr1).mono λe W' ⟨he,hb⟩=>?_
 subst he;exact ⟨_,rfl,aHc (pa:=p0++(p1++p2)) (pv:=[]) hW' (λ_ _ _=>(trodAll_cons_mk (shut_bool Tryz.underlying4 _) trodAll_mk0)) (λsp hsp=>by
   have:=(trodAll_cons_mk (WideElems.Trod_stays (sp':=sp) aCl (by kernel_rfl) (of_decide_eq_true (by kernel_rfl)) h0 (λx hx=>hb.same (hlt x (by simp [hx]))) (λx hx=>hsp x (by simp [hx]))) (trodAll_cons_mk (WideElems.Trod_stays (sp':=sp) aCl (by kernel_rfl) (of_decide_eq_true (by kernel_rfl)) h1 (λx hx=>hb.same (hlt x (by simp [hx]))) (λx hx=>hsp x (by simp [hx]))) (trodAll_cons_mk (WideElems.Trod_stays (sp':=sp) aCl (by kernel_rfl) (of_decide_eq_true (by kernel_rfl)) h2 (λx hx=>hb.same (hlt x (by simp [hx]))) (λx hx=>hsp x (by simp [hx]))) trodAll_mk0)));show DataW.TrodAll enc prog W' 0 sp true Tryz.f4.params.toList [_,_,_] [d0,d1,d2] (p0++(p1++p2));rw [Tryz.params4];simpa using this) (λ_ _=>rfl) Ag
  hb (ok_one (by kernel_rfl) rfl (okWide_bool_mk Tryz.underlying4 _))⟩
theorem holds:Rows.FnExactInhabitedSaid:=
 OpenClaim.holds_of_wide 4 Tryz.f4 rfl rfl rfl rfl rfl rfl rfl ⟨rfl,rfl,rfl,rfl,rfl⟩ rfl rfl rfl rfl rfl (by kernel_rfl) func4 (by kernel_rfl)
  (of_decide_eq_true (by kernel_rfl)) (by unfold Func.isWrapper; first | (rw [Av (by decide +kernel)]; kernel_rfl) | (rw [Aw (by decide +kernel)]; exact ⟨rfl, rfl⟩))
  (λos started H enc _ => aVi os started H enc)
end Go.Proofs.YtjlaenhcemacdaaGreat.lInhabited
