/-
 The statement FnExactUsableVarsSaid, proved.
-/
import Derived.Test.YtjlaenhcemacdaaGreatK30
open Go.Proofs.Tryz
namespace Go.Proofs.YtjlaenhcemacdaaGreat.lUsableVars
set_option maxHeartbeats 200000
set_option maxRecDepth 100000
open Go.ChangeShapes Go.WideShapes Go.ChangeAt Go.RowKit
set_option linter.unusedVariables false
set_option linter.unusedSimpArgs false
theorem own:ownKnob prog.godebug=none:=by kernel_rfl
theorem aFy:laidOutB prog=true:=by kernel_rfl
theorem aQm (os:Os)(started:os.Started)(H:Type)(enc:TypeId × Value→H) :
  ReturnsInHanded {} Tryz.checked os 3 .any (Rows.fnExactUsableVarsSpec.pre6 enc prog Tryz.f3 Rows.fnExactUsableVarsRow.domain false) (Rows.fnExactUsableVarsSpec.post enc prog Tryz.f3 false true false false):=by
 refine returnsInHanded_of_change (C:=Tryz.checked) own started (by kernel_rfl) func3
  (ChangeSpec.witness6 (enc := enc) (C := Tryz.checked) false ⟨#[], #[.slice none 0 0, .agg Zr], []⟩ 8 (by kernel_rfl) (by kernel_rfl) (by kernel_rfl) (by kernel_rfl)) ?_
 intro W base args ds gs before hval0 hW hcnd _;have hval:∀(j:Nat) t v,Tryz.f3.params[j]?=some t→args[j]?=some v→Value.okWide prog W .any base t v:=hval0;have hW':=hW;obtain ⟨p,q,hA0,hV,rfl,hfz,hnd⟩:=hW;have hA:DataW.TrodAll enc prog W 0 (fun _=>true) true Tryz.f3.params.toList args.toList ds p:=hA0;rw [Tryz.params3] at hA hval;obtain ⟨v0,vs0,d0,ds0,p0,q0,hargs0,rfl,rfl,h0,r0⟩:=trodAll_cons hA;obtain ⟨v1,vs1,d1,ds1,p1,q1,hargs1,rfl,rfl,h1,r1⟩:=trodAll_cons r0;obtain ⟨rfl,rfl,rfl⟩:=trodAll_nil r1;obtain rfl:args=#[v0,v1]:=by cases args;simp_all
 obtain ⟨rfl,rfl⟩:=trodVars_none hV;obtain ⟨ts0,B0,cb0,rfl,hl0,hr0⟩:=aIs (hval 0 22 v0 rfl rfl) h0;obtain ⟨k1,n1,ks1,A1,c1,rfl,hl1,hr1⟩:=aIq (hval 1 24 v1 rfl rfl) h1;clear hA0 hval0;simp only [List.append_nil] at hW' hfz
 have hlt:∀x∈p0++p1,x.block<W.heap.size:=fun x hx=>hW'.lt x hx
 refine (rV ts0 B0 cb0 k1 n1 ks1 A1 c1 W hl0 hr0 hl1 hr1).mono fun e W' ⟨he,hb⟩=>?_
 subst he;exact ⟨_,rfl,aEw (pa:=p0++p1) (pv:=[]) hW' (fun _ _ _=>(trodAll_cons_mk (shut_bool Tryz.underlying4 _) trodAll_mk0)) (fun sp hsp=>by
   have:=(trodAll_cons_mk (WideElems.Trod_stays (sp':=sp) aFy (by kernel_rfl) (of_decide_eq_true (by kernel_rfl)) h0 (fun x hx=>hb.same (hlt x (by simp [hx]))) (fun x hx=>hsp x (by simp [hx]))) (trodAll_cons_mk (WideElems.Trod_stays (sp':=sp) aFy (by kernel_rfl) (of_decide_eq_true (by kernel_rfl)) h1 (fun x hx=>hb.same (hlt x (by simp [hx]))) (fun x hx=>hsp x (by simp [hx]))) trodAll_mk0));show DataW.TrodAll enc prog W' 0 sp true Tryz.f3.params.toList [_,_] [d0,d1] (p0++p1)
   rw [Tryz.params3];simpa using this) (fun _ _=>rfl) (by simp)
  hb (ok_one (by kernel_rfl) rfl (okWide_bool_mk Tryz.underlying4 _))⟩
theorem holds:Rows.FnExactUsableVarsSaid:=
 OpenClaim.holds_of_wide 3 Tryz.f3 rfl rfl rfl rfl rfl rfl rfl ⟨rfl,rfl,rfl,rfl,rfl⟩ rfl rfl rfl rfl rfl (by kernel_rfl) func3 (by kernel_rfl)
  (of_decide_eq_true (by kernel_rfl)) (by unfold Func.isWrapper; first | (rw [if_pos (by decide +kernel)]; kernel_rfl) | (rw [if_neg (by decide +kernel)]; exact ⟨rfl, rfl⟩))
  (fun os started H enc _ => aQm os started H enc)
end Go.Proofs.YtjlaenhcemacdaaGreat.lUsableVars
