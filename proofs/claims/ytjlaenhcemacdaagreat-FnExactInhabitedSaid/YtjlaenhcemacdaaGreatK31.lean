/- Parts of the proof. No condition. -/
import Derived.Test.YtjlaenhcemacdaaGreatK28
import Derived.Test.YtjlaenhcemacdaaGreatK32
open Go.Proofs.Tryz
namespace Go.Proofs.YtjlaenhcemacdaaGreat
open Go.RowKit
set_option maxHeartbeats 16000000
set_option maxRecDepth 100000
set_option linter.unusedSimpArgs false
set_option linter.unusedVariables false
theorem aNe (k n:Int)(ks:List Tm)(A:Ba)(c:Nat)(ku nu:Int)(us:List Tm)(B:Ba)(cb:Nat)(w:Bb)(hv:aE (.mk k n ks)=true)(hu:aE (.mk ku nu us)=true)(hr:Rd w A 0 ks)(hru:Rd w B 0 us) :
  Calls prog 95 #[(.agg (Ro k n A ks.length c)),.int .i64 0,.agg (Ro ku nu B us.length cb)] w (pF w (fJ 0 (.mk ku nu us) (.mk k n ks))):=
 fE k n ks A c 0 ku nu us B cb w ⟨by omega,by omega⟩ (aY hu) (by have:=aH hu;omega) hru (by have:=aH hv;omega) (aY hv) hr
theorem aRv {d:Nat}{ctx:List Tm}{t:Tm}(h:aE t=false):dZ d ctx t=[]:=by
 cases d with
 | zero=>rfl
 | succ d=>rw [dZ,Aw (λe=>by rw [h] at e;cases e.2)]
theorem aRy (d:Nat)(ihF:aAc d)(hd3:d<=10)(dd:Int)(hdd:dd=(d:Int)+1)(ctx:List Tm)(C:Ba)(cc:Nat)(hG:SemG ctx)(hvc:∀u,u∈ctx->aE u=true)(hm:ctx.length<=8)(n:Int)(ka na:Int)(sa:List Tm)(kb nb:Int)(sb:List Tm)(A:Ba)(c:Nat)(p:Nat->Prop)(w:Bb)(hp:∀b,p b->b<w.heap.size)(hva:aE (.mk ka na sa)=true)(hvb:aE (.mk kb nb sb)=true)(hw1:SemW ctx (.mk ka na sa))(hw3:∀x,HasT ctx (.mk ka na sa) x->SemW ctx (bT x 0 0 (.mk kb nb sb)))(hrc:Rd w C 0 ctx)(hr:RdP p w A 0 [.mk ka na sa,.mk kb nb sb]) :
  Calls prog 61 #[.slice C ctx.length cc,.agg (Ro 13 n A 2 c),.int .i64 dd] w (kX p w (jF (λx=>(dZ d ctx (bT x 0 0 (.mk kb nb sb))).map λy=>.mk 14 0 [.mk 13 n [.mk ka na sa,.mk kb nb sb],x,y]) [] (dZ d ctx (.mk ka na sa)))):=by
 obtain ⟨bk,ok,x1,x2,x3,Aa,ca,rfl,hk1,a1,a2,a3,hla,ra⟩:=hr.at_ (j:=0) Ag;injection hk1 with e1 e2 e3;subst e1 e2 e3;obtain ⟨bb,ob,x1,x2,x3,Ab,cb,hAb,hk1,b1,b2,b3,hlb,rb⟩:=hr.at_ (j:=1) Ag;injection hk1 with e1 e2 e3;injection hAb with hA;injection hA with hA1 hA2;subst e1 e2 e3 hA1 hA2;simp only [Nat.zero_mul,Nat.add_zero,Nat.one_mul,Nat.reduceMul] at a1 a2 a3 b1 b2 b3;have lbp:=kF _ _ a1;have hza:=aH hva;have hzb:=aH hvb;have hFi:=aD (λ(w:Bb) (hrc:Rd w C 0 ctx) (hra:Rd w Aa 0 sa)=>ihF ctx C cc ka na sa Aa ca w hG hvc Ac hw1 Ac hrc hra);replace ihF:=aD (λ(ctx':List Tm) (C:Ba) (cc:Nat) (k n:Int) (ks:List Tm) (A:Ba) (c:Nat) (w:Bb)=>ihF ctx C cc k n ks A c w hG hvc Ac);have hAL:=gX d ctx (.mk ka na sa);have hAH:=aD (λ(t:Tm) (h:t∈dZ d ctx (.mk ka na sa))=>mE h);generalize dZ d ctx (.mk ka na sa)=AR at hFi hAL hAH⊢;obtain ⟨R,hR⟩:∃R,jF (λx=>(dZ d ctx (bT x 0 0 (.mk kb nb sb))).map λy=>Tm.mk 14 0 [.mk 13 n [.mk ka na sa,.mk kb nb sb],x,y]) [] AR=R:=⟨_,rfl⟩;rw [hR];replace hR:=aD hR;replace hw3:=aD hw3;replace hvb:=aD hvb;have k3:IntKind.i64.wrap (dd - 1)=(d:Int):=by rw [IntWalk.i64_in _ Ac];omega
 have k4:wrap64 (dd - 1)=(d:Int):=by rw [IntWalk.wrap64_in _ Ac];omega
 clear hva hw1 hG hvc hdd;go_enter func61,ntmps61;go_wp2_with (go_at_call 37;refine (hFi.out _ (hrc.alloc _) (ra.rd.alloc _)).mono ?_;rintro e wy ⟨L2,c2',rfl,fL2,hby⟩;have hX:Blk wy w.heap.size (Ro 13 n (some ⟨bk,ok,none⟩) 2 c):=(aC w 32 (Ro 13 n (some ⟨bk,ok,none⟩) 2 c) rfl).keep hby;have g2:Bw w wy:=bN bw1 hby);have s2:=hX.lt;have rA2:RdP (λb=>p b\/(w.heap.size<=b/\b<wy.heap.size)) wy L2 0 AR:=fL2.rd'.lt_.mono λb hb=>.inr ⟨by have:=hb.1;simp at this;omega,hb.2⟩
 have hql:∀b,(λb=>p b\/(w.heap.size<=b/\b<wy.heap.size)) b->b<wy.heap.size:=λb hb=>hb.elim (λh=>vM (hp b h) g2.size) (λh=>h.2)
 have hP:PartR (λb=>p b\/(w.heap.size<=b/\b<wy.heap.size)) wy.heap.size wy (.slice none 0 0) []:=PartR.nil;go_loopw [7,85] (λs i wr=>∃(j:Nat) (out:List Tm) (L:Ba) (cl:Nat),j<=AR.length/\i = .int .i64 j/\s = .slice L out.length cl/\out.length<12/\PartR (λb=>p b\/(w.heap.size<=b/\b<wy.heap.size)) wy.heap.size wr (.slice L out.length cl) out/\Hid (jF (λx=>(dZ d ctx (bT x 0 0 (.mk kb nb sb))).map λy=>.mk 14 0 [.mk 13 n [.mk ka na sa,.mk kb nb sb],x,y]) out (AR.drop j)=R)/\Bw wy wr)
  (λ_ i _ => AR.length - (intOf i).toNat)
 case atStart=>exact ⟨0,[],none,0,Nat.zero_le _,rfl,rfl,by simp,hP,hR,eI _ _⟩
 case round=>
  clear hP hR;obtain ⟨j,out,L,cl,hj,rfl,rfl,ho,hP,hR,hbr⟩:=hrel;have hgr:Bw w wr:=g2.trans (hbr.mono g2.size);have szr:wy.heap.size<=wr.heap.size:=hbr.size;by_cases hlt:j<AR.length;rotate_left
  ·have hje:j=AR.length:=by omega
   have q1:¬((j:Int)<(AR.length:Int)):=by omega
   have q2:decide (j<AR.length)=false:=decide_eq_false hlt;go_wp2_with fail;go_ret;have e:out=R:=by have:=hR.out;rwa [hje,List.drop_length,jF] at this
   subst e;exact ⟨L,cl,rfl,hP.gotQ (λb hb=>hb.elim (λh=>h.imp id λh=>h.1) λh=>.inr Ac),hgr⟩
  have q1:(j:Int)<(AR.length:Int):=by omega
  have q2:decide (j<AR.length)=true:=decide_eq_true hlt;have hRn:=hR.out;rw [List.drop_eq_getElem_cons hlt,vT ho] at hRn;have hx:=hAH.out _ (gM hlt);have rA:=rA2.blocks (w':=wr) (λb hb _=>hbr.block b (hql b hb));obtain ⟨kx,nx,sx,hxj⟩:∃kx nx sx,AR[j] = .mk kx nx sx:=by cases AR[j] with|mk a b l=>exact ⟨a,b,l,rfl⟩
  obtain ⟨bx,ox,Ax,cx,hLx,x1,x2,x3,hlx,rx⟩:=kC rA hlt hxj;rw [hxj] at hx hRn;subst hLx;have hvx:=hx.valid;have hSb:=λ(w:Bb) (A:Ba) (c:Nat) (B:Ba) (cb:Nat) (hr:Rd w A 0 sb) (hru:Rd w B 0 sx)=>aNe kb nb sb A c kx nx sx B cb w hvb.out hvx hr hru
  change jF _ (out++(dZ d ctx (bT (.mk kx nx sx) 0 0 (.mk kb nb sb))).map λy=>.mk 14 0 [.mk 13 n [.mk ka na sa,.mk kb nb sb],.mk kx nx sx,y]) _=R at hRn;have hXr:=hX.keep hbr;have lbx:=kF _ _ x1;cases hvs:aE (bT (.mk kx nx sx) 0 0 (.mk kb nb sb)) with
  | false=>
   rw [uR hvx hvb.out hvs] at hSb;replace hSb:=aD hSb;rw [aRv hvs,List.map_nil,List.append_nil] at hRn;replace hRn:=aD hRn;clear hx hxj hR hvx hvs;go_upto_region 18 with fail
   refine aRj (show Blk _ wr.heap.size (Ro kx nx Ax sx.length cx) from (aC _ 32 _ rfl)) ?_;intro wv hTv hwv;have bv':Bw wr wv:=by rw [hwv];exact bw1
   have swv:wr.heap.size+1<=wv.heap.size:=by rw [hwv];simp
   clear hwv;have hXv:=hXr.keep bv';have gv:=hgr.trans (bv'.mono hgr.size);obtain ⟨v0,v1,v2⟩:=fW hXv;obtain ⟨t0,t1,t2'⟩:=fW hTv;obtain ⟨ub1,ub2,ub3⟩:=fR gv b1 b2 b3;go_cut [12,13] (λv12 v13 wz=>∃W:Bb,W=wz/\v13 = .bool false/\Bw wv wz)
   case first=>
    refine eK wv [6,7,8,10,11] [0,1,2,3,4] 12 7 (lT:=[_,_,_,_,_]) ?_;intro q0 bq0;refine bU (aD ?_);refine mW 5 9 ?_ ?_
    ·go_wp2_with (go_at_call 95;refine (hSb.out _ Ab cb Ax cx ((rb.rd.below gv).below bq0) ((rx.rd.below bv').below bq0)).mono ?_;intro e q1 hgo;obtain ⟨rfl,hbq1⟩:=dS hgo;clear hgo);refine aV bq0 hbq1 ?_;intro bq1 lq1;refine fB [6,7,8] 3 (lT:=[_,_,_]) ?_;refine bU (aD ?_);refine aZ 9 ?_
     ·go_wp2_with fail;refine aL ?_;intro q2 hn;have hbq2:Bw q1 q2:=by rw [hn];exact bw1
      have zq2:Blk q2 q1.heap.size Zr:=by rw [hn];exact aC _ 32 _ rfl
      have seq2:q1.heap.size<q2.heap.size:=by rw [hn];simp
      clear hn;refine aV bq1 hbq2 ?_;intro bq2 lq2;refine cK [10,11] (lB:=[_,_]) ?_;refine gS (aD ?_);obtain ⟨d0,d1,d2,e0,e1,e2⟩:=bZ zq2;have szb:wv.heap.size<=q1.heap.size:=bq1.size;go_wp2_with fail;go_meet
      exact ⟨_,rfl,rfl,((bq2.setCell szb _).setCell szb _).setCell szb _⟩
    ·go_wp2_with fail;refine aL ?_;intro q3 hn;have hbq3:Bw q0 q3:=by rw [hn];exact bw1
     have zq3:Blk q3 q0.heap.size Zr:=by rw [hn];exact aC _ 32 _ rfl
     have seq3:q0.heap.size<q3.heap.size:=by rw [hn];simp
     clear hn;refine aV bq0 hbq3 ?_;intro bq3 lq3;refine aZ 5 ?_
     ·go_wp2_with (go_at_call 95;refine (hSb.out _ Ab cb Ax cx ((rb.rd.below gv).below bq3) ((rx.rd.below bv').below bq3)).mono ?_;intro e q4 hgo;obtain ⟨rfl,hbq4⟩:=dS hgo;clear hgo);have Zq4:=zq3.keep hbq4;refine aV bq3 hbq4 ?_;intro bq4 lq4;refine fB [6,7,8] 2 (lT:=[_,_,_]) ?_;refine bU (aD ?_);refine cK [10,11] (lB:=[_,_]) ?_;refine gS (aD ?_);obtain ⟨d0,d1,d2,e0,e1,e2⟩:=bZ Zq4;have szb:wv.heap.size<=q0.heap.size:=bq0.size;go_wp2_with fail;go_meet
      exact ⟨_,rfl,rfl,((bq4.setCell szb _).setCell szb _).setCell szb _⟩
   case rest=>
    obtain ⟨wz,rfl,rfl,hvz⟩:=hcut;have q3:¬(12:Int)<=(out.length:Int):=by omega
    have q4:decide (12<=out.length)=false:=decide_eq_false Ac;have hPz:=(hP.below bv').below hvz;have gx4:=hbr.trans ((bv'.mono szr).trans (hvz.mono Ac));go_wp2_with fail;go_roundw
    case rel=>exact ⟨j+1,out,L,cl,by omega,by go_num,rfl,ho,hPz,hRn,gx4⟩
    case measure=>simp [intOf];omega
  | true=>
   rw [rZ hvx hvb.out hvs] at hSb;obtain ⟨k2,n2,t2,hsb⟩:=gQ (bT (.mk kx nx sx) 0 0 (.mk kb nb sb));rw [hsb] at hSb hvs hRn;replace hSb:=aD hSb;have hz2:=aH hvs;have hF2:=aD (λ(w:Bb) (A:Ba) (c:Nat) (hrc:Rd w C 0 ctx) (hr:Rd w A 0 t2)=>ihF.out ctx C cc k2 n2 t2 A c w (by rw [<- hsb];exact hw3.out _ hx) Ac hrc hr);have hBL:=gX d ctx (.mk k2 n2 t2);generalize dZ d ctx (.mk k2 n2 t2)=BR at hRn hF2 hBL;replace hRn:=aD hRn;clear hx hxj hR hvx hsb;go_upto_region 18 with fail
   refine aRj (show Blk _ wr.heap.size (Ro kx nx Ax sx.length cx) from (aC _ 32 _ rfl)) ?_;intro wv hTv hwv;have bv':Bw wr wv:=by rw [hwv];exact bw1
   have swv:wr.heap.size+1<=wv.heap.size:=by rw [hwv];simp
   clear hwv;have hXv:=hXr.keep bv';have gv:=hgr.trans (bv'.mono hgr.size);obtain ⟨v0,v1,v2⟩:=fW hXv;obtain ⟨t0,t1,t2'⟩:=fW hTv;obtain ⟨ub1,ub2,ub3⟩:=fR gv b1 b2 b3;go_cut [12,13] (λv12 v13 wz=>∃(gz:Nat) (A2:Ba) (c2:Nat) (W:Bb),W=wz/\v12 = .pointer (some ⟨gz,0,none⟩)/\v13 = .bool true/\t2.length<=9223372036854775807/\Blk wz gz (Ro k2 n2 A2 t2.length c2)/\Rd wz A2 0 t2/\Bw wv wz/\wv.heap.size<=gz)
   case first=>
    refine eK wv [6,7,8,10,11] [0,1,2,3,4] 12 7 (lT:=[_,_,_,_,_]) ?_;intro q0 bq0;refine bU (aD ?_);refine mW 5 9 ?_ ?_
    ·go_wp2_with (go_at_call 95;refine (hSb.out _ Ab cb Ax cx ((rb.rd.below gv).below bq0) ((rx.rd.below bv').below bq0)).mono ?_;intro e q1 hgo;obtain ⟨A2,c2,rfl,hl2,hf2,hbq1⟩:=cS hgo;clear hgo;have r9q1:=hf2.rd);refine aV bq0 hbq1 ?_;intro bq1 lq1;refine fB [6,7,8] 3 (lT:=[_,_,_]) ?_;refine bU (aD ?_);refine aZ 9 ?_
     ·go_wp2_with fail;refine aL ?_;intro q2 hn;have hbq2:Bw q1 q2:=by rw [hn];exact bw1
      have zq2:Blk q2 q1.heap.size Zr:=by rw [hn];exact aC _ 32 _ rfl
      have seq2:q1.heap.size<q2.heap.size:=by rw [hn];simp
      clear hn;have Dq2:=r9q1.below hbq2;refine aV bq1 hbq2 ?_;intro bq2 lq2;refine cK [10,11] (lB:=[_,_]) ?_;refine gS (aD ?_);obtain ⟨d0,d1,d2,e0,e1,e2⟩:=bZ zq2;have szb:wv.heap.size<=q1.heap.size:=bq1.size;go_wp2_with fail;go_meet
      exact ⟨q1.heap.size,A2,c2,_,rfl,rfl,rfl,hl2,(((zq2).set_ 0 _).set_ 1 _).set_ 2 _,bS zq2 hvs Dq2 _ _ _,((bq2.setCell szb _).setCell szb _).setCell szb _,szb⟩
    ·go_wp2_with fail;refine aL ?_;intro q3 hn;have hbq3:Bw q0 q3:=by rw [hn];exact bw1
     have zq3:Blk q3 q0.heap.size Zr:=by rw [hn];exact aC _ 32 _ rfl
     have seq3:q0.heap.size<q3.heap.size:=by rw [hn];simp
     clear hn;refine aV bq0 hbq3 ?_;intro bq3 lq3;refine aZ 5 ?_
     ·go_wp2_with (go_at_call 95;refine (hSb.out _ Ab cb Ax cx ((rb.rd.below gv).below bq3) ((rx.rd.below bv').below bq3)).mono ?_;intro e q4 hgo;obtain ⟨A2,c2,rfl,hl2,hf2,hbq4⟩:=cS hgo;clear hgo;have r9q4:=hf2.rd);have Zq4:=zq3.keep hbq4;refine aV bq3 hbq4 ?_;intro bq4 lq4;refine fB [6,7,8] 2 (lT:=[_,_,_]) ?_;refine bU (aD ?_);refine cK [10,11] (lB:=[_,_]) ?_;refine gS (aD ?_);obtain ⟨d0,d1,d2,e0,e1,e2⟩:=bZ Zq4;have szb:wv.heap.size<=q0.heap.size:=bq0.size;go_wp2_with fail;go_meet
      exact ⟨q0.heap.size,A2,c2,_,rfl,rfl,rfl,hl2,(((Zq4).set_ 0 _).set_ 1 _).set_ 2 _,bS Zq4 hvs r9q4 _ _ _,((bq4.setCell szb _).setCell szb _).setCell szb _,szb⟩
   case rest=>
    obtain ⟨gz,A2,c2,wz,rfl,rfl,rfl,hl2,hGz,rTz,hvz,hgz⟩:=hcut;clear v0 v1 v2 t0 t1 t2' ub1 ub2 ub3;obtain ⟨d0,d1,d2⟩:=hGz.three;have gz':=gv.trans (hvz.mono gv.size);go_wp2_with (go_at_call 37;refine (hF2.out _ A2 c2 (hrc.below gz') rTz).mono ?_;rintro e wu ⟨L3,c3,rfl,fL3,hbu⟩);have szz:=hvz.size;have szu:=hbu.size;have hvu:=hvz.trans (hbu.mono szz);have gu:=gv.trans (hvu.mono gv.size);have hPu:=(hP.below bv').below hvu;have hXu:=hXv.keep hvu;have hTu:=hTv.keep hvu;have rB:RdP (λb=>wv.heap.size<=b/\b<wu.heap.size) wu L3 0 BR:=fL3.rd'.lt_.mono λb hb=>⟨Nat.le_trans szz hb.1,hb.2⟩
    have hyu:Bw wy wu:=hbr.trans ((bv'.mono szr).trans (hvu.mono Ac));obtain ⟨wo,rfl⟩:∃wo,wo=wr:=⟨wr,rfl⟩;have ow:=aD (show ∀b,wo.heap.size<=b->b<wu.heap.size->(Value.slice L out.length cl).ownBlock≠some b from λb h1 _ e=>by have:=hP.ownL b e;omega);have hXw:=hX;clear d0 d1 d2 hGz rTz fL3;go_loopw [7,105] (λs i wr=>∃(m:Nat) (ou:List Tm) (L:Ba) (cl:Nat),m<=BR.length/\i = .int .i64 m/\s = .slice L ou.length cl/\ou.length<=11+m/\PartR (λb=>p b\/(w.heap.size<=b/\b<wy.heap.size)) wy.heap.size wr (.slice L ou.length cl) ou/\RdP (λb=>wv.heap.size<=b/\b<wu.heap.size) wr L3 0 BR/\Blk wr wo.heap.size (Ro kx nx Ax sx.length cx)/\Hid (∀b,wo.heap.size<=b->b<wu.heap.size->(Value.slice L ou.length cl).ownBlock≠some b)/\Hid (ou=out++(BR.take m).map λy=>.mk 14 0 [.mk 13 n [.mk ka na sa,.mk kb nb sb],.mk kx nx sx,y])/\Below wy.heap.size wu wr)
     (λ_ i _=>BR.length - (intOf i).toNat)
    case atStart=>exact ⟨0,out,L,cl,Nat.zero_le _,rfl,rfl,by omega,hPu,rB,hTu,ow,aD Ag,eI _ _⟩
    case round=>
     clear hPu rB hTu ow hP rA;obtain ⟨wq,rfl⟩:∃wq,wq=wr:=⟨wr,rfl⟩;obtain ⟨m,ou,L,cl,hm2,rfl,rfl,hol2,hP,rB,hT,ow,hO,hbq⟩:=hrel;have hgq:Bw w wq:=bN gu hbq;have szq:wu.heap.size<=wq.heap.size:=hbq.size;by_cases hlt2:m<BR.length;rotate_left
     ·have hje:m=BR.length:=by omega
      have q4:¬((m:Int)<(BR.length:Int)):=by omega
      have q5:decide (m<BR.length)=false:=decide_eq_false hlt2;have hO2:=aD (show ou=out++BR.map λy=>Tm.mk 14 0 [.mk 13 n [.mk ka na sa,.mk kb nb sb],.mk kx nx sx,y] by have:=hO.out;rwa [hje,List.take_length] at this);have hRo:=aD (show jF (λx=>(dZ d ctx (bT x 0 0 (.mk kb nb sb))).map λy=>.mk 14 0 [.mk 13 n [.mk ka na sa,.mk kb nb sb],x,y]) ou (AR.drop (j+1))=R by rw [hO2.out];exact hRn.out);have gq:=hyu.trans hbq;clear hO hO2;by_cases h12:12<=ou.length
      ·have q6:(12:Int)<=(ou.length:Int):=by omega
       have q7:decide (12<=ou.length)=true:=decide_eq_true h12;go_wp2_with fail;go_ret;have e:ou=R:=by have:=hRo.out;rwa [qQ h12] at this
       subst e;exact ⟨L,cl,rfl,hP.gotQ (λb hb=>hb.elim (λh=>h.imp id λh=>h.1) λh=>.inr Ac),hgq⟩
      ·have q6:¬(12:Int)<=(ou.length:Int):=by omega
       have q7:decide (12<=ou.length)=false:=decide_eq_false h12;go_wp2_with fail;go_roundw
       case rel=>exact ⟨j+1,ou,L,cl,by omega,by go_num,rfl,by omega,hP,hRo,gq⟩
       case measure=>simp [intOf];omega
     have q4:(m:Int)<(BR.length:Int):=by omega
     have q5:decide (m<BR.length)=true:=decide_eq_true hlt2;obtain ⟨ky,ny,sy,hyj⟩:∃ky ny sy,BR[m] = .mk ky ny sy:=by cases BR[m] with|mk a b l=>exact ⟨a,b,l,rfl⟩
     obtain ⟨by_,oy,Ay,cy,hLy,y1,y2,y3,hly,ry⟩:=kC rB hlt2 hyj;subst hLy;have hO2:=aD (aAw (f:=λy=>Tm.mk 14 0 [.mk 13 n [.mk ka na sa,.mk kb nb sb],.mk kx nx sx,y]) hlt2 hyj hO.out);clear hO hyj;have lby:=kF _ _ y1;go_upto_region 23 with fail
     refine aRb (show Blk _ wq.heap.size (Ro ky ny Ay sy.length cy) from (aC _ 32 _ rfl)) bw1 ?_;intro wb hYb bb hwb;have szb:wq.heap.size+1<=wb.heap.size:=by rw [hwb];simp
     clear hwb;have hTb:=hT.keep bb;have hXb:=(hXu.below hbq s2).keep bb;have gb:=hgq.trans (bb.mono hgq.size);have hoq:Below wy.heap.size wo wq:=(bv'.mono szr).trans ((hvu.mono Ac).trans hbq);have rxb:=(rx.blocks (w':=wq) (λb hb _=>hoq.block b (hql b hb))).below bb;have ryb:=ry.below bb;obtain ⟨v0,v1,v2⟩:=hXb.three;obtain ⟨t0,t1,t2'⟩:=hTb.three;obtain ⟨u0,u1,u2⟩:=hYb.three;have tok0:=trivial;go_wp2_with (first
      | (at_builtin;have _t:=tok1;refine bP (lo:=(λb=>p b\/(w.heap.size<=b/\b<wy.heap.size))) (B:=wy.heap.size) (k:=14) (n:=0) (ks:=[.mk 13 n [.mk ka na sa,.mk kb nb sb],.mk kx nx sx,.mk ky ny sy]) (m:=ou.length) hP6 Ai rN6.lt_ (λb hb=>hPB.out b hb.1 hb.2) Ag rfl Ac _ _ (aC w5 32 (Ro 14 0 (some ⟨wb.heap.size,0,none⟩) 3 3) rfl) rfl _ _ rfl rfl rfl ?_;intro L8 c8 w8 hP8 hb8 hg8 hn8;clear tok1)
      | (go_at_call 71;have _t:=tok0;refine (aQ 14 (.slice (some ⟨wb.heap.size,0,none⟩) 3 3) ⟨_,_,_,rfl⟩ _).mono ?_;rintro e w5 ⟨rfl,hb5⟩;have hZ5:=(aC wb 32 #[.int .i64 13,.int .i64 n,.slice (some ⟨bk,ok,none⟩) 2 c,.int .i64 kx,.int .i64 nx,.slice Ax sx.length cx,.int .i64 ky,.int .i64 ny,.slice Ay sy.length cy] rfl).keep hb5;have s5:=hb5.size;simp at s5;have rN6:RdP (λb=>(p b\/(w.heap.size<=b/\b<wy.heap.size))\/(wo.heap.size<=b/\b<wu.heap.size)\/wq.heap.size<=b) (w5.alloc (.cells (Ro 14 0 (some ⟨wb.heap.size,0,none⟩) 3 3) 32)) (some ⟨wb.heap.size,0,none⟩) 0 [.mk 13 n [.mk ka na sa,.mk kb nb sb],.mk kx nx sx,.mk ky ny sy]:=(aUd (s0:=[.mk ka na sa,.mk kb nb sb]) hZ5 (.inr (.inr Ac)) Ag ((((hr.below gb).alloc (.cells #[.int .i64 13,.int .i64 n,.slice (some ⟨bk,ok,none⟩) 2 c,.int .i64 kx,.int .i64 nx,.slice Ax sx.length cx,.int .i64 ky,.int .i64 ny,.slice Ay sy.length cy] 32)).below hb5).mono λb hb=>.inl (.inl hb)) hlx (((rxb.alloc (.cells #[.int .i64 13,.int .i64 n,.slice (some ⟨bk,ok,none⟩) 2 c,.int .i64 kx,.int .i64 nx,.slice Ax sx.length cx,.int .i64 ky,.int .i64 ny,.slice Ay sy.length cy] 32)).below hb5).mono λb hb=>.inl hb) hly (((ryb.alloc (.cells #[.int .i64 13,.int .i64 n,.slice (some ⟨bk,ok,none⟩) 2 c,.int .i64 kx,.int .i64 nx,.slice Ax sx.length cx,.int .i64 ky,.int .i64 ny,.slice Ay sy.length cy] 32)).below hb5).mono λb hb=>.inr (.inl ⟨by have:=hb.1;omega,hb.2⟩))).alloc _;have hP6:=(((hP.below bb).alloc (.cells #[.int .i64 13,.int .i64 n,.slice (some ⟨bk,ok,none⟩) 2 c,.int .i64 kx,.int .i64 nx,.slice Ax sx.length cx,.int .i64 ky,.int .i64 ny,.slice Ay sy.length cy] 32)).below hb5).alloc (.cells (Ro 14 0 (some ⟨wb.heap.size,0,none⟩) 3 3) 32);have rB6:=(((rB.below bb).alloc (.cells #[.int .i64 13,.int .i64 n,.slice (some ⟨bk,ok,none⟩) 2 c,.int .i64 kx,.int .i64 nx,.slice Ax sx.length cx,.int .i64 ky,.int .i64 ny,.slice Ay sy.length cy] 32)).below hb5).alloc (.cells (Ro 14 0 (some ⟨wb.heap.size,0,none⟩) 3 3) 32);have hT6:=((hTb.alloc (.cells #[.int .i64 13,.int .i64 n,.slice (some ⟨bk,ok,none⟩) 2 c,.int .i64 kx,.int .i64 nx,.slice Ax sx.length cx,.int .i64 ky,.int .i64 ny,.slice Ay sy.length cy] 32)).keep hb5).alloc (.cells (Ro 14 0 (some ⟨wb.heap.size,0,none⟩) 3 3) 32);have b6:Bw wq (w5.alloc (.cells (Ro 14 0 (some ⟨wb.heap.size,0,none⟩) 3 3) 32)):=((bb.alloc bb.size (.cells #[.int .i64 13,.int .i64 n,.slice (some ⟨bk,ok,none⟩) 2 c,.int .i64 kx,.int .i64 nx,.slice Ax sx.length cx,.int .i64 ky,.int .i64 ny,.slice Ay sy.length cy] 32)).trans (hb5.mono Ai)).alloc Ac _;have hPB:=aD (show ∀b,(λb=>(p b\/(w.heap.size<=b/\b<wy.heap.size))\/(wo.heap.size<=b/\b<wu.heap.size)\/wq.heap.size<=b) b->b<(w5.alloc (.cells (Ro 14 0 (some ⟨wb.heap.size,0,none⟩) 3 3) 32)).heap.size->PB (λb=>p b\/(w.heap.size<=b/\b<wy.heap.size)) wy.heap.size (w5.alloc (.cells (Ro 14 0 (some ⟨wb.heap.size,0,none⟩) 3 3) 32)) (.slice L ou.length cl) b from λb h1 h2=>h1.elim (λh=>⟨.inl h,h2,λe=>by have:=hP.ownB b e;have:=hql b h;omega⟩) (λh=>h.elim (λh=>⟨.inr Ac,h2,ow.out b h.1 h.2⟩) (λh=>⟨.inr Ac,h2,λe=>by have:=hP.ownL b e;omega⟩)));clear tok0;have tok1:=trivial))
     have hl8:(ou++[Tm.mk 14 0 [.mk 13 n [.mk ka na sa,.mk kb nb sb],.mk kx nx sx,.mk ky ny sy]]).length=ou.length+1:=by simp
     have rB8:=rB6.grown hg8 (λb hb e=>ow.out b (by have:=hb.1;omega) hb.2 e.symm);have hT8:=hT6.grown hg8 (λe=>ow.out wo.heap.size (mC _) Ac e.symm);have ow8:=aD (show ∀b,wo.heap.size<=b->b<wu.heap.size->(Value.slice L8 (ou.length+1) c8).ownBlock≠some b from λb h1 h2=>hn8 b Ai (ow.out b h1 h2));have gx8:=hbq.trans ((b6.mono Ac).trans hb8);go_roundw
     case rel=>exact ⟨m+1,_,L8,c8,by omega,by go_num,by rw [hl8],by rw [hl8];omega,by rw [hl8];exact hP8,rB8,hT8,by rw [hl8];exact ow8,hO2,gx8⟩
     case measure=>simp [intOf];omega
theorem aQi (d:Nat)(ihF:aAc d)(hd3:d<=10)(dd:Int)(hdd:dd=(d:Int)+1)(ctx:List Tm)(C:Ba)(cc:Nat)(hG:SemG ctx)(hvc:∀u,u∈ctx->aE u=true)(hm:ctx.length<=8)(k n:Int)(ks:List Tm)(A:Ba)(c:Nat)(p:Nat->Prop)(w:Bb)(hp:∀b,p b->b<w.heap.size)(hv:aE (.mk k n ks)=true)(hok:aUx ctx (.mk k n ks))(hrc:Rd w C 0 ctx)(hr:RdP p w A 0 ks) :
  Calls prog 61 #[.slice C ctx.length cc,.agg (Ro k n A ks.length c),.int .i64 dd] w (kX p w (nJ (dZ d) ctx (.mk k n ks))):=by
 by_cases h6:k=6
 ·subst h6;exact aUi ctx C cc n dd ks A c p w
 by_cases h10:k=10
 ·subst h10;obtain ⟨k0,x,y,rfl⟩:=gA (l:=ks) (by have:=(bD hv).1;have h3:aX 10=3:=rfl;omega);obtain ⟨kx,nx,sx⟩:=x;obtain ⟨ky,ny,sy⟩:=y;exact aSa ctx C cc n dd k0 kx nx sx ky ny sy A c p w hp (aP hv (t:=.mk kx nx sx) Ag) (aP hv (t:=.mk ky ny sy) Ag) hr
 by_cases h3:k=3
 ·subst h3;obtain ⟨k',n',ka,na,sa,kb,nb,sb,e,hva,hvb⟩:=tD hv (.inl rfl);injection e with e1 e2 e3;subst e1 e2 e3;obtain ⟨h1,h2,_⟩:=hok (.inl rfl);exact aUf d ihF hd3 dd hdd ctx C cc hG hvc hm n ka na sa kb nb sb A c p w hp hva hvb h1 h2 hrc hr
 by_cases h13:k=13
 ·subst h13;obtain ⟨k',n',ka,na,sa,kb,nb,sb,e,hva,hvb⟩:=tD hv (.inr rfl);injection e with e1 e2 e3;subst e1 e2 e3;obtain ⟨h1,_,h2⟩:=hok (.inr rfl);exact aRy d ihF hd3 dd hdd ctx C cc hG hvc hm n ka na sa kb nb sb A c p w hp hva hvb h1 h2 hrc hr
 have e:nJ (dZ d) ctx (.mk k n ks)=[]:=by
  unfold nJ;rw [Aw (show ¬(Tm.mk k n ks).k=6 from h6),Aw (show ¬(Tm.mk k n ks).k=10 from h10),Aw (show ¬(Tm.mk k n ks).k=3 from h3),Aw (show ¬(Tm.mk k n ks).k=13 from h13)]
 rw [e];exact aMa ctx C cc k n dd ks A c p w h6 h10 h3 h13
theorem aEs {want:Tm}:∀{m:Nat} {t:Tm} {l:List Tm},yl want m t=some l->∀x,x∈l->aE x=true
 | 0,t,l,h=>by cases h
 | m+1,t,l,h=>by
  obtain ⟨m',hd,e,hv,hh,hc⟩:=aHq h;obtain rfl:=Nat.succ.inj e;rcases hc with ⟨_,rfl⟩|⟨hk,_,l',h',rfl⟩
  ·intro x hx;cases hx
  ·intro x hx;rcases List.mem_cons.1 hx with rfl|hx
   ·obtain ⟨n,ka,na,sa,kb,nb,sb,rfl,hva,_⟩:=xO hh hk;exact hva
   ·exact aEs h' x hx
theorem aJo (ctx:List Tm)(C:Ba)(cc:Nat)(k n:Int)(ks:List Tm)(A:Ba)(c:Nat)(dd:Int)(w:Bb)(hz:aG ks<=1000000)(hm:ctx.length<=9)(hn:dd=0\/8<ctx.length\/aE (.mk k n ks)=false)(hr:Rd w A 0 ks) :
  Calls prog 37 #[.slice C ctx.length cc,.agg (Ro k n A ks.length c),.int .i64 dd] w (yE w []):=by
 by_cases h1:dd=0
 ·subst h1;go_enter func37,ntmps37;go_wp2_with fail;go_ret;exact ⟨none,0,rfl,Fresh.nil,bw1⟩
 have q1:(dd==0)=false:=by simpa using h1
 by_cases h2:8<ctx.length
 ·have q2:(8:Int)<(ctx.length:Int):=by omega
  have q3:decide (8<ctx.length)=true:=decide_eq_true h2;go_enter func37,ntmps37;go_wp2_with fail;go_ret;exact ⟨none,0,rfl,Fresh.nil,bw1⟩
 have q2:¬(8:Int)<(ctx.length:Int):=by omega
 have q3:decide (8<ctx.length)=false:=decide_eq_false h2;have hv:aE (.mk k n ks)=false:=by rcases hn with h|h|h;exact absurd h h1;exact absurd h h2;exact h
 have hT:=aD (λ(w:Bb) (hra:Rd w A 0 ks)=>bB k n ks A c w Ac hra);rw [hv] at hT;clear hv hn;go_enter func37,ntmps37;go_wp2_with (go_at_call 58;refine (hT.out _ (hr.alloc _)).mono ?_;rintro e w1 ⟨rfl,hb1⟩;have g1:Bw w w1:=bN bw1 hb1);go_ret;exact ⟨none,0,rfl,Fresh.nil,g1⟩
theorem aMz (ctx:List Tm)(C:Ba)(cc:Nat)(k n:Int)(ks:List Tm)(A:Ba)(c:Nat)(dd:Int)(b:Bool)(w:Bb)(hd1:dd≠0)(hm:ctx.length<=8)(hv:aE (.mk k n ks)=true)(hh:jB (.mk k n ks) = .no b)(hr:Rd w A 0 ks) :
  Calls prog 37 #[.slice C ctx.length cc,.agg (Ro k n A ks.length c),.int .i64 dd] w (yE w []):=by
 have hz:=aH hv;have q1:(dd==0)=false:=by simpa using hd1
 have q2:¬(8:Int)<(ctx.length:Int):=by omega
 have q3:decide (8<ctx.length)=false:=decide_eq_false Ac;have hT:=aD (λ(w:Bb) (hra:Rd w A 0 ks)=>bB k n ks A c w Ac hra);rw [hv] at hT;obtain ⟨_,co,hco,hco2⟩:=aBn hv hh;have hH:=aD (λ(w:Bb) (hr:Rd w A 0 ks)=>by have:=iF k n ks A c 200 w hv Ac hr;rw [hco] at this;exact this);have qb:(co != 0)=true:=by simpa using hco2
 clear hv hh hco hco2;go_enter func37,ntmps37;go_wp2_with (first
  | (go_at_call 51;have _t:=tok1;refine (hH.out _ (hr.below g1)).mono ?_;rintro e w2 ⟨k3,n3,s3,A3,c3,_,rfl,_,_,hb2⟩;have g2:Bw w w2:=g1.trans (hb2.mono g1.size);clear tok1)
  | (go_at_call 58;refine (hT.out _ (hr.alloc _)).mono ?_;rintro e w1 ⟨rfl,hb1⟩;have hX1:Blk w1 w.heap.size (Ro k n A ks.length c):=(aC w 32 (Ro k n A ks.length c) rfl).keep hb1;have g1:Bw w w1:=bN bw1 hb1;obtain ⟨x0,x1,x2⟩:=hX1.three;have tok1:=trivial))
 go_ret;exact ⟨none,0,rfl,Fresh.nil,g2.alloc g2.size _⟩
theorem PartR.wide {p q:Nat->Prop}{B:Nat}{w:Bb}{v:Value}{ts:List Tm}(h:PartR p B w v ts)(hq:∀b,p b->q b):PartR q B w v ts:=by
 obtain ⟨xs,h1,h2⟩:=h;exact ⟨xs,h1,h2.keep (λb hb=>⟨hb.1.imp (hq b) id,hb.2⟩) λ_ _ _=>rfl⟩
theorem aNs (d:Nat)(ihF:aAc d)(hd3:d<=10)(dd:Int)(hdd:dd=(d:Int)+1)(ctx:List Tm)(C:Ba)(cc:Nat)(hG:SemG ctx)(hvc:∀u,u∈ctx->aE u=true)(hm:ctx.length<=8)(k n:Int)(ks:List Tm)(A:Ba)(c:Nat)(kh nh:Int)(sh:List Tm)(w:Bb)(hv:aE (.mk k n ks)=true)(hh:jB (.mk k n ks) = .ok (.mk kh nh sh))(hw:SemW ctx (.mk k n ks))(hrc:Rd w C 0 ctx)(hr:Rd w A 0 ks) :
  Calls prog 37 #[.slice C ctx.length cc,.agg (Ro k n A ks.length c),.int .i64 dd] w (yE w (tQ (xB ctx (.mk k n ks)) [] (kK (dZ d ctx) ctx (.mk k n ks) ctx.length++nJ (dZ d) ctx (.mk kh nh sh)))):=by
 have hz:=aH hv;have q1:(dd==0)=false:=by
  have:dd≠0:=by omega
  simpa using this
 have q2:¬(8:Int)<(ctx.length:Int):=by omega
 have q3:decide (8<ctx.length)=false:=decide_eq_false Ac;have hT:=aD (λ(w:Bb) (hra:Rd w A 0 ks)=>bB k n ks A c w Ac hra);rw [hv] at hT;have hre:=(cR hh).2.2;have hH:=aD (show ∀(w:Bb) (hr:Rd w A 0 ks),Calls prog 51 #[.agg (Ro k n A ks.length c),.int .i64 200] w λe w'=>∃A3 c3,e = .returned (.tuple #[.agg (Ro kh nh A3 sh.length c3),.int .i64 0])/\sh.length<=9223372036854775807/\RdP (λb=>w.heap.size<=b) w' A3 0 sh/\Bw w w' from λw hr=>by
  have:=iF k n ks A c 200 w hv Ac hr;rw [hre] at this;refine this.mono λe w' hg=>?_
  obtain ⟨k3,n3,s3,A3,c3,h1,h2,h3,h4,h5⟩:=hg;injection (show Tm.mk kh nh sh = .mk k3 n3 s3 from h1) with e1 e2 e3;subst e1 e2 e3;exact ⟨A3,c3,h2,h3,h4,h5⟩)
 have hvh:=aD (cR hh).2.1;have hok:=aD (aJa hG hw hh);replace hG:=aD hG;replace hvc:=aD hvc;have hvt:=aD hv;replace ihF:=aD ihF;replace hdd:=aD hdd;obtain ⟨R,hR⟩:∃R,tQ (xB ctx (.mk k n ks)) [] (kK (dZ d ctx) ctx (.mk k n ks) ctx.length++nJ (dZ d) ctx (.mk kh nh sh))=R:=⟨_,rfl⟩;rw [hR];replace hR:=aD hR;clear hv hh hw hre;go_enter func37,ntmps37;go_wp2_with (first
  | (go_at_call 51;have _t:=tok1;refine (hH.out _ (hr.below g1)).mono ?_;rintro e w2 ⟨A3,c3,rfl,hl3,r3,hb2⟩;have g2:Bw w w2:=g1.trans (hb2.mono g1.size);have hX2:=(hX1.keep hb2).alloc (.cells (Ro kh nh A3 sh.length c3) 32);have hH2:=aC w2 32 (Ro kh nh A3 sh.length c3) rfl;have hP2:PartR (λ_=>False) (w2.heap.size+1) (w2.alloc (.cells (Ro kh nh A3 sh.length c3) 32)) (.slice none 0 0) []:=PartR.nil;have g4:=g2.alloc g2.size (.cells (Ro kh nh A3 sh.length c3) 32);have s2:w.heap.size+1<=w2.heap.size:=(by have:=hX1.lt;have:=hb2.size;omega);clear tok1 x0 x1 x2)
  | (go_at_call 58;refine (hT.out _ (hr.alloc _)).mono ?_;rintro e w1 ⟨rfl,hb1⟩;have hX1:Blk w1 w.heap.size (Ro k n A ks.length c):=(aC w 32 (Ro k n A ks.length c) rfl).keep hb1;have g1:Bw w w1:=bN bw1 hb1;obtain ⟨x0,x1,x2⟩:=hX1.three;have tok1:=trivial))
 go_loopw [9,39] (λs i wr=>∃(j:Nat) (out:List Tm) (L:Ba) (cl:Nat),j<=ctx.length/\i = .int .i64 j/\s = .slice L out.length cl/\out.length<=34*j/\PartR (λ_=>False) (w2.heap.size+1) wr (.slice L out.length cl) out/\Hid (out=kK (dZ d ctx) ctx (.mk k n ks) j)/\Below (w2.heap.size+1) (w2.alloc (.cells (Ro kh nh A3 sh.length c3) 32)) wr)
  (λ_ i _ => ctx.length - (intOf i).toNat)
 case atStart=>exact ⟨0,[],none,0,Nat.zero_le _,rfl,rfl,by simp,hP2,aD rfl,eI _ _⟩
 case round=>
  clear hP2;obtain ⟨j,out,L,cl,hj,rfl,rfl,hol,hP,hO,hbr⟩:=hrel;have hgr:Bw w wr:=bN g4 hbr;have hX:=hX2.below hbr Ac;have hHd:=hH2.below hbr Ac;have szr:w2.heap.size+1<=wr.heap.size:=by have:=hbr.size;simp at this;omega
  obtain ⟨x0,x1,x2⟩:=hX.three;obtain ⟨h0,h1,h2⟩:=hHd.three;have tok0:=trivial;by_cases hlt:j<ctx.length;rotate_left
  ·have hje:j=ctx.length:=by omega
   have q4:¬((j:Int)<(ctx.length:Int)):=by omega
   have q5:decide (j<ctx.length)=false:=decide_eq_false hlt;have r5:RdP (λb=>b<w2.heap.size) wr A3 0 sh:=((r3.rd.rdp.alloc (.cells (Ro kh nh A3 sh.length c3) 32))).blocks (w':=wr) (λb hb hl=>hbr.block b (by have hb:b<w2.heap.size:=hb;omega));have hMd:=aD (λ(w:Bb) (hp:∀b,(λb=>b<w2.heap.size) b->b<w.heap.size) (hrc:Rd w C 0 ctx) (hr:RdP (λb=>b<w2.heap.size) w A3 0 sh)=>aQi d ihF.out hd3 dd hdd.out ctx C cc hG.out hvc.out hm kh nh sh A3 c3 (λb=>b<w2.heap.size) w hp hvh.out hok.out hrc hr);have hML:=aEz (dZ d) (λc t=>gX d c t) ctx (.mk kh nh sh);have hMS:=aD (λ(t:Tm) (h:t∈nJ (dZ d) ctx (.mk kh nh sh))=>aAl (F:=dZ d) (λ{c t x} hx=>(mE hx).valid) hvh.out h);have hR2:=hR.out;rw [<- hje,<- hO.out] at hR2;have hOS:=aD (λ(t:Tm) (h:t∈out)=>zX (F:=dZ d ctx) (ctx:=ctx) (want:=.mk k n ks) (m:=j) (t:=t) (by rw [<- hO.out];exact h));generalize nJ (dZ d) ctx (.mk kh nh sh)=MM at hMd hML hMS hR2;have hR2:=aD hR2;have hol3:out.length<=272:=by omega
   obtain ⟨wo,rfl⟩:∃wo,wo=wr:=⟨wr,rfl⟩;clear hje hO hR;go_wp2_with (first
    | (at_builtin;have _t:=tok2;refine dV (lo:=λb=>b<w2.heap.size) (B:=(w2.heap.size+1)) hP5 Ac rL5.lt_ (λb hb=>hb.1.elim (λh=>⟨.inl h,hb.2,λe=>by have:=hP.ownB b e;omega⟩) (λh=>⟨.inr Ac,hb.2,λe=>by have:=hP.ownL b e;omega⟩)) rfl Ac rfl Ac rfl _ _ rfl rfl rfl ?_;intro L6 c6 w6 hP6 hb6 hg6 hn6;rw [<- List.length_append] at hP6⊢;generalize hALe:out++MM=AL at hP6⊢;replace hALe:=aD hALe;clear tok2)
    | (go_at_call 61;have _t:=tok0;refine (hMd.out _ (λb hb=>by have hb:b<w2.heap.size:=hb;omega) (hrc.below hgr) r5).mono ?_;rintro e w5 ⟨A5,c5,rfl,rL5,hb5⟩;have hP5:PartR (λb=>b<w2.heap.size) (w2.heap.size+1) w5 (.slice L out.length cl) out:=(hP.below hb5).wide (λb h=>h.elim);have s5:=hb5.size;clear tok0 h0 h1 h2 x0 x1 x2;have tok2:=trivial))
   have hAS:=aD (show ∀t,t∈AL->t.size<=2000 by rw [<- hALe.out];exact λt ht=>(List.mem_append.1 ht).elim (hOS.out t) (hMS.out t));have hALL:AL.length<=300:=by rw [<- hALe.out,List.length_append];omega
   have hR3:=aD (show tQ (xB ctx (.mk k n ks)) [] AL=R by rw [<- hALe.out];exact hR2.out);clear hALe;have s6:w5.heap.size<=w6.heap.size:=hb6.size;have g6:Bw w w6:=(hgr.trans (hb5.mono hgr.size)).trans (hb6.mono Ac);have hX6:Blk w6 w.heap.size (Ro k n A ks.length c):=(hX.keep hb5).below hb6 Ac;have rA6:RdP (λb=>b<w6.heap.size) w6 L6 0 AL:=by
    obtain ⟨A',c',e,hr6⟩:=hP6.rd;injection e with e1 e2 e3;subst e1;exact hr6.lt_.mono (q:=(λb=>b<w6.heap.size)) (λb hb=>hb.2)
   have hQ:Part w6.heap.size w6 (.slice none 0 0) []:=Part.nil;go_loopw [15,74] (λs i wr=>∃(m:Nat) (ou:List Tm) (L:Ba) (cl:Nat),m<=AL.length/\i = .int .i64 m/\s = .slice L ou.length cl/\ou.length<=12/\Part w6.heap.size wr (.slice L ou.length cl) ou/\Hid (tQ (xB ctx (.mk k n ks)) ou (AL.drop m)=R)/\Bw w6 wr)
    (λ_ i _=>AL.length - (intOf i).toNat)
   case atStart=>exact ⟨0,[],none,0,Nat.zero_le _,rfl,rfl,by simp,hQ,hR3,eI _ _⟩
   case round=>
    clear hQ hR3 hP;obtain ⟨m,ou,L,cl,hm2,rfl,rfl,hol2,hP,hR,hbq⟩:=hrel;have hgq:Bw w wr:=g6.trans (hbq.mono g6.size);have szq:w6.heap.size<=wr.heap.size:=hbq.size;by_cases hlt2:m<AL.length;rotate_left
    ·have hje2:m=AL.length:=by omega
     have q4':¬((m:Int)<(AL.length:Int)):=by omega
     have q5':decide (m<AL.length)=false:=decide_eq_false hlt2;go_wp2_with fail;go_ret;have e:ou=R:=by have:=hR.out;rwa [hje2,List.drop_length,tQ] at this
     subst e;obtain ⟨A',c',e,hf⟩:=hP.fresh;injection e with e1 e2 e3;subst e1;exact ⟨_,_,rfl,hf.mono g6.size,hgq⟩
    have q4':(m:Int)<(AL.length:Int):=by omega
    have q5':decide (m<AL.length)=true:=decide_eq_true hlt2;obtain ⟨kt,nt,st,htj⟩:∃kt nt st,AL[m] = .mk kt nt st:=by cases AL[m] with|mk a b l=>exact ⟨a,b,l,rfl⟩
    have rA:RdP (λb=>b<w6.heap.size) wr L6 0 AL:=rA6.blocks λb hb _=>hbq.block b hb
    obtain ⟨bt,ot,At,ct,hLt,x1,x2,x3,hlt3,rt⟩:=kC rA hlt2 htj;subst hLt;have lbt:=kF _ _ x1;by_cases ho:ou.length<12;rotate_left
    ·have q6:((ou.length:Int)==12)=true:=by
      have:(ou.length:Int)=12:=by omega
      simpa using this
     have q7:(ou.length==12)=true:=by
      have:ou.length=12:=by omega
      simpa using this
     have q8:(ou.length:Int)=12:=by omega
     have hR':=aD (show ou=R by have:=hR.out;rwa [aFm Ac] at this);have q9:decide ((ou.length:Int)=12)=true:=decide_eq_true q8;have q8:=aD q8;go_wp2_with fail;go_ret;have e:=hR'.out;subst e;obtain ⟨A',c',e,hf⟩:=(hP.alloc (.cells (Ro kt nt At st.length ct) 32)).fresh;injection e with e1 e2 e3;subst e1;exact ⟨_,_,rfl,hf.mono g6.size,hgq.alloc hgq.size _⟩
    have q6:((ou.length:Int)==12)=false:=by
     have:(ou.length:Int)≠12:=by omega
     simpa using this
    have q8:¬(ou.length:Int)=12:=by omega
    have q7:(ou.length==12)=false:=by
     have:ou.length≠12:=by omega
     simpa using this
    have q7':¬ou.length=12:=by omega
    have hsz:aG st<=2000:=by
     have:=hAS.out _ (gM hlt2);rw [htj,Tm.size] at this;omega
    have hRn:=hR.out;rw [List.drop_eq_getElem_cons hlt2,htj] at hRn;replace hRn:=aSz hRn ho;have hXr:=hX6.keep hbq;have hTv:=aD (λ(w:Bb) (hra:Rd w At 0 st)=>bB kt nt st At ct w Ac hra);obtain ⟨y0,y1,y2⟩:=hXr.three;have tok0:=trivial;cases hvt2:aE (.mk kt nt st) with
    | false=>
     have hcb:xB ctx (.mk k n ks) (.mk kt nt st)=false:=by
      cases hb:xB ctx (.mk k n ks) (.mk kt nt st) with
      | false=>rfl
      | true=>rw [(ckB_iff.1 hb).valid] at hvt2;cases hvt2
     rw [hcb] at hRn;replace hRn:=aD (show tQ (xB ctx (.mk k n ks)) ou (AL.drop (m+1))=R from hRn);rw [hvt2] at hTv;clear hcb htj hR hvt2;go_wp2_with (go_at_call 58;have _t:=tok0;refine (hTv.out _ (rt.rd.alloc _)).mono ?_;rintro e w7 ⟨rfl,hb7⟩;have hP7:=(hP.alloc (.cells (Ro kt nt At st.length ct) 32)).below hb7;have gx7:=hbq.trans (((eI _ _).alloc (mC _) (.cells (Ro kt nt At st.length ct) 32)).trans (hb7.mono Ag) |>.mono szq);clear tok0);go_roundw
     case rel=>exact ⟨m+1,ou,L,cl,by omega,by go_num,rfl,hol2,hP7,hRn,gx7⟩
     case measure=>simp [intOf];omega
    | true=>
     rw [hvt2] at hTv;cases hcb:xB ctx (.mk k n ks) (.mk kt nt st);all_goals
      have hCk:=aD (λ(w:Bb) (hrc:Rd w C 0 ctx) (hra:Rd w At 0 st) (hr2:Rd w A 0 ks)=>aHy ctx C cc kt nt st At ct k n ks A c _ w hcb hG.out hvc.out Ac hvt2 hvt.out hrc hra hr2);rw [hcb] at hRn;clear hcb htj hR
     ·replace hRn:=aD (show tQ (xB ctx (.mk k n ks)) ou (AL.drop (m+1))=R from hRn);clear hvt2;go_wp2_with (first
       | (go_at_call 62;have _t:=tok3;refine (hCk.out _ (hrc.below g7) (rt7.rd) (hr.below g7)).mono ?_;rintro e w8 ⟨co,rfl,hco,hb8⟩;have hP8:=hP7.below hb8;have gx8:=gx7.trans (hb8.mono Ac);clear tok3)
       | (go_at_call 58;have _t:=tok0;refine (hTv.out _ (rt.rd.alloc _)).mono ?_;rintro e w7 ⟨rfl,hb7⟩;have hP7:=(hP.alloc (.cells (Ro kt nt At st.length ct) 32)).below hb7;have gx7:=hbq.trans (((eI _ _).alloc (mC _) (.cells (Ro kt nt At st.length ct) 32)).trans (hb7.mono Ag) |>.mono szq);have g7:Bw w w7:=g6.trans (gx7.mono g6.size);have s7:=hb7.size;simp at s7;have rt7:=(rt.alloc (.cells (Ro kt nt At st.length ct) 32)).below hb7;have hT7:Blk w7 wr.heap.size (Ro kt nt At st.length ct):=(aC wr 32 (Ro kt nt At st.length ct) rfl).keep hb7;have hX7:=(hXr.alloc (.cells (Ro kt nt At st.length ct) 32)).keep hb7;clear tok0 y0 y1 y2;obtain ⟨y0,y1,y2⟩:=hX7.three;obtain ⟨u0,u1,u2⟩:=hT7.three;have tok3:=trivial))
      go_roundw
      case rel=>exact ⟨m+1,ou,L,cl,by omega,by go_num,rfl,hol2,hP8,hRn,gx8⟩
      case measure=>simp [intOf];omega
     ·replace hRn:=aD (show tQ (xB ctx (.mk k n ks)) (ou++[.mk kt nt st]) (AL.drop (m+1))=R from hRn);have hOw:=aD (λ(w:Bb) (hra:Rd w At 0 st)=>jW (aG st+1) kt nt st At ct w Ac Ac hra);clear hvt2;go_wp2_with (first
       | (at_builtin;have _t:=tok5;refine cZ (B:=w6.heap.size) (w0:=w8) (m:=ou.length) (k:=kt) (n:=nt) (c:=c9) hP8 hb9 Ac hf9 hl9 rfl Ac rfl _ _ rfl rfl rfl ?_;intro L10 c10 w10 hP10 hb10 hg10;clear tok5)
       | (go_at_call 63;have _t:=tok4;refine (hOw.out _ (rt7.rd.below hb8)).mono ?_;rintro e w9 ⟨A9,c9,rfl,hl9,hf9,hb9⟩;have s9:=hb9.size;have gx9:=gx8.trans (hb9.mono Ac);clear tok4;have tok5:=trivial)
       | (go_at_call 62;have _t:=tok3;refine (hCk.out _ (hrc.below g7) (rt7.rd) (hr.below g7)).mono ?_;rintro e w8 ⟨co,rfl,hco,hb8⟩;have hP8:=hP7.below hb8;have gx8:=gx7.trans (hb8.mono Ac);have s8:=hb8.size;have hT8:=hT7.keep hb8;clear tok3 y0 y1 y2 u0 u1 u2;obtain ⟨u0,u1,u2⟩:=hT8.three;have tok4:=trivial)
       | (go_at_call 58;have _t:=tok0;refine (hTv.out _ (rt.rd.alloc _)).mono ?_;rintro e w7 ⟨rfl,hb7⟩;have hP7:=(hP.alloc (.cells (Ro kt nt At st.length ct) 32)).below hb7;have gx7:=hbq.trans (((eI _ _).alloc (mC _) (.cells (Ro kt nt At st.length ct) 32)).trans (hb7.mono Ag) |>.mono szq);have g7:Bw w w7:=g6.trans (gx7.mono g6.size);have s7:=hb7.size;simp at s7;have rt7:=(rt.alloc (.cells (Ro kt nt At st.length ct) 32)).below hb7;have hT7:Blk w7 wr.heap.size (Ro kt nt At st.length ct):=(aC wr 32 (Ro kt nt At st.length ct) rfl).keep hb7;have hX7:=(hXr.alloc (.cells (Ro kt nt At st.length ct) 32)).keep hb7;clear tok0 y0 y1 y2;obtain ⟨y0,y1,y2⟩:=hX7.three;obtain ⟨u0,u1,u2⟩:=hT7.three;have tok3:=trivial))
      have hl8:(ou++[Tm.mk kt nt st]).length=ou.length+1:=by simp
      have gx10:=gx9.trans hb10;go_roundw
      case rel=>exact ⟨m+1,_,L10,c10,by omega,by go_num,by rw [hl8],by rw [hl8];omega,by rw [hl8];exact hP10,hRn,gx10⟩
      case measure=>simp [intOf];omega
  have q4:(j:Int)<(ctx.length:Int):=by omega
  have q5:decide (j<ctx.length)=true:=decide_eq_true hlt;have hvy:=zN hvc.out hlt;have hVT:=λ(w:Bb) (hrc:Rd w C 0 ctx)=>aBy ctx C cc j w hm hlt hvc.out hrc
  change ∀(w:Bb),Rd w C 0 ctx->Calls prog 32 _ w (pF w (bJ ((j:Int)+1) 0 (vty ctx j))) at hVT;cases hsh:bJ ((j:Int)+1) 0 (vty ctx j) with
  | none=>
   rw [hsh] at hVT;have hVT:=aD hVT;have hO':=aD (show out=kK (dZ d ctx) ctx (.mk k n ks) (j+1) by rw [lR,uP (F:=dZ d ctx) rfl (aBi (aKq Ac hvy hsh) 4),List.append_nil,<- hO.out]);clear hsh hvy hO;go_wp2_with (go_at_call 32;have _t:=tok0;refine (hVT.out _ (hrc.below hgr)).mono ?_;intro e w3 hgo;obtain ⟨rfl,hb3⟩:=dS hgo;clear hgo;have hP3:=(hP.below hb3).alloc (.cells Zr 32);have g3:=(hbr.trans (hb3.mono Ac)).alloc (by have:=hb3.size;omega) (.cells Zr 32);clear tok0);exact ⟨⟨j+1,out,L,cl,by omega,by go_num,rfl,by omega,hP3,hO',g3⟩,by simp [intOf];omega⟩
  | some t5=>
   obtain ⟨k5,n5,s5⟩:=t5;rw [hsh] at hVT;have hVT:=aD hVT;have hv5:=kA hsh;have hsv:=(aLf hvy hsh).symm;have hsem:SemW ctx (.mk k5 n5 s5):=by
    have:=(hG.out).var hlt;have e:bR ((j:Int)+1) 0 (ctx.getD (ctx.length - 1 - j) default) = .mk k5 n5 s5:=hsv;rwa [e] at this
   have hY0:=λ(w:Bb) (A5:Ba) (c5:Nat) (hr:Rd w A5 0 s5) (hr2:Rd w A 0 ks)=>aDj k5 n5 s5 A5 c5 k n ks A c w hv5 hvt.out hr hr2
   clear hsh hvy hv5;cases hy:yl (.mk k n ks) 4 (.mk k5 n5 s5) with
   | none=>
    rw [hy] at hY0;have hY0:=aD hY0;have hO':=aD (show out=kK (dZ d ctx) ctx (.mk k n ks) (j+1) by rw [lR,uP (F:=dZ d ctx) hsv hy,List.append_nil,<- hO.out]);clear hO hy hsv hsem;go_wp2_with (first
     | (go_at_call 33;have _t:=tok2;refine (hY0.out _ A5 c5 (hf5.rd.alloc _) (((hr.below hgr).below hb3).alloc _)).mono ?_;rintro e w4 ⟨rfl,hb4⟩;have b4:=b3.trans (hb4.mono (by have:=b3.size;simp at this⊢;omega));have hP4:=hP3.below hb4;clear tok2)
     | (go_at_call 32;have _t:=tok0;refine (hVT.out _ (hrc.below hgr)).mono ?_;intro e w3 hgo;obtain ⟨A5,c5,rfl,hl5,hf5,hb3⟩:=cS hgo;clear hgo x0 x1 x2 h0 h1 h2 tok0;have hX3:=(hX.keep hb3).alloc (.cells (Ro k5 n5 A5 s5.length c5) 32);have hP3:=(hP.below hb3).alloc (.cells (Ro k5 n5 A5 s5.length c5) 32);have b3:Below (w2.heap.size+1) _ (w3.alloc (.cells (Ro k5 n5 A5 s5.length c5) 32)):=(hbr.trans (hb3.mono Ac)).alloc (by have:=hb3.size;omega) _;obtain ⟨y0,y1,y2⟩:=(aC w3 32 (Ro k5 n5 A5 s5.length c5) rfl).three;obtain ⟨x0,x1,x2⟩:=hX3.three;have tok2:=trivial))
    exact ⟨⟨j+1,out,L,cl,by omega,by go_num,rfl,by omega,hP4,hO',b4⟩,by simp [intOf];omega⟩
   | some tl=>
    rw [hy] at hY0;have hY0:=aD hY0;have htl:=aGv hy;have hCl:=aD (show ∀(T:Ba) (ct:Nat) (w:Bb) (hct:tl.length<=ct) (hrc:Rd w C 0 ctx) (hrT:Rd w T 0 tl),Calls prog 59 #[.slice C ctx.length cc,.agg (Ro 1 (j:Int) none 0 0),.slice T tl.length ct,.int .i64 dd] w (kX (λ_=>False) w (gV (dZ d ctx) tl (.mk 1 (j:Int) []))) from λT ct w hct hrc hrT=>aDm d ihF.out ctx C cc hG.out hvc.out hm dd hdd.out hd3 tl T ct 1 (j:Int) [] none 0 (λ_=>False) w (aNi hG.out hsem hy) (aEs hy) Ac hct (by simp [aG];omega) (λb hb=>hb.elim) hrc RdP.nil hrT);have hLl:=mZ (F:=dZ d ctx) (ts:=tl) (f:=.mk 1 (j:Int) []);have hO':=aD (show out++gV (dZ d ctx) tl (.mk 1 (j:Int) [])=kK (dZ d ctx) ctx (.mk k n ks) (j+1) by rw [lR,aAr (F:=dZ d ctx) hsv hy,<- hO.out]);generalize gV (dZ d ctx) tl (.mk 1 (j:Int) [])=LL at hCl hLl hO';clear hO hy hsv hsem;go_wp2_with (first
     | (at_builtin;have _t:=tok5;refine dV (lo:=(λ_=>False)) (B:=(w2.heap.size+1)) hP6 Ac rL6.lt_ (λb hb=>⟨.inr (by have:=hb.1.elim False.elim id;omega),hb.2,λe=>by have:=hP.ownL b e;have:=hb.1.elim False.elim id;omega⟩) rfl Ac rfl Ac rfl _ _ rfl rfl rfl ?_;intro L7 c7 w7 hP7 hb7 hg7 hn7;clear tok5)
     | (go_at_call 59;have _t:=tok4;refine (hCl.out B4 b4' _ hcap ((hrc.below g5)) (rT4.below hb5)).mono ?_;rintro e w6 ⟨A6,c6,rfl,rL6,hb6⟩;have hP6:=hP5.below hb6;have s6:=hb6.size;have b6:=b5.trans (hb6.mono Ac);clear tok4;have tok5:=trivial)
     | (go_at_call 60;have _t:=tok3;refine (cU (j:Int) _).mono ?_;rintro e w5 ⟨rfl,hb5⟩;have hP5:=hP4.below hb5;have s5':=hb5.size;have b5:=b4.trans (hb5.mono Ac);have g5:Bw w w5:=bN g4 b5;clear tok3;have tok4:=trivial)
     | (go_at_call 33;have _t:=tok2;refine (hY0.out _ A5 c5 (hf5.rd.alloc _) (((hr.below hgr).below hb3).alloc _)).mono ?_;rintro e w4 ⟨B4,b4',rfl,hcap,rT4,hb4⟩;have b4:=b3.trans (hb4.mono (by have:=b3.size;simp at this⊢;omega));have hP4:=hP3.below hb4;have s4:=hb4.size;simp at s4;have s3:=hb3.size;clear tok2;have tok3:=trivial)
     | (go_at_call 32;have _t:=tok0;refine (hVT.out _ (hrc.below hgr)).mono ?_;intro e w3 hgo;obtain ⟨A5,c5,rfl,hl5,hf5,hb3⟩:=cS hgo;clear hgo x0 x1 x2 h0 h1 h2 tok0;have hX3:=(hX.keep hb3).alloc (.cells (Ro k5 n5 A5 s5.length c5) 32);have hP3:=(hP.below hb3).alloc (.cells (Ro k5 n5 A5 s5.length c5) 32);have b3:Below (w2.heap.size+1) _ (w3.alloc (.cells (Ro k5 n5 A5 s5.length c5) 32)):=(hbr.trans (hb3.mono Ac)).alloc (by have:=hb3.size;omega) _;obtain ⟨y0,y1,y2⟩:=(aC w3 32 (Ro k5 n5 A5 s5.length c5) rfl).three;obtain ⟨x0,x1,x2⟩:=hX3.three;have tok2:=trivial))
    have hl7:(out++LL).length=out.length+LL.length:=by simp
    have gx7:=b6.trans hb7;go_roundw
    case rel=>exact ⟨j+1,_,L7,c7,by omega,by go_num,by rw [hl7],by rw [hl7];omega,by rw [hl7];exact hP7,hO',gx7⟩
    case measure=>simp [intOf];omega
theorem aMs {d:Nat}{ctx:List Tm}{t:Tm}{b:Bool}(h:jB t = .no b):dZ d ctx t=[]:=by
 cases d with
 | zero=>rfl
 | succ d=>
  rw [dZ];split
  ·rw [h]
  ·rfl
theorem aQg {d:Nat}{ctx:List Tm}{t h:Tm}(hc:ctx.length<=8)(hv:aE t=true)(hh:jB t = .ok h):dZ (d+1) ctx t=tQ (xB ctx t) [] (kK (dZ d ctx) ctx t ctx.length++nJ (dZ d) ctx h):=by
 rw [dZ,Av ⟨hc,hv⟩,hh]
theorem aIt {d:Nat}{ctx:List Tm}{t:Tm}(h:¬(ctx.length<=8/\aE t=true)):dZ d ctx t=[]:=by
 cases d with
 | zero=>rfl
 | succ d=>rw [dZ,Aw h]
theorem zV:∀d,d<=10->aAe d
 | 0,_=>λctx C cc k n ks A c w hG hvc hm hw hz hrc hr=>aIf ctx C cc k n ks A c 0 w hz hm (.inl Ac) hr
 | d+1,hd=>λctx C cc k n ks A c w hG hvc hm hw hz hrc hr=>by
  by_cases h:ctx.length<=8/\aE (.mk k n ks)=true
  ·cases hh:jB (.mk k n ks) with
   | no b=>
    rw [aMs hh];exact aPv d ctx C cc k n ks A c _ b w Ac h.1 h.2 hh hr
   | ok t=>
    obtain ⟨kh,nh,sh⟩:=t;rw [aQg h.1 h.2 hh];exact aNa d (zV d Ac) Ac _ Ac ctx C cc hG hvc h.1 k n ks A c kh nh sh w h.2 hh hw hrc hr
  ·rw [aIt h];refine aIf ctx C cc k n ks A c _ w hz hm (.inr ?_) hr;by_cases h1:ctx.length<=8
   ·right
    cases hv:aE (.mk k n ks) with
    | false=>rfl
    | true=>exact absurd ⟨h1,hv⟩ h
   ·left;omega
theorem aBb:∀d,d<=10->aAc d
 | 0,_=>λctx C cc k n ks A c w hG hvc hm hw hz hrc hr=>aJo ctx C cc k n ks A c 0 w hz hm (.inl rfl) hr
 | d+1,hd=>λctx C cc k n ks A c w hG hvc hm hw hz hrc hr=>by
  by_cases h:ctx.length<=8/\aE (.mk k n ks)=true
  ·cases hh:jB (.mk k n ks) with
   | no b=>
    rw [aMs hh];exact aMz ctx C cc k n ks A c _ b w Ac h.1 h.2 hh hr
   | ok t=>
    obtain ⟨kh,nh,sh⟩:=t;rw [aQg h.1 h.2 hh];exact aNs d (aBb d Ac) Ac _ Ac ctx C cc hG hvc h.1 k n ks A c kh nh sh w h.2 hh hw hrc hr
  ·rw [aIt h];refine aJo ctx C cc k n ks A c _ w hz hm (.inr ?_) hr;by_cases h1:ctx.length<=8
   ·right
    cases hv:aE (.mk k n ks) with
    | false=>rfl
    | true=>exact absurd ⟨h1,hv⟩ h
   ·left;omega
theorem wQ {B m:Nat}{w:Bb}(hB:B<=w.heap.size)(hm:m=w.heap.size):Part B (w.alloc (.cells #[] 32)) (.slice (some ⟨m,0,none⟩) 0 0) []:=by
 subst hm;exact ⟨[],[],⟨by simp,.inr ⟨w.heap.size,0,#[],rfl,hB,heap_alloc_new w _,mC _,by simp [maxLen],by simp,by simp⟩⟩,OwX.nil,List.nodup_nil,by simp,by simp⟩
def xU (ctx:List Tm)(want:Tm)(z:Int):Prop:=Sok ctx want/\0<=z/\z<=3
noncomputable def aEh (ctx:List Tm)(want:Tm)(z:Int):List Tm:=@ite _ (xU ctx want z) (Classical.propDecidable _) (dZ z.toNat ctx want) []
theorem sI {ctx:List Tm}{want:Tm}{z:Int}(h:xU ctx want z):aEh ctx want z=dZ z.toNat ctx want:=Av h
theorem vQ {ctx:List Tm}{want:Tm}{z:Int}(h:¬xU ctx want z):aEh ctx want z=[]:=Aw h
theorem aEd (ctx:List Tm)(t:Tm):∃b:Bool,b=true↔Sok ctx t:=by
 by_cases h:Sok ctx t
 ·exact ⟨true,⟨λ_=>h,λ_=>rfl⟩⟩
 ·exact ⟨false,⟨λh'=>(by cases h'),λh'=>absurd h' h⟩⟩
theorem aDp (z:Int)(w:Bb):Calls prog 36 #[.int .i64 z,.int .i64 0,.int .i64 3] w λe w'=>e = .returned (.bool (decide (0<=z/\z<=3)))/\Bw w w':=by
 by_cases h0:0<=z
 ·by_cases h3:z<=3
  ·rw [decide_eq_true (⟨h0,h3⟩:0<=z/\z<=3)];go_enter func36,ntmps36;go_wp2_with fail;go_ret;exact ⟨by simp [h3],eI _ _⟩
  ·rw [decide_eq_false (λh:0<=z/\z<=3=>h3 h.2)];go_enter func36,ntmps36;go_wp2_with fail;go_ret;exact ⟨by simp [h3],eI _ _⟩
 ·rw [decide_eq_false (λh:0<=z/\z<=3=>h0 h.1)];go_enter func36,ntmps36;go_wp2_with fail;go_ret;exact ⟨by simp,eI _ _⟩
theorem aEj (ctx:List Tm)(C:Ba)(cc:Nat)(k n:Int)(ks:List Tm)(A:Ba)(c:Nat)(z:Int)(w:Bb)(hcc:ctx.length<=cc)(hsz:aG ctx<=2000000)(hz:aG ks<=2000000)(hlk:ks.length<=9223372036854775807)(hrc:Rd w C 0 ctx)(hra:Rd w A 0 ks) :
  Calls prog 23 #[.slice C ctx.length cc,.agg (Ro k n A ks.length c),.int .i64 z] w (yE w (aEh ctx (.mk k n ks) z)):=by
 obtain ⟨b,hb⟩:=aEd ctx (.mk k n ks);have hS:=aD (λ(w:Bb) (hrc:Rd w C 0 ctx) (hra:Rd w A 0 ks)=>aLp ctx C cc k n ks A c w b hb hcc hsz hz hlk hrc hra);by_cases hok:xU ctx (.mk k n ks) z
 ·rw [sI hok];obtain ⟨hs,h0,h3⟩:=hok;obtain rfl:=hb.2 hs;have hfi:=lV hs.1.1;have hG:=hs.1.2.semG;have hm:=hfi.2;obtain ⟨_,hv,N,l,hl⟩:=hs;have hzk:=aH hv;obtain ⟨d,rfl⟩:∃d:Nat,z=(d:Int):=⟨z.toNat,by omega⟩;have hF:=aD (λ(w:Bb) (hrc:Rd w C 0 ctx) (hra:Rd w A 0 ks)=>aBb d Ac ctx C cc k n ks A c w hG hfi.1 Ac (hG.srt hl) Ac hrc hra);rw [Int.toNat_natCast];have qz:decide (0<=(d:Int)/\(d:Int)<=3)=true:=decide_eq_true ⟨h0,h3⟩;have hW:=aD (λ(w:Bb)=>show Calls prog 36 #[.int .i64 (d:Int),.int .i64 0,.int .i64 3] w (λe w'=>e = .returned (.bool true)/\Bw w w') by have:=aDp (d:Int) w;rwa [qz] at this);generalize dZ d ctx (.mk k n ks)=R at hF⊢;clear hb hG hfi hv hl h0 h3 qz;go_enter func23,ntmps23;go_wp2_with (first
   | (go_at_call 37;have _t:=tok2;refine (hF.out _ (hrc.below g2) (hra.below g2)).mono ?_;rintro e w3 ⟨L3,c3,rfl,fL3,hb3⟩;clear tok2)
   | (go_at_call 36;have _t:=tok1;refine (hW.out _).mono ?_;rintro e w2 ⟨rfl,hb2⟩;have g2:=g1.trans (hb2.mono g1.size);have hX2:=hX1.keep hb2;clear x0 x1 x2 tok1;obtain ⟨x0,x1,x2⟩:=hX2.three;have tok2:=trivial)
   | (go_at_call 31;refine (hS.out _ (hrc.alloc _) (hra.alloc _)).mono ?_;rintro e w1 ⟨n2,c2,rfl,hc2,hb1⟩;obtain rfl:c2=0:=(by simpa using hc2);have hX1:Blk w1 w.heap.size (Ro k n A ks.length c):=(aC w 32 (Ro k n A ks.length c) rfl).keep hb1;have g1:Bw w w1:=bN bw1 hb1;obtain ⟨x0,x1,x2⟩:=hX1.three;have tok1:=trivial))
  go_ret;exact ⟨L3,c3,rfl,fL3.mono g2.size,g2.trans (hb3.mono g2.size)⟩
 ·rw [vQ hok];by_cases hs:Sok ctx (.mk k n ks)
  ·obtain rfl:=hb.2 hs;have qz:decide (0<=z/\z<=3)=false:=decide_eq_false λh=>hok ⟨hs,h⟩
   have hW:=aD (λ(w:Bb)=>show Calls prog 36 #[.int .i64 z,.int .i64 0,.int .i64 3] w (λe w'=>e = .returned (.bool false)/\Bw w w') by have:=aDp z w;rwa [qz] at this);clear hb hok hs qz;go_enter func23,ntmps23;go_wp2_with (first
    | (go_at_call 36;have _t:=tok1;refine (hW.out _).mono ?_;rintro e w2 ⟨rfl,hb2⟩;have g2:=g1.trans (hb2.mono g1.size);clear tok1)
    | (go_at_call 31;refine (hS.out _ (hrc.alloc _) (hra.alloc _)).mono ?_;rintro e w1 ⟨n2,c2,rfl,hc2,hb1⟩;obtain rfl:c2=0:=(by simpa using hc2);have g1:Bw w w1:=bN bw1 hb1;have tok1:=trivial))
   go_ret;exact ⟨none,0,rfl,Fresh.nil,g2⟩
  ·obtain rfl:b=false:=by
    cases b with
    | false=>rfl
    | true=>exact absurd (hb.1 rfl) hs
   clear hb hok hs;go_enter func23,ntmps23;go_wp2_with (go_at_call 31;refine (hS.out _ (hrc.alloc _) (hra.alloc _)).mono ?_;rintro e w1 ⟨n2,c2,rfl,hc2,hb1⟩;have qc:(c2 != 0)=true:=(by simpa using hc2);have g1:Bw w w1:=bN bw1 hb1);go_ret;exact ⟨none,0,rfl,Fresh.nil,g1⟩
theorem aDi (ctx:List Tm)(C:Ba)(cc:Nat)(k n:Int)(ks:List Tm)(A:Ba)(c:Nat)(z:Int)(w:Bb)(hcc:ctx.length<=cc)(hsz:aG ctx<=2000000)(hz:aG ks<=2000000)(hrc:Rd w C 0 ctx)(hra:Rd w A 0 ks) :
  Calls prog 22 #[.slice C ctx.length cc,.agg (Ro k n A ks.length c),.int .i64 z] w (yE w (aEh ctx (.mk k n ks) z)):=by
 obtain ⟨b,hb⟩:=aEd ctx (.mk k n ks);have hS:=aD (λ(w:Bb) (hrc:Rd w C 0 ctx) (hra:Rd w A 0 ks)=>aHm ctx C cc k n ks A c w b hb hcc hsz hz hrc hra);by_cases hok:xU ctx (.mk k n ks) z
 ·rw [sI hok];obtain ⟨hs,h0,h3⟩:=hok;obtain rfl:=hb.2 hs;have hfi:=lV hs.1.1;have hG:=hs.1.2.semG;have hm:=hfi.2;obtain ⟨_,hv,N,l,hl⟩:=hs;have hzk:=aH hv;obtain ⟨d,rfl⟩:∃d:Nat,z=(d:Int):=⟨z.toNat,by omega⟩;have hF:=aD (λ(w:Bb) (hrc:Rd w C 0 ctx) (hra:Rd w A 0 ks)=>zV d Ac ctx C cc k n ks A c w hG hfi.1 Ac (hG.srt hl) Ac hrc hra);rw [Int.toNat_natCast];have hAL:=gX d ctx (.mk k n ks);have hAS:=aD (λ(t:Tm) (h:t∈dZ d ctx (.mk k n ks))=>(mE h).valid);generalize dZ d ctx (.mk k n ks)=AR at hF hAL hAS⊢;have q0:¬((d:Int)<0):=by omega
  have q1:¬(3:Int)<(d:Int):=by omega
  have q2:decide (3<d)=false:=decide_eq_false Ac;clear hb hG hfi hv hl h0 h3;go_enter func22,ntmps22;go_wp2_with (first
   | (go_at_call 34;have _t:=tok1;refine (hF.out _ (hrc.below g1) (hra.below g1)).mono ?_;rintro e w3 ⟨L3,c3,rfl,rL3,hb3⟩;have g3:=g1.trans (hb3.mono g1.size);clear tok1)
   | (go_at_call 28;refine (hS.out _ (hrc.alloc _) (hra.alloc _)).mono ?_;rintro e w1 ⟨n2,c2,rfl,hc2,hb1⟩;obtain rfl:c2=0:=(by simpa using hc2);have hX1:Blk w1 w.heap.size (Ro k n A ks.length c):=(aC w 32 (Ro k n A ks.length c) rfl).keep hb1;have g1:Bw w w1:=bN bw1 hb1;obtain ⟨x0,x1,x2⟩:=hX1.three;have tok1:=trivial))
  have rA3:RdP (λb=>b<w3.heap.size) (w3.alloc (.cells #[] 32)) L3 0 AR:=(rL3.rd.rdp).alloc _;have hQ:Part w3.heap.size (w3.alloc (.cells #[] 32)) (.slice (some ⟨w3.heap.size,0,none⟩) 0 0) []:=wQ (mC _) rfl;go_loopw [10,11] (λs i wr=>∃(m:Nat) (L:Ba) (cl:Nat),m<=AR.length/\i = .int .i64 m/\s = .slice L m cl/\Part w3.heap.size wr (.slice L m cl) (AR.take m)/\Below w3.heap.size (w3.alloc (.cells #[] 32)) wr)
   (λ_ i _=>AR.length - (intOf i).toNat)
  case atStart=>exact ⟨0,_,_,Nat.zero_le _,rfl,rfl,hQ,eI _ _⟩
  case round=>
   clear hQ;obtain ⟨m,L,cl,hm2,rfl,rfl,hP,hbq⟩:=hrel;have hgq:Bw w wr:=(g3.alloc g3.size _).trans (hbq.mono g3.size);have szq:w3.heap.size+1<=wr.heap.size:=by have:=hbq.size;simpa using this
   by_cases hlt2:m<AR.length;rotate_left
   ·have hje2:m=AR.length:=by omega
    subst hje2;have q4:¬((AR.length:Int)<(AR.length:Int)):=by omega
    rw [List.take_length] at hP;obtain ⟨A',c',e,hf⟩:=hP.fresh;injection e with e1 e2 e3;subst e1;have hf:=hf.mono g3.size;clear hP;go_wp2_with fail
    go_ret;exact ⟨_,_,rfl,hf,hgq⟩
   have q4:(m:Int)<(AR.length:Int):=by omega
   have q5:decide (m<AR.length)=true:=decide_eq_true hlt2;obtain ⟨kt,nt,st,htj⟩:∃kt nt st,AR[m] = .mk kt nt st:=by cases AR[m] with|mk a b l=>exact ⟨a,b,l,rfl⟩
   have rA:=rA3.blocks (w':=wr) λb hb _=>hbq.block b hb
   obtain ⟨bt,ot,At,ct,hLt,x1,x2,x3,hlt3,rt⟩:=kC rA hlt2 htj;subst hLt;have lbt:=kF _ _ x1;have hvt:=hAS.out _ (gM hlt2);rw [htj] at hvt;have hzt:=aH hvt;have hCp:=aD (λ(w:Bb) (hra:Rd w At 0 st)=>dF _ kt nt st At ct w (mV _) Ac hra);have e1:AR.take m++[.mk kt nt st]=AR.take (m+1):=by rw [tM hlt2,htj]
   have e2:(AR.take m).length=m:=by rw [List.length_take];omega
   have e1:=aD e1;have e2:=aD e2;clear hvt htj;go_wp2_with (first
    | (at_builtin;have _t:=tok5;refine cZ (B:=w3.heap.size) (w0:=wr) (m:=m) (k:=kt) (n:=nt) (c:=c9) hP hb9 Ac hf9 hl9 e2.out Ac rfl _ _ rfl rfl rfl ?_;intro L10 c10 w10 hP10 hb10 hg10;clear tok5)
    | (go_at_call 35;refine (hCp.out _ rt.rd).mono ?_;rintro e w9 ⟨A9,c9,rfl,hl9,hf9,hb9⟩;have s9:=hb9.size;have gx9:=hbq.trans (hb9.mono Ac);have tok5:=trivial))
   have gx10:=gx9.trans hb10;rw [e1.out] at hP10;go_roundw
   case rel=>exact ⟨m+1,L10,c10,by omega,by go_num,by go_num,hP10,gx10⟩
   case measure=>simp [intOf];omega
 ·rw [vQ hok];by_cases hs:Sok ctx (.mk k n ks)
  ·obtain rfl:=hb.2 hs;have hzz:z<0\/3<z:=by
    by_cases h:z<0
    ·exact .inl h
    ·right
     by_cases h3:3<z
     ·exact h3
     ·exact absurd ⟨hs,by omega,by omega⟩ hok
   clear hb hok hs;by_cases h0:z<0
   ·have q0:decide (z<0)=true:=decide_eq_true h0;go_enter func22,ntmps22;go_wp2_with (go_at_call 28;refine (hS.out _ (hrc.alloc _) (hra.alloc _)).mono ?_;rintro e w1 ⟨n2,c2,rfl,hc2,hb1⟩;obtain rfl:c2=0:=(by simpa using hc2);have g1:Bw w w1:=bN bw1 hb1);go_ret;exact ⟨_,_,rfl,Fresh.nil,g1.alloc g1.size _⟩
   ·have h3:3<z:=by omega
    have q0:decide (z<0)=false:=decide_eq_false h0;have q1:decide (3<z)=true:=decide_eq_true h3;go_enter func22,ntmps22;go_wp2_with (go_at_call 28;refine (hS.out _ (hrc.alloc _) (hra.alloc _)).mono ?_;rintro e w1 ⟨n2,c2,rfl,hc2,hb1⟩;obtain rfl:c2=0:=(by simpa using hc2);have g1:Bw w w1:=bN bw1 hb1);go_ret;exact ⟨_,_,rfl,Fresh.nil,g1.alloc g1.size _⟩
  ·obtain rfl:b=false:=by
    cases b with
    | false=>rfl
    | true=>exact absurd (hb.1 rfl) hs
   clear hb hok hs;go_enter func22,ntmps22;go_wp2_with (go_at_call 28;refine (hS.out _ (hrc.alloc _) (hra.alloc _)).mono ?_;rintro e w1 ⟨n2,c2,rfl,hc2,hb1⟩;have qc:(c2 != 0)=true:=(by simpa using hc2);have g1:Bw w w1:=bN bw1 hb1);go_ret;exact ⟨_,_,rfl,Fresh.nil,g1.alloc g1.size _⟩
noncomputable def aLi (ctx:List Tm)(want:Tm)(z:Int):Bool:=decide (0<(aEh ctx want z).length)
theorem aLa (ctx:List Tm)(C:Ba)(cc:Nat)(k n:Int)(ks:List Tm)(A:Ba)(c:Nat)(z:Int)(w:Bb)(hcc:ctx.length<=cc)(hsz:aG ctx<=2000000)(hz:aG ks<=2000000)(hrc:Rd w C 0 ctx)(hra:Rd w A 0 ks) :
  Calls prog 20 #[.slice C ctx.length cc,.agg (Ro k n A ks.length c),.int .i64 z] w λe w'=>e = .returned (.bool (aLi ctx (.mk k n ks) z))/\Bw w w':=by
 have hS:=aD (λ(w:Bb) (hrc:Rd w C 0 ctx) (hra:Rd w A 0 ks)=>aDi ctx C cc k n ks A c z w hcc hsz hz hrc hra);unfold aLi;generalize aEh ctx (.mk k n ks) z=R at hS⊢;go_enter func20,ntmps20;go_wp2_with (go_at_call 22;refine (hS.out _ (hrc.alloc _) (hra.alloc _)).mono ?_;rintro e w1 ⟨L1,c1,rfl,fL1,hb1⟩;have g1:Bw w w1:=bN bw1 hb1);go_ret;exact ⟨by simp,g1⟩
theorem aOs (ctx:List Tm)(C:Ba)(cc:Nat)(k n:Int)(ks:List Tm)(A:Ba)(c:Nat)(z:Int)(w:Bb)(hcc:ctx.length<=cc)(hsz:aG ctx<=2000000)(hz:aG ks<=2000000)(hlk:ks.length<=9223372036854775807)(hrc:Rd w C 0 ctx)(hra:Rd w A 0 ks) :
  Calls prog 21 #[.slice C ctx.length cc,.agg (Ro k n A ks.length c),.int .i64 z] w λe w'=>e = .returned (.bool (aLi ctx (.mk k n ks) z))/\Bw w w':=by
 have hS:=aD (λ(w:Bb) (hrc:Rd w C 0 ctx) (hra:Rd w A 0 ks)=>aEj ctx C cc k n ks A c z w hcc hsz hz hlk hrc hra);unfold aLi;generalize aEh ctx (.mk k n ks) z=R at hS⊢;go_enter func21,ntmps21;go_wp2_with (go_at_call 23;refine (hS.out _ (hrc.alloc _) (hra.alloc _)).mono ?_;rintro e w1 ⟨L1,c1,rfl,fL1,hb1⟩;have g1:Bw w w1:=bN bw1 hb1);go_ret;exact ⟨by simp,g1⟩
theorem aAo (ts:List Tm)(B:Ba)(cb:Nat)(k n:Int)(ks:List Tm)(A:Ba)(c:Nat)(z:Int)(w:Bb)(hlB:ts.length<=9223372036854775807)(hrB:Rd w B 0 ts)(hl:ks.length<=9223372036854775807)(hr:Rd w A 0 ks) :
  Calls prog 4 #[.slice B ts.length cb,.agg (Ro k n A ks.length c),.int .i64 z] w λe w'=>e = .returned (.bool true)/\Bw w w':=by
 by_cases hs:aG ts<=1048576;rotate_left
 ·have hsz:=aGn (left:=1048576) (m:=aG ts) Ac;clear hs;go_enter func4,ntmps4;go_wp2_with (go_at_call 7;refine (mA (aG ts+1) ts B cb 1048576 _ Ac hlB (hrB.alloc _) Ac Ac).mono ?_;rw [hsz];rintro e w1 ⟨rfl,hb1⟩;replace hb1:=bw1.trans (hb1.mono Ag));go_ret;exact ⟨rfl,hb1⟩
 have hsz:=aBl (left:=1048576) (m:=aG ts) Ac;have hz:=aD hs;have hneg:decide ((1048576:Int) - (aG ts:Int)<0)=false:=decide_eq_false Ac;by_cases hs2:(aG ks:Int)<=1048576 - aG ts;rotate_left
 ·have hsz2:=aGn (left:=1048576 - aG ts) (m:=aG ks) Ac;clear hs hs2;go_enter func4,ntmps4;go_wp2_with (first
   | (go_at_call 8;refine (xF k n ks A c (1048576 - aG ts) _ hl (hr.below g1) (by have:=hz.out;omega) Ac).mono ?_;rw [hsz2];rintro e w2 ⟨rfl,hb2⟩;have g2:=g1.trans (hb2.mono g1.size))
   | (go_at_call 7;refine (mA (aG ts+1) ts B cb 1048576 _ Ac hlB (hrB.alloc _) Ac Ac).mono ?_;rw [hsz];rintro e w1 ⟨rfl,hb1⟩;have hB:=(aC w 24 (Ro k n A ks.length c) rfl).keep hb1;obtain ⟨p0,p1,p2⟩:=hB.three;have g1:Bw w w1:=bN bw1 hb1))
  go_ret;exact ⟨rfl,g2⟩
 have hsz2:=aBl (left:=1048576 - aG ts) (m:=aG ks) hs2;have hz2:=aD hs2;have hneg2:decide ((1048576:Int) - (aG ts:Int) - (aG ks:Int)<0)=false:=decide_eq_false Ac;have hneg3:decide ((1:Int)+2*(aG ts:Int)+2*(aG ks:Int)<0)=false:=decide_eq_false Ac;have hS:=aD (λ(w:Bb) (C:Ba) (cc:Nat) (A:Ba) (c:Nat) (hcc:ts.length<=cc) (hrc:Rd w C 0 ts) (hra:Rd w A 0 ks)=>aLa ts C cc k n ks A c z w hcc Ac Ac hrc hra);have hI:=aD (λ(w:Bb) (C:Ba) (cc:Nat) (A:Ba) (c:Nat) (hcc:ts.length<=cc) (hrc:Rd w C 0 ts) (hra:Rd w A 0 ks)=>aOs ts C cc k n ks A c z w hcc Ac Ac hl hrc hra);generalize aLi ts (.mk k n ks) z=U at hS hI;have t1:=trivial;clear hs hs2;go_enter func4,ntmps4;go_upto_region 8 with (first
  | (go_at_call 8;have _t:=t2;refine (xF k n ks A c (1048576 - aG ts) _ hl (hr.below g1) (by have:=hz.out;omega) Ac).mono ?_;rw [hsz2];rintro e w2 ⟨rfl,hb2⟩;clear p0 p1 p2;replace hB:=hB.keep hb2;have g2:=g1.trans (hb2.mono g1.size);clear t2;have t3:=trivial)
  | (go_at_call 7;have _t:=t1;refine (mA (aG ts+1) ts B cb 1048576 _ Ac hlB (hrB.alloc _) Ac Ac).mono ?_;rw [hsz];rintro e w1 ⟨rfl,hb1⟩;have hB:=(aC w 24 (Ro k n A ks.length c) rfl).keep hb1;obtain ⟨p0,p1,p2⟩:=(hB).three;have g1:Bw w w1:=bN bw1 hb1;clear t1;have t2:=trivial))
 have u0:=hB.rule (i:=0) rfl;have u1:=hB.rule (i:=1) rfl;have u2:=hB.rule (i:=2) rfl;refine bQ (λw'=>Bw w2 w') [0,2,4] [1,3,5] [6] [_,_,_] [_,_,_] [_] (by kernel_rfl) (by kernel_rfl) rfl rfl rfl (λ_ _ d _ _ h=>by cases d<;>exact h) (eI _ _).drew ?_;refine bU (aD ?_);refine bO ?_;go_wp2_with (go_at_call 10;refine (kG (aG ts+1) ts B cb _ Ac (by have:=hz.out;omega) (hrB.below g2).drew).mono ?_;rintro e w3 ⟨B3,c3,rfl,hc3,hf3,hb3⟩);replace hb3:Bw w2 w3:=(eI _ _).drew.trans hb3;refine aS hb3 (bO ?_);go_wp2_with (go_at_call 11;refine (oA k n ks A c _ (by have:=hz.out;have:=hz2.out;omega) ((hr.below g2).below hb3)).mono ?_;rintro e w4 ⟨A4,c4,rfl,hl4,hf4,hb4⟩);have hb24:=hb3.trans (hb4.mono hb3.size);refine aS hb24 (bO ?_);go_wp2_with (go_at_call 20;refine (hS.out _ B3 c3 A4 c4 hc3 (hf3.rd.below hb4) hf4.rd).mono ?_;rintro e w5 ⟨rfl,hb5⟩);have hb25:=hb24.trans (hb5.mono hb24.size);refine aS hb25 (eB ?_);clear u0 u1 u2 hf3 hf4 t3;have t3:=trivial;have g5:=g2.trans (hb25.mono g2.size);replace hB:=hB.keep hb25;clear hb24 hb25 hb3 hb4 hb5;obtain ⟨p0,p1,p2⟩:=hB.three;go_upto_region 16 with (first
  | (go_at_call 14;have _t:=t7;refine (kJ (aG ts+1) ts B6 c6 ts B10 c10 _ Ac hlB hlB hO6.rd hf10.rd).mono ?_;rw [lW];rintro e w11 ⟨rfl,hb11⟩;replace hB:=hB.keep hb11;replace hC:=hC.keep hb11;replace hO6:=hO6.keep hb11;replace hO7:=hO7.keep hb11;have g11:=g10.trans (hb11.mono g10.size);have H11:=H10.trans (hb11.mono H10.size);clear hf10;clear t7;have t8:=trivial)
  | (go_at_call 10;have _t:=t6;refine (kG (aG ts+1) ts B cb _ Ac (by have:=hz.out;omega) (hrB.below g9)).mono ?_;rintro e w10 ⟨B10,c10,rfl,-,hf10,hb10⟩;replace hB:=hB.keep hb10;replace hC:=hC.keep hb10;replace hO6:=hO6.keep hb10;replace hO7:=hO7.keep hb10;have g10:=g9.trans (hb10.mono g9.size);have H10:=H9.trans (hb10.mono H9.size);clear t6;have t7:=trivial)
  | (go_at_call 21;have _t:=t5;refine (hI.out _ B6 c6 A7 c7 hc6 hO6.rd hO7.rd).mono ?_;rintro e w9 ⟨rfl,hb9⟩;clear q0 q1 q2;replace hB:=hB.keep hb9;replace hC:=hC.keep hb9;replace hO6:=hO6.keep hb9;replace hO7:=hO7.keep hb9;have g9:=(g7.alloc g7.size _).trans (hb9.mono (by have:=g7.size;simp;omega));have H9:=(H7.alloc H7.size _).trans (hb9.mono (by have:=H7.size;simp;omega));clear t5;have t6:=trivial)
  | (go_at_call 11;have _t:=t4;refine (oA k n ks A c _ (by have:=hz.out;have:=hz2.out;omega) (hr.below g6)).mono ?_;rintro e w7 ⟨A7,c7,rfl,hl7,hf7,hb7⟩;clear p0 p1 p2;replace hB:=(hB.keep hb7).alloc (.cells (Ro k n A7 ks.length c7) 32);have hC:=aC w7 32 (Ro k n A7 ks.length c7) rfl;have g7:=g6.trans (hb7.mono g6.size);have H7:=H6.trans (hb7.mono H6.size);replace hO6:=(hO6.keep hb7).alloc (.cells (Ro k n A7 ks.length c7) 32);obtain ⟨fp7,hO7⟩:=hf7.owf;replace hO7:=hO7.alloc (.cells (Ro k n A7 ks.length c7) 32);obtain ⟨q0,q1,q2⟩:=(hC).three;clear hf7;clear t4;have t5:=trivial)
  | (go_at_call 10;have _t:=t3;refine (kG (aG ts+1) ts B cb _ Ac (by have:=hz.out;omega) (hrB.below g5)).mono ?_;rintro e w6 ⟨B6,c6,rfl,hc6,hf6,hb6⟩;clear p0 p1 p2;replace hB:=hB.keep hb6;have g6:=g5.trans (hb6.mono g5.size);have H6:Bw w5 w6:=hb6;obtain ⟨fp6,hO6⟩:=hf6.owf;obtain ⟨p0,p1,p2⟩:=(hB).three;clear hf6;clear t3;have t4:=trivial))
 have u0:=hC.rule (i:=0) rfl;have u1:=hC.rule (i:=1) rfl;have u2:=hC.rule (i:=2) rfl;have q0:=hB.rule (i:=0) rfl;have q1:=hB.rule (i:=1) rfl;have q2:=hB.rule (i:=2) rfl;refine bQ (λw'=>Bw w11 w') [0,1] [2,3] [4] [_,_] [_,_] [_] (by kernel_rfl) (by kernel_rfl) rfl rfl rfl (λ_ _ d _ _ h=>by cases d<;>exact h) (eI _ _).drew ?_;refine bU (aD ?_);refine bO ?_;go_wp2_with (go_at_call 11;refine (oA k n ks A c _ (by have:=hz.out;have:=hz2.out;omega) (hr.below g11).drew).mono ?_;rintro e w12 ⟨A12,c12,rfl,hl12,hf12,hb12⟩);replace hb12:Bw w11 w12:=(eI _ _).drew.trans hb12;refine aS hb12 (bO ?_);replace hO7:=hO7.keep hb12;go_wp2_with (go_at_call 15;refine (aHo k n ks A7 c7 k n ks A12 c12 _ hl7 hl7 hO7.rd hf12.rd).mono ?_;rw [nA];rintro e w13 ⟨rfl,hb13⟩);have hb23:=hb12.trans (hb13.mono hb12.size);refine aS hb23 (eB ?_);clear u0 u1 u2 q0 q1 q2 hf12;replace hB:=hB.keep hb23;replace hC:=hC.keep hb23;replace hO6:=hO6.keep hb23;replace hO7:=hO7.keep hb13;have g13:=g11.trans (hb23.mono g11.size);have H13:=H11.trans (hb23.mono H11.size);go_wp2_with fail;go_ret;exact ⟨rfl,g13⟩
end Go.Proofs.YtjlaenhcemacdaaGreat
