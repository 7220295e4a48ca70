/- Parts of the proof. No condition. -/
import Derived.Test.YtjlaenhcemacdaaGreatK27
open Go.Proofs.Tryz
namespace Go.Proofs.YtjlaenhcemacdaaGreat
open Go.RowKit
set_option maxHeartbeats 8000000
set_option maxRecDepth 100000
set_option linter.unusedSimpArgs false
set_option linter.unusedVariables false
theorem aAr {F:Tm->List Tm}{ctx:List Tm}{want t:Tm}{j:Nat}{ts:List Tm}(ht:bR ((j:Int)+1) 0 (vty ctx j)=t)(h:yl want 4 t=some ts):aGd F ctx want j=gV F ts (.mk 1 (j:Int) []):=by unfold aGd;rw [ht,h]
theorem uP {F:Tm->List Tm}{ctx:List Tm}{want t:Tm}{j:Nat}(ht:bR ((j:Int)+1) 0 (vty ctx j)=t)(h:yl want 4 t=none):aGd F ctx want j=[]:=by unfold aGd;rw [ht,h]
theorem aSz {ok:Tm->Bool}{out:List Tm}{t:Tm}{ts R:List Tm}(h:tQ ok out (t::ts)=R)(ho:out.length<12):tQ ok (if ok t=true then out++[t] else out) ts=R:=by rwa [tQ,Av ho] at h
theorem aIf (ctx:List Tm)(C:Ba)(cc:Nat)(k n:Int)(ks:List Tm)(A:Ba)(c:Nat)(dd:Int)(w:Bb)(hz:aG ks<=1000000)(hm:ctx.length<=9)(hn:dd<1\/8<ctx.length\/aE (.mk k n ks)=false)(hr:Rd w A 0 ks) :
  Calls prog 34 #[.slice C ctx.length cc,.agg (Ro k n A ks.length c),.int .i64 dd] w (kX (λ_=>False) w []):=by
 by_cases h1:dd<1
 ·have q1:decide (dd<1)=true:=decide_eq_true h1;go_enter func34,ntmps34;go_wp2_with fail;go_ret;exact ⟨_,_,rfl,RdP.nil,bw2⟩
 have q1:decide (dd<1)=false:=decide_eq_false h1;by_cases h2:8<ctx.length
 ·have q2:(8:Int)<(ctx.length:Int):=by omega
  have q3:decide (8<ctx.length)=true:=decide_eq_true h2;go_enter func34,ntmps34;go_wp2_with fail;go_ret;exact ⟨_,_,rfl,RdP.nil,bw2⟩
 have q2:¬(8:Int)<(ctx.length:Int):=by omega
 have q3:decide (8<ctx.length)=false:=decide_eq_false h2;have hv:aE (.mk k n ks)=false:=by rcases hn with h|h|h;exact absurd h h1;exact absurd h h2;exact h
 have hT:=aD (λ(w:Bb) (hra:Rd w A 0 ks)=>aR k n ks A c w Ac hra);rw [hv] at hT;clear hv hn;go_enter func34,ntmps34;go_wp2_with (go_at_call 41;refine (hT.out _ (hr.alloc _)).mono ?_;rintro e w1 ⟨rfl,hb1⟩;have g1:Bw w w1:=bN bw1 hb1);go_ret;exact ⟨_,_,rfl,RdP.nil,g1.alloc g1.size _⟩
theorem aPv (d:Nat)(ctx:List Tm)(C:Ba)(cc:Nat)(k n:Int)(ks:List Tm)(A:Ba)(c:Nat)(dd:Int)(b:Bool)(w:Bb)(hd1:¬dd<1)(hm:ctx.length<=8)(hv:aE (.mk k n ks)=true)(hh:jB (.mk k n ks) = .no b)(hr:Rd w A 0 ks) :
  Calls prog 34 #[.slice C ctx.length cc,.agg (Ro k n A ks.length c),.int .i64 dd] w (kX (λ_=>False) w []):=by
 have hz:=aH hv;have q1:decide (dd<1)=false:=decide_eq_false hd1;have q2:¬(8:Int)<(ctx.length:Int):=by omega
 have q3:decide (8<ctx.length)=false:=decide_eq_false Ac;have hT:=aD (λ(w:Bb) (hra:Rd w A 0 ks)=>aR k n ks A c w Ac hra);rw [hv] at hT;have hH:=aD (λ(w:Bb) (hra:Rd w A 0 ks)=>show Calls prog 45 _ w (aWn w b) by have:=iV k n ks A c w hv hra;rw [hh] at this;exact this);have qb:=dP b;clear hv hh;go_enter func34,ntmps34;go_wp2_with (first
  | (go_at_call 45;have _t:=tok1;refine (hH.out _ (hr.below g1)).mono ?_;rintro e w2 ⟨k4,n4,A4,l4,c4,rfl,hb2⟩;have g2:Bw w w2:=g1.trans (hb2.mono g1.size);clear tok1)
  | (go_at_call 41;refine (hT.out _ (hr.alloc _)).mono ?_;rintro e w1 ⟨rfl,hb1⟩;have hX1:Blk w1 w.heap.size (Ro k n A ks.length c):=(aC w 32 (Ro k n A ks.length c) rfl).keep hb1;have g1:Bw w w1:=bN bw1 hb1;obtain ⟨x0,x1,x2⟩:=hX1.three;have tok1:=trivial))
 go_ret;exact ⟨_,_,rfl,RdP.nil,(g2.alloc g2.size _).alloc (by have:=g2.size;simp;omega) _⟩
theorem aNa (d:Nat)(ihF:aAe d)(hd3:d<=10)(dd:Int)(hdd:dd=(d:Int)+1)(ctx:List Tm)(C:Ba)(cc:Nat)(hG:SemG ctx)(hvc:∀u,u∈ctx->aE u=true)(hm:ctx.length<=8)(k n:Int)(ks:List Tm)(A:Ba)(c:Nat)(kh nh:Int)(sh:List Tm)(w:Bb)(hv:aE (.mk k n ks)=true)(hh:jB (.mk k n ks) = .ok (.mk kh nh sh))(hw:SemW ctx (.mk k n ks))(hrc:Rd w C 0 ctx)(hr:Rd w A 0 ks) :
  Calls prog 34 #[.slice C ctx.length cc,.agg (Ro k n A ks.length c),.int .i64 dd] w (kX (λ_=>False) w (tQ (xB ctx (.mk k n ks)) [] (kK (dZ d ctx) ctx (.mk k n ks) ctx.length++nJ (dZ d) ctx (.mk kh nh sh)))):=by
 have hz:=aH hv;have q1:decide (dd<1)=false:=decide_eq_false Ac;have q2:¬(8:Int)<(ctx.length:Int):=by omega
 have q3:decide (8<ctx.length)=false:=decide_eq_false Ac;have hT:=aD (λ(w:Bb) (hra:Rd w A 0 ks)=>aR k n ks A c w Ac hra);rw [hv] at hT;have hH:=aD (λ(w:Bb) (hra:Rd w A 0 ks)=>show Calls prog 45 _ w (aOh w kh nh sh) by have:=iV k n ks A c w hv hra;rw [hh] at this;exact this);have hvh:=aD (cR hh).2.1;have hok:=aD (aJa hG hw hh);replace hG:=aD hG;replace hvc:=aD hvc;have hvt:=aD hv;replace ihF:=aD ihF;replace hdd:=aD hdd;obtain ⟨R,hR⟩:∃R,tQ (xB ctx (.mk k n ks)) [] (kK (dZ d ctx) ctx (.mk k n ks) ctx.length++nJ (dZ d) ctx (.mk kh nh sh))=R:=⟨_,rfl⟩;rw [hR];have hR:=aD hR;clear hv hh hw;go_enter func34,ntmps34;go_wp2_with (first
  | (go_at_call 45;have _t:=tok1;refine (hH.out _ (hr.below g1)).mono ?_;rintro e w2 ⟨A3,c3,rfl,hl3,r3,hb2⟩;have g2:Bw w w2:=g1.trans (hb2.mono g1.size);have hX2:=((hX1.keep hb2).alloc (.cells (Ro kh nh A3 sh.length c3) 32)).alloc (.cells #[] 32);have hH2:=(aC w2 32 (Ro kh nh A3 sh.length c3) rfl).alloc (.cells #[] 32);have r4:=(r3.alloc (.cells (Ro kh nh A3 sh.length c3) 32)).alloc (.cells #[] 32);have hP2:PartR (λ_=>False) (w2.heap.size+1) ((w2.alloc (.cells (Ro kh nh A3 sh.length c3) 32)).alloc (.cells #[] 32)) (.slice (some ⟨w2.heap.size+1,0,none⟩) 0 0) []:=PartR.start Ag Ag;have g4:=(g2.alloc g2.size (.cells (Ro kh nh A3 sh.length c3) 32)).alloc (by have:=g2.size;simp;omega) (.cells #[] 32);have s2:w.heap.size+1<=w2.heap.size:=(by have:=hX1.lt;have:=hb2.size;omega);clear tok1 x0 x1 x2)
  | (go_at_call 41;refine (hT.out _ (hr.alloc _)).mono ?_;rintro e w1 ⟨rfl,hb1⟩;have hX1:Blk w1 w.heap.size (Ro k n A ks.length c):=(aC w 32 (Ro k n A ks.length c) rfl).keep hb1;have g1:Bw w w1:=bN bw1 hb1;obtain ⟨x0,x1,x2⟩:=hX1.three;have tok1:=trivial))
 go_loopw [9,10] (λs i wr=>∃(j:Nat) (out:List Tm) (L:Ba) (cl:Nat),j<=ctx.length/\i = .int .i64 j/\s = .slice L out.length cl/\out.length<=34*j/\PartR (λ_=>False) (w2.heap.size+1) wr (.slice L out.length cl) out/\Hid (out=kK (dZ d ctx) ctx (.mk k n ks) j)/\Below (w2.heap.size+1) ((w2.alloc (.cells (Ro kh nh A3 sh.length c3) 32)).alloc (.cells #[] 32)) wr)
  (λ_ i _ => ctx.length - (intOf i).toNat)
 case atStart=>exact ⟨0,[],_,_,Nat.zero_le _,rfl,rfl,by simp,hP2,aD rfl,eI _ _⟩
 case round=>
  clear hP2;obtain ⟨j,out,L,cl,hj,rfl,rfl,hol,hP,hO,hbr⟩:=hrel;have hgr:Bw w wr:=bN g4 hbr;have hX:=hX2.below hbr Ac;have hHd:=hH2.below hbr Ac;have szr:w2.heap.size+1+1<=wr.heap.size:=by have:=hbr.size;simp at this;omega
  obtain ⟨x0,x1,x2⟩:=hX.three;obtain ⟨h0,h1,h2⟩:=hHd.three;have tok0:=trivial;by_cases hlt:j<ctx.length;rotate_left
  ·have hje:j=ctx.length:=by omega
   have q4:¬((j:Int)<(ctx.length:Int)):=by omega
   have q5:decide (j<ctx.length)=false:=decide_eq_false hlt;have r5:Rd wr A3 0 sh:=(((r3.rdp.alloc (.cells (Ro kh nh A3 sh.length c3) 32)).alloc (.cells #[] 32)).blocks (w':=wr) (λb hb hl=>hbr.block b (by have hb:b<w2.heap.size:=hb;omega))).rd;have hMd:=aD (λ(w:Bb) (hrc:Rd w C 0 ctx) (hr:Rd w A3 0 sh)=>aMj d ihF.out hd3 dd hdd.out ctx C cc hG.out hvc.out hm kh nh sh A3 c3 w hvh.out hok.out hrc hr);have hML:=aEz (dZ d) (λc t=>gX d c t) ctx (.mk kh nh sh);have hMS:=aD (λ(t:Tm) (h:t∈nJ (dZ d) ctx (.mk kh nh sh))=>aAl (F:=dZ d) (λ{c t x} hx=>(mE hx).valid) hvh.out h);have hR2:=hR.out;rw [<- hje,<- hO.out] at hR2;have hOS:=aD (λ(t:Tm) (h:t∈out)=>zX (F:=dZ d ctx) (ctx:=ctx) (want:=.mk k n ks) (m:=j) (t:=t) (by rw [<- hO.out];exact h));generalize nJ (dZ d) ctx (.mk kh nh sh)=MM at hMd hML hMS hR2;have hR2:=aD hR2;have hol3:out.length<=272:=by omega
   obtain ⟨wo,rfl⟩:∃wo,wo=wr:=⟨wr,rfl⟩;clear hje hO hR;go_wp2_with (first
    | (at_builtin;have _t:=tok2;refine dV (lo:=(λ_=>False)) (B:=w2.heap.size+1) hP5 Ac rL5.lt_ (λb hb=>⟨.inr (by have:=hb.1.elim False.elim id;omega),hb.2,λe=>by have:=hP.ownL b e;have:=hb.1.elim False.elim id;omega⟩) rfl Ac rfl Ac rfl _ _ rfl rfl rfl ?_;intro L6 c6 w6 hP6 hb6 hg6 hn6;rw [<- List.length_append] at hP6⊢;generalize hALe:out++MM=AL at hP6⊢;replace hALe:=aD hALe;clear tok2)
    | (go_at_call 56;have _t:=tok0;refine (hMd.out _ (hrc.below hgr) r5).mono ?_;rintro e w5 ⟨A5,c5,rfl,rL5,hb5⟩;have hP5:=hP.below hb5;have s5:=hb5.size;clear tok0 h0 h1 h2 x0 x1 x2;have tok2:=trivial))
   have hAS:=aD (show ∀t,t∈AL->t.size<=2000 by rw [<- hALe.out];exact λt ht=>(List.mem_append.1 ht).elim (hOS.out t) (hMS.out t));have hALL:AL.length<=300:=by rw [<- hALe.out,List.length_append];omega
   have hR3:=aD (show tQ (xB ctx (.mk k n ks)) [] AL=R by rw [<- hALe.out];exact hR2.out);clear hALe;have s6:w5.heap.size<=w6.heap.size:=hb6.size;have g6:Bw w w6:=(hgr.trans (hb5.mono hgr.size)).trans (hb6.mono Ac);have hX6:Blk (w6.alloc (.cells #[] 32)) w.heap.size (Ro k n A ks.length c):=((hX.keep hb5).below hb6 Ac).alloc _;have rA6:RdP (λb=>w2.heap.size+1<=b/\b<w6.heap.size) (w6.alloc (.cells #[] 32)) L6 0 AL:=by
    obtain ⟨A',c',e,hr6⟩:=hP6.rd;injection e with e1 e2 e3;subst e1;exact (hr6.lt_.mono (q:=(λb=>w2.heap.size+1<=b/\b<w6.heap.size)) (λb hb=>⟨hb.1.elim False.elim id,hb.2⟩)).alloc _
   have hQ:PartR (λb=>w2.heap.size+1<=b) w6.heap.size (w6.alloc (.cells #[] 32)) (.slice (some ⟨w6.heap.size,0,none⟩) 0 0) []:=PartR.start (mC _) rfl;go_loopw [13,14] (λs i wr=>∃(m:Nat) (ou:List Tm) (L:Ba) (cl:Nat),m<=AL.length/\i = .int .i64 m/\s = .slice L ou.length cl/\ou.length<=12/\PartR (λb=>w2.heap.size+1<=b) w6.heap.size wr (.slice L ou.length cl) ou/\Hid (tQ (xB ctx (.mk k n ks)) ou (AL.drop m)=R)/\Below w6.heap.size (w6.alloc (.cells #[] 32)) wr)
    (λ_ i _=>AL.length - (intOf i).toNat)
   case atStart=>exact ⟨0,[],_,_,Nat.zero_le _,rfl,rfl,by simp,hQ,hR3,eI _ _⟩
   case round=>
    clear hQ hR3 hP;obtain ⟨m,ou,L,cl,hm2,rfl,rfl,hol2,hP,hR,hbq⟩:=hrel;have hgq:Bw w wr:=(g6.alloc g6.size _).trans (hbq.mono Ac);have szq:w6.heap.size+1<=wr.heap.size:=by have:=hbq.size;simpa using this
    have hdone:ou=R->kX (λ_=>False) w R (.returned (.slice L ou.length cl)) wr:=λe=>by
     subst e;obtain ⟨A',c',e,hr6⟩:=hP.rd;injection e with e1 e2 e3;subst e1;exact ⟨_,_,rfl,hr6.mono λb hb=>.inr (by rcases hb with hb|hb<;>omega),hgq⟩
    replace hdone:=aD hdone;by_cases hlt2:m<AL.length;rotate_left
    ·have hje2:m=AL.length:=by omega
     have q4':¬((m:Int)<(AL.length:Int)):=by omega
     have q5':decide (m<AL.length)=false:=decide_eq_false hlt2;go_wp2_with fail;go_ret;exact hdone.out (by have:=hR.out;rwa [hje2,List.drop_length,tQ] at this)
    have q4':(m:Int)<(AL.length:Int):=by omega
    have q5':decide (m<AL.length)=true:=decide_eq_true hlt2;by_cases ho:ou.length<12;rotate_left
    ·have q6:¬((ou.length:Int)<12):=by omega
     have q7:decide (ou.length<12)=false:=decide_eq_false ho;go_wp2_with fail;go_ret;exact hdone.out (by have:=hR.out;rwa [aFm Ac] at this)
    have q6:(ou.length:Int)<12:=by omega
    have q7:decide (ou.length<12)=true:=decide_eq_true ho;clear hdone;obtain ⟨kt,nt,st,htj⟩:∃kt nt st,AL[m] = .mk kt nt st:=by cases AL[m] with|mk a b l=>exact ⟨a,b,l,rfl⟩
    have rA:RdP (λb=>w2.heap.size+1<=b/\b<w6.heap.size) wr L6 0 AL:=rA6.blocks λb hb _=>hbq.block b hb.2
    obtain ⟨bt,ot,At,ct,hLt,x1,x2,x3,hlt3,rt⟩:=kC rA hlt2 htj;subst hLt;have hsz:aG st<=2000:=by
     have:=hAS.out _ (gM hlt2);rw [htj,Tm.size] at this;omega
    have hRn:=hR.out;rw [List.drop_eq_getElem_cons hlt2,htj] at hRn;replace hRn:=aSz hRn ho;have hXr:=hX6.below hbq Ac;cases hcb:xB ctx (.mk k n ks) (.mk kt nt st);all_goals
     have hCk:=aD (λ(w:Bb) (hrc:Rd w C 0 ctx) (hra:Rd w At 0 st) (hr2:Rd w A 0 ks)=>aGz ctx C cc kt nt st At ct k n ks A c _ w hcb hG.out hvc.out Ac Ac Ac hrc hra hr2);rw [hcb] at hRn;clear hcb htj hR;go_upto_region 19 with fail
     obtain ⟨v0,v1,v2⟩:=fW hXr;obtain ⟨z1,z2,z3⟩:=pG x1 x2 x3
    ·replace hRn:=aD (show tQ (xB ctx (.mk k n ks)) ou (AL.drop (m+1))=R from hRn);refine eK wr [7] [0,1,2,3,4,5] 8 2 (lT:=[_,_,_,_,_,_]) ?_;intro q0 bq0;refine bU (aD ?_);refine aZ 6 ?_
     ·go_wp2_with (go_at_call 57;refine (hCk.out _ ((hrc.below hgq).below bq0) (rt.rd.below bq0) ((hr.below hgq).below bq0)).mono ?_;rintro e q1 ⟨co,rfl,hco,hbq1⟩);refine aV bq0 hbq1 ?_;intro bq1 lq1;refine cK [7] (lB:=[_]) ?_;refine gS (aD ?_);have gx6:=hbq.trans (bq1.mono Ac);have hPw:=hP.below bq1;go_wp2_with fail;go_roundw
      case rel=>exact ⟨m+1,ou,L,cl,by omega,by go_num,rfl,hol2,hPw,hRn,gx6⟩
      case measure=>simp [intOf];omega
    ·replace hRn:=aD (show tQ (xB ctx (.mk k n ks)) (ou++[.mk kt nt st]) (AL.drop (m+1))=R from hRn);refine eK wr [7] [0,1,2,3,4,5] 8 2 (lT:=[_,_,_,_,_,_]) ?_;intro q0 bq0;refine bU (aD ?_);refine aZ 6 ?_
     ·go_wp2_with (go_at_call 57;refine (hCk.out _ ((hrc.below hgq).below bq0) (rt.rd.below bq0) ((hr.below hgq).below bq0)).mono ?_;rintro e q1 ⟨co,rfl,hco,hbq1⟩);refine aV bq0 hbq1 ?_;intro bq1 lq1;refine cK [7] (lB:=[_]) ?_;refine gS (aD ?_);have hPw:=hP.below bq1;have szw:=bq1.size;have px1:=(cM bq1) _ _ x1;have px2:=(cM bq1) _ _ x2;have px3:=(cM bq1) _ _ x3;have rtw:=rt.below bq1;have tokA:=trivial;go_wp2_with (at_builtin;have _t:=tokA;refine bP (k:=kt) (n:=nt) (ks:=st) (m:=ou.length) (q:=(λb=>w2.heap.size+1<=b/\b<w6.heap.size)) (hPw.alloc _) Ai (rtw.alloc _) (λb hb=>⟨.inl hb.1,by simp;have:=hb.2;omega,λe=>by have:=hP.ownB b e;have:=hb.2;omega⟩) hlt3 rfl Ac _ _ (aC q1 32 (Ro kt nt At st.length ct) rfl) rfl _ _ rfl rfl rfl ?_;intro L8 c8 w8 hP8 hb8 hg8 hn8;clear tokA);have hl8:(ou++[Tm.mk kt nt st]).length=ou.length+1:=by simp
      have gx6:=(hbq.trans (bq1.mono Ac)).trans (((eI _ _).alloc Ac _).trans hb8);go_roundw
      case rel=>exact ⟨m+1,_,L8,c8,by omega,by go_num,by rw [hl8],by rw [hl8];omega,by rw [hl8];exact hP8,hRn,gx6⟩
      case measure=>simp [intOf];omega
  have q4:(j:Int)<(ctx.length:Int):=by omega
  have q5:decide (j<ctx.length)=true:=decide_eq_true hlt;have hlt2:ctx.length - 1 - j<ctx.length:=by omega
  have hvy:=zN hvc.out hlt;have hyx:vty ctx j=ctx[ctx.length - 1 - j]:=aBh hlt;obtain ⟨b,off,k1,n1,ks1,A1,c1,hC,hkj,hc1,hc2,hc3,hl1,hr1⟩:=(hrc.below hgr).at_ hlt2;subst hC;rw [hyx,hkj] at hvy;have hz1:=aH hvy;obtain ⟨k5,n5,s5,h5⟩:=gQ (bR ((j:Int)+1) 0 (.mk k1 n1 ks1));have hz5:aG s5<=1000000:=by
   have h1:=nC ((j:Int)+1) (.mk k1 n1 ks1) 0;rw [h5,Tm.size,Tm.size] at h1;omega
  have hSh:=aD (show ∀(w:Bb) (hr:Rd w A1 0 ks1),Calls prog 29 #[.agg (Ro k1 n1 A1 ks1.length c1),.int .i64 ((j:Int)+1),.int .i64 0] w (rQ w k5 n5 s5) from λw hr=>by
   have:=gI _ k1 n1 ks1 A1 c1 ((j:Int)+1) 0 30 w (mV _) Ac (aY hvy) Ac Ac Ac hr;rw [bR] at h5;injection h5 with e1 e2 e3;subst e1;rw [e2,e3] at this;exact this)
  have hcan:bR ((j:Int)+1) 0 (vty ctx j) = .mk k5 n5 s5:=by rw [hyx,hkj,h5]
  have hsem:SemW ctx (.mk k5 n5 s5):=by
   have:=(hG.out).var hlt;have e:ctx.getD (ctx.length - 1 - j) default = .mk k1 n1 ks1:=by rw [<- hkj,<- hyx];rfl
   rw [e,h5] at this;exact this
  have hX0:=λ(w:Bb) (A5:Ba) (c5:Nat) (hr:Rd w A5 0 s5) (hr2:Rd w A 0 ks)=>aDk k5 n5 s5 A5 c5 k n ks A c w hz5 hvt.out hr hr2
  have e1:((ctx.length:Int) - 1 - (j:Int))=((ctx.length - 1 - j:Nat):Int):=by omega
  clear h5 hkj hvy hyx;generalize hi:ctx.length - 1 - j=i at *
  clear hi;cases hy:yl (.mk k n ks) 4 (.mk k5 n5 s5) with
  | none=>
   rw [hy] at hX0;replace hcan:=uP (F:=dZ d ctx) hcan hy;have hX0:=aD (show ∀(w:Bb) (A5:Ba) (c5:Nat) (hr:Rd w A5 0 s5) (hr2:Rd w A 0 ks),Calls prog 30 _ w (λe w'=>e = .returned (.int .i64 (-1))/\Bw w w') from hX0);have hO':=aD (show out=kK (dZ d ctx) ctx (.mk k n ks) (j+1) by rw [lR,hcan,List.append_nil,<- hO.out]);clear hO hcan hy hsem;go_wp2_with (first
    | (go_at_call 30;have _t:=tok2;refine (hX0.out _ A5 c5 (hf5.rd.alloc _) (((hr.below hgr).below hb3).alloc _)).mono ?_;rintro e w4 ⟨rfl,hb4⟩;have b4:=b3.trans (hb4.mono (by have:=b3.size;simp at this⊢;omega));have hP4:=hP3.below hb4;clear tok2)
    | (go_at_call 29;have _t:=tok0;refine (hSh.out _ hr1).mono ?_;rintro e w3 ⟨A5,c5,rfl,hl5,hf5,hb3⟩;clear x0 x1 x2 h0 h1 h2 tok0;have hX3:=(hX.keep hb3).alloc (.cells (Ro k5 n5 A5 s5.length c5) 32);have hP3:=(hP.below hb3).alloc (.cells (Ro k5 n5 A5 s5.length c5) 32);have b3:Below (w2.heap.size+1) _ (w3.alloc (.cells (Ro k5 n5 A5 s5.length c5) 32)):=(hbr.trans (hb3.mono Ac)).alloc (by have:=hb3.size;omega) _;obtain ⟨y0,y1,y2⟩:=(aC w3 32 (Ro k5 n5 A5 s5.length c5) rfl).three;obtain ⟨x0,x1,x2⟩:=hX3.three;have tok2:=trivial))
   exact ⟨⟨j+1,out,L,cl,by omega,by go_num,rfl,by omega,hP4,hO',b4⟩,by simp [intOf];omega⟩
  | some tl=>
   rw [hy] at hX0;replace hcan:=aAr (F:=dZ d ctx) hcan hy;have hX0:=aD (show ∀(w:Bb) (A5:Ba) (c5:Nat) (hr:Rd w A5 0 s5) (hr2:Rd w A 0 ks),Calls prog 30 _ w (λe w'=>e = .returned (.int .i64 (0+(tl.length:Int)))/\Bw w w') from hX0);have htl:=aGv hy;have hCl:=aD (show ∀(A5:Ba) (c5:Nat) (w:Bb) (hrc:Rd w (some ⟨b,off,none⟩) 0 ctx) (hr5:Rd w A5 0 s5) (hr2:Rd w A 0 ks),Calls prog 54 #[.slice (some ⟨b,off,none⟩) ctx.length cc,.agg (Ro 1 (j:Int) none 0 0),.agg (Ro k5 n5 A5 s5.length c5),.agg (Ro k n A ks.length c),.int .i64 dd,.int .i64 (0+(tl.length:Int))] w (kX (λ_=>False) w (gV (dZ d ctx) tl (.mk 1 (j:Int) []))) from λA5 c5 w hrc hr5 hr2=>xL d ihF.out ctx (some ⟨b,off,none⟩) cc k n ks A c hG.out hvc.out hm dd hdd.out hd3 tl 4 k5 n5 s5 A5 c5 1 (j:Int) [] none 0 (0+(tl.length:Int)) (λ_=>False) w hy (aNi hG.out hsem hy) Ac Ac (by simp [aG];omega) (λb hb=>hb.elim) hrc RdP.nil hr5 hr2);have hLl:=mZ (F:=dZ d ctx) (ts:=tl) (f:=.mk 1 (j:Int) []);have hO':=aD (show out++gV (dZ d ctx) tl (.mk 1 (j:Int) [])=kK (dZ d ctx) ctx (.mk k n ks) (j+1) by rw [lR,hcan,<- hO.out]);generalize gV (dZ d ctx) tl (.mk 1 (j:Int) [])=LL at hCl hLl hO';have q6:(0:Int)<=0+(tl.length:Int):=by omega
   have q7:decide ((0:Int)<=0+(tl.length:Int))=true:=decide_eq_true q6;generalize (0:Int)+(tl.length:Int)=mm at hX0 hCl q6 q7;clear hO hcan hy hsem;go_upto_region 13 with (first
    | (go_at_call 30;have _t:=tok2;refine (hX0.out _ A5 c5 (hf5.rd.alloc _) (((hr.below hgr).below hb3).alloc _)).mono ?_;rintro e w4 ⟨rfl,hb4⟩;have b4:=b3.trans (hb4.mono (by have:=b3.size;simp at this⊢;omega));have hP4:=hP3.below hb4;have hX4:=hX3.keep hb4;have hT4:=(aC w3 32 (Ro k5 n5 A5 s5.length c5) rfl).keep hb4;have rt4:=(hf5.rd.alloc (.cells (Ro k5 n5 A5 s5.length c5) 32)).below hb4;have s3:=hb3.size;have s4:w3.heap.size+1<=w4.heap.size:=(by have:=hb4.size;simpa using this);clear tok2 x0 x1 x2 y0 y1 y2)
    | (go_at_call 29;have _t:=tok0;refine (hSh.out _ hr1).mono ?_;rintro e w3 ⟨A5,c5,rfl,hl5,hf5,hb3⟩;clear x0 x1 x2 h0 h1 h2 tok0;have hX3:=(hX.keep hb3).alloc (.cells (Ro k5 n5 A5 s5.length c5) 32);have hP3:=(hP.below hb3).alloc (.cells (Ro k5 n5 A5 s5.length c5) 32);have b3:Below (w2.heap.size+1) _ (w3.alloc (.cells (Ro k5 n5 A5 s5.length c5) 32)):=(hbr.trans (hb3.mono Ac)).alloc (by have:=hb3.size;omega) _;obtain ⟨y0,y1,y2⟩:=(aC w3 32 (Ro k5 n5 A5 s5.length c5) rfl).three;obtain ⟨x0,x1,x2⟩:=hX3.three;have tok2:=trivial))
   have g44:Bw w w4:=bN g4 b4;obtain ⟨v0,v1,v2⟩:=fW hX4;obtain ⟨u0,u1,u2⟩:=fW hT4;refine eK w4 [9,10] [0,1,2,4,5,6,7] 11 4 (lT:=[_,_,_,_,_,_,_]) ?_;intro q0 bq0;refine bU (aD ?_);refine aZ 3 ?_
   ·go_wp2_with (go_at_call 55;refine (cC 1 (j:Int) _).mono ?_;rintro e q1 ⟨rfl,hbq1⟩);refine aV bq0 hbq1 ?_;intro bq1 lq1;refine aZ 8 ?_
    ·go_wp2_with (go_at_call 54;refine (hCl.out A5 c5 _ ((hrc.below g44).below bq1) (rt4.below bq1) ((hr.below g44).below bq1)).mono ?_;rintro e q2 ⟨A8,c8,rfl,rLq2,hbq2⟩);refine aV bq1 hbq2 ?_;intro bq2 lq2;refine cK [9,10] (lB:=[_,_]) ?_;refine gS (aD ?_);have hPw:=hP4.below bq2;have szw:=bq2.size;have sz8:=bq1.size;refine dV (lo:=(λ_=>False)) (B:=w2.heap.size+1) hPw Ac rLq2.lt_ (λb hb=>?_) rfl Ac rfl Ac rfl _ _ rfl rfl rfl ?_
     ·obtain ⟨hb1,hb2⟩:=hb;rcases hb1 with hb1|hb1
      ·exact hb1.elim
      ·exact ⟨.inr Ac,hb2,λe=>by have:=hP.ownL b e;omega⟩
     intro L6 c6 w6 hP6 hb6 hg6 hn6;have hl6:(out++LL).length=out.length+LL.length:=by simp
     have gx6:=b4.trans ((bq2.mono Ac).trans hb6);go_wp2_with fail;go_roundw
     case rel=>exact ⟨j+1,_,L6,c6,by omega,by go_num,by rw [hl6],by rw [hl6];omega,by rw [hl6];exact hP6,hO',gx6⟩
     case measure=>simp [intOf];omega
theorem PartR.gotQ {p q:Nat->Prop}{B:Nat}{w:Bb}{L:Ba}{m c:Nat}{ts:List Tm}(h:PartR p B w (.slice L m c) ts)(hq:∀b,p b\/B<=b->q b):RdP q w L 0 ts:=by
 obtain ⟨A,c',e,hr⟩:=h.rd;injection e with e1 e2 e3;subst e1;exact hr.mono hq
def yE (w:Bb)(ts:List Tm)(e:Ending)(w':Bb):Prop:=∃A c,e = .returned (.slice A ts.length c)/\Fresh w.heap.size w' A ts/\Bw w w'
def aAc (d:Nat):Prop:=∀(ctx:List Tm) (C:Ba) (cc:Nat) (k n:Int) (ks:List Tm) (A:Ba) (c:Nat) (w:Bb),SemG ctx->(∀u,u∈ctx->aE u=true)->ctx.length<=9->SemW ctx (.mk k n ks)->aG ks<=1000000->Rd w C 0 ctx->Rd w A 0 ks->
  Calls prog 37 #[.slice C ctx.length cc,.agg (Ro k n A ks.length c),.int .i64 (d:Int)] w (yE w (dZ d ctx (.mk k n ks)))
theorem aEb {w:Bb}{b off m:Nat}:∀{ts:List Tm} {i:Nat},Rd w (some ⟨b,off,none⟩) (i+m) ts->Rd w (some ⟨b,off+m*3,none⟩) i ts
 | [],i,_=>Rd.nil
 | .mk k n ks::ts,i,h=>by
  obtain ⟨⟨b',off',e,hc⟩,h2⟩:=Rd.cons_iff.1 h;injection e with e;injection e with e1 e2;subst e1 e2;obtain ⟨h3,h4,A,c,h5,h6,h7⟩:=RdC.iff.1 hc;have e:off+(i+m)*3=off+m*3+i*3:=by omega
  rw [e] at h3 h4 h5;exact Rd.cons_iff.2 ⟨⟨b,off+m*3,rfl,RdC.iff.2 ⟨h3,h4,A,c,h5,h6,h7⟩⟩,aEb (by rw [show i+1+m=i+m+1 by omega];exact h2)⟩
theorem aPc {p:Nat->Prop}{w:Bb}{g:Nat}{k0 n0 k1 n1:Int}{s0 s1:List Tm}{A0 A1:Ba}{c0 c1:Nat}(hB:Blk w g #[.int .i64 k0,.int .i64 n0,.slice A0 s0.length c0,.int .i64 k1,.int .i64 n1,.slice A1 s1.length c1])(hg:p g)(l0:s0.length<=9223372036854775807)(r0:RdP p w A0 0 s0)(l1:s1.length<=9223372036854775807)(r1:RdP p w A1 0 s1):RdP p w (some ⟨g,0,none⟩) 0 [.mk k0 n0 s0,.mk k1 n1 s1]:=
 RdP.cons_iff.2 ⟨⟨g,0,rfl,RdPC.iff.2 ⟨hg,hB.at_ (i:=0) rfl,hB.at_ (i:=1) rfl,A0,c0,hB.at_ (i:=2) rfl,l0,r0⟩⟩,RdP.cons_iff.2 ⟨⟨g,0,rfl,RdPC.iff.2 ⟨hg,hB.at_ (i:=3) rfl,hB.at_ (i:=4) rfl,A1,c1,hB.at_ (i:=5) rfl,l1,r1⟩⟩,RdP.nil⟩⟩
theorem aUd {p:Nat->Prop}{w:Bb}{g:Nat}{k0 n0 k1 n1 k2 n2:Int}{s0 s1 s2:List Tm}{A0 A1 A2:Ba}{c0 c1 c2:Nat}(hB:Blk w g #[.int .i64 k0,.int .i64 n0,.slice A0 s0.length c0,.int .i64 k1,.int .i64 n1,.slice A1 s1.length c1,.int .i64 k2,.int .i64 n2,.slice A2 s2.length c2])(hg:p g)(l0:s0.length<=9223372036854775807)(r0:RdP p w A0 0 s0)(l1:s1.length<=9223372036854775807)(r1:RdP p w A1 0 s1)(l2:s2.length<=9223372036854775807)(r2:RdP p w A2 0 s2):RdP p w (some ⟨g,0,none⟩) 0 [.mk k0 n0 s0,.mk k1 n1 s1,.mk k2 n2 s2]:=
 RdP.cons_iff.2 ⟨⟨g,0,rfl,RdPC.iff.2 ⟨hg,hB.at_ (i:=0) rfl,hB.at_ (i:=1) rfl,A0,c0,hB.at_ (i:=2) rfl,l0,r0⟩⟩,RdP.cons_iff.2 ⟨⟨g,0,rfl,RdPC.iff.2 ⟨hg,hB.at_ (i:=3) rfl,hB.at_ (i:=4) rfl,A1,c1,hB.at_ (i:=5) rfl,l1,r1⟩⟩,RdP.cons_iff.2 ⟨⟨g,0,rfl,RdPC.iff.2 ⟨hg,hB.at_ (i:=6) rfl,hB.at_ (i:=7) rfl,A2,c2,hB.at_ (i:=8) rfl,l2,r2⟩⟩,RdP.nil⟩⟩⟩
theorem vZ {p:Nat->Prop}{w:Bb}{g:Nat}{k0 n0:Int}{s0:List Tm}{A0:Ba}{c0:Nat}(hB:Blk w g (Ro k0 n0 A0 s0.length c0))(hg:p g)(l0:s0.length<=9223372036854775807)(r0:RdP p w A0 0 s0):RdP p w (some ⟨g,0,none⟩) 0 [.mk k0 n0 s0]:=
 RdP.cons_iff.2 ⟨⟨g,0,rfl,RdPC.iff.2 ⟨hg,hB.at_ (i:=0) rfl,hB.at_ (i:=1) rfl,A0,c0,hB.at_ (i:=2) rfl,l0,r0⟩⟩,RdP.nil⟩
theorem aDm (d:Nat)(ihF:aAc d)(ctx:List Tm)(C:Ba)(cc:Nat)(hG:SemG ctx)(hvc:∀u,u∈ctx->aE u=true)(hm:ctx.length<=8)(dd:Int)(hdd:dd=(d:Int)+1)(hd3:d<=10) :
  ∀(ts:List Tm) (T:Ba) (ct:Nat) (kf nf:Int) (sf:List Tm) (F:Ba) (cf:Nat) (p:Nat->Prop) (w:Bb),aKm ctx ts->(∀t,t∈ts->aE t=true)->ts.length<=3->ts.length<=ct->aG sf+1000*ts.length<=10000->(∀b,p b->b<w.heap.size)->Rd w C 0 ctx->RdP p w F 0 sf->Rd w T 0 ts->
  Calls prog 59 #[.slice C ctx.length cc,.agg (Ro kf nf F sf.length cf),.slice T ts.length ct,.int .i64 dd] w (kX p w (gV (dZ d ctx) ts (.mk kf nf sf)))
 | [],T,ct,kf,nf,sf,F,cf,p,w,hts,hvt,hl3,hct,hsz,hp,hrc,hf,hr=>by
  have hsz:aG sf<=10000:=by simpa using hsz
  clear hts hl3 hct hvt;change Calls _ _ #[.slice C ctx.length cc,.agg (Ro kf nf F sf.length cf),.slice T 0 ct,.int .i64 dd] w _;have hlf:=aJ sf;have hT:=aD (λ(w:Bb) (hr:Rd w F 0 sf)=>bB kf nf sf F cf w Ac hr);rw [gV];cases hvf:aE (.mk kf nf sf) with
  | false=>
   rw [hvf] at hT;rw [Aw Ah];clear hvf;go_enter func59,ntmps59;go_wp2_with (go_at_call 58;refine (hT.out _ (hf.rd.alloc _)).mono ?_;rintro e w1 ⟨rfl,hb1⟩;have g1:Bw w w1:=bN bw1 hb1);go_ret;exact ⟨none,0,rfl,RdP.nil,g1⟩
  | true=>
   rw [hvf] at hT;rw [Av rfl];clear hvf;go_enter func59,ntmps59;go_wp2_with (go_at_call 58;refine (hT.out _ (hf.rd.alloc _)).mono ?_;rintro e w1 ⟨rfl,hb1⟩;have hX1:Blk w1 w.heap.size (Ro kf nf F sf.length cf):=(aC w 32 (Ro kf nf F sf.length cf) rfl).keep hb1;have g1:Bw w w1:=bN bw1 hb1;obtain ⟨x0,x1,x2⟩:=hX1.three);go_ret;exact ⟨_,_,rfl,vZ (aC w1 32 (Ro kf nf F sf.length cf) rfl) (.inr g1.size) Ac (((hf.below g1).alloc _).mono λb hb=>.inl hb),g1.alloc g1.size _⟩
 | .mk ka na sa::ts,T,ct,kf,nf,sf,F,cf,p,w,hts,hvt,hl3,hct,hsz,hp,hrc,hf,hr=>by
  have ih:=λ(T:Ba) (ct:Nat) (sf:List Tm) (F:Ba) (cf:Nat) (p:Nat->Prop) (w:Bb)=>aDm d ihF ctx C cc hG hvc hm dd hdd hd3 ts T ct 5 0 sf F cf p w
  have hva:=hvt (.mk ka na sa) Ag;have hza:=aH hva;obtain ⟨⟨b0,o0,rfl,hc0⟩,hr1⟩:=Rd.cons_iff.1 hr;obtain ⟨a1,a2,Aa,ca,a3,hla,ra⟩:=RdC.iff.1 hc0;simp only [Nat.zero_mul,Nat.add_zero] at a1 a2 a3;have lb0:=kF _ _ a1;obtain ⟨T',hT'⟩:∃T':Ba,(if ct=1 then some ⟨b0,o0,none⟩ else some ⟨b0,o0+3,none⟩)=T':=⟨_,rfl⟩;have hrT:Rd w T' 0 ts:=by
   rw [<- hT'];split
   ·rename_i h1;have:ts=[]:=by
     rw [List.length_cons] at hct;exact lEn Ac
    subst this;exact Rd.nil
   ·have:=aEb (m:=1) (i:=0) (b:=b0) (off:=o0) (w:=w) (ts:=ts) hr1;simpa using this
  have qS:(1:Int)<=(ts.length:Int)+1:=by omega
  change SemW ctx (.mk ka na sa)/\((∃x,HasT ctx (.mk ka na sa) x)->aKm ctx ts) at hts;have hFi:=aD (λ(w:Bb) (hrc:Rd w C 0 ctx) (hr:Rd w Aa 0 sa)=>ihF ctx C cc ka na sa Aa ca w hG hvc Ac hts.1 Ac hrc hr);have hTs:=hts.2;have hAL:=gX d ctx (.mk ka na sa);have hAH:=aD (λ(t:Tm) (h:t∈dZ d ctx (.mk ka na sa))=>mE h);rw [gV];generalize dZ d ctx (.mk ka na sa)=AR at hFi hAL hAH⊢;rw [List.length_cons] at hl3 hct hsz;have hIH:=aD (λ(x:Tm) (hx:HasT ctx (.mk ka na sa) x) (ct:Nat) (sf:List Tm) (F:Ba) (cf:Nat) (p:Nat->Prop) (w:Bb)=>ih T' ct sf F cf p w (hTs ⟨x,hx⟩) (λt ht=>hvt t (by simp [ht])) Ac);have k3:IntKind.i64.wrap (dd - 1)=(d:Int):=by rw [IntWalk.i64_in _ Ac];omega
  have k4:wrap64 (dd - 1)=(d:Int):=by rw [IntWalk.wrap64_in _ Ac];omega
  have hlf:=aJ sf;have qL:(((ts.length+1:Nat):Int)==0)=false:=by
   have:((ts.length+1:Nat):Int)≠0:=by omega
   simpa using this
  have qL2:((ts.length:Int)+1==0)=false:=by
   have:(ts.length:Int)+1≠0:=by omega
   simpa using this
  obtain ⟨R,hR⟩:∃R,jF (λx=>gV (dZ d ctx) ts (.mk 5 0 [.mk kf nf sf,x])) [] AR=R:=⟨_,rfl⟩;rw [hR];have hR:=aD hR;change Calls _ _ #[.slice C ctx.length cc,.agg (Ro kf nf F sf.length cf),.slice (some ⟨b0,o0,none⟩) (ts.length+1) ct,.int .i64 dd] w _;clear hts hva hvt ih hTs hza hdd hG hvc ihF hr hr1 hc0;go_enter func59,ntmps59;go_wp2_with (go_at_call 37;refine (hFi.out _ (hrc.alloc _) (ra.alloc _)).mono ?_;rintro e w2 ⟨L2,c2,rfl,fL2,hb2⟩;have hF2:Blk w2 w.heap.size (Ro kf nf F sf.length cf):=(aC w 32 (Ro kf nf F sf.length cf) rfl).keep hb2;have g2:Bw w w2:=bN bw1 hb2);have s2:=hF2.lt;have rA2:RdP (λb=>w.heap.size+1<=b/\b<w2.heap.size) w2 L2 0 AR:=fL2.rd'.lt_.mono λb hb=>⟨by have:=hb.1;simpa using this,hb.2⟩
  have hdn:∀b,(p b\/w.heap.size+1<=b/\b<w2.heap.size)\/w2.heap.size<=b->p b\/w.heap.size<=b:=λb hb=>by rcases hb with (hb|hb)|hb;exact .inl hb;exact .inr Ac;exact .inr Ac
  have hP2:PartR (λb=>p b\/w.heap.size+1<=b/\b<w2.heap.size) w2.heap.size w2 (.slice none 0 0) []:=PartR.nil;go_loopw [9,28] (λs i wr=>∃(j:Nat) (out:List Tm) (L:Ba) (cl:Nat),j<=AR.length/\i = .int .i64 j/\s = .slice L out.length cl/\out.length<12/\PartR (λb=>p b\/w.heap.size+1<=b/\b<w2.heap.size) w2.heap.size wr (.slice L out.length cl) out/\Hid (jF (λx=>gV (dZ d ctx) ts (.mk 5 0 [.mk kf nf sf,x])) out (AR.drop j)=R)/\Bw w2 wr)
   (λ_ i _=>AR.length - (intOf i).toNat)
  case atStart=>exact ⟨0,[],none,0,Nat.zero_le _,rfl,rfl,by simp,hP2,hR,eI _ _⟩
  case round=>
   clear hP2 hR;obtain ⟨j,out,L,cl,hj,rfl,rfl,ho,hP,hR,hbr⟩:=hrel;have hgr:Bw w wr:=bN g2 hbr;have szr:w2.heap.size<=wr.heap.size:=hbr.size;by_cases hlt:j<AR.length;rotate_left
   ·have hje:j=AR.length:=by omega
    have q1:¬((j:Int)<(AR.length:Int)):=by omega
    have q2:decide (j<AR.length)=false:=decide_eq_false hlt;go_wp2_with fail;go_ret;have e:out=R:=by have:=hR.out;rwa [hje,List.drop_length,jF] at this
    subst e;exact ⟨L,cl,rfl,hP.gotQ hdn,hgr⟩
   have q1:(j:Int)<(AR.length:Int):=by omega
   have q2:decide (j<AR.length)=true:=decide_eq_true hlt;have hRn:=hR.out;rw [List.drop_eq_getElem_cons hlt,vT ho] at hRn;have hx:=hAH.out _ (gM hlt);have rA:=rA2.blocks (w':=wr) (λb hb hl=>hbr.block b hb.2);obtain ⟨kx,nx,sx,hxj⟩:∃kx nx sx,AR[j] = .mk kx nx sx:=by cases AR[j] with|mk a b l=>exact ⟨a,b,l,rfl⟩
   obtain ⟨bx,ox,Ax,cx,hLx,x1,x2,x3,hlx,rx⟩:=kC rA hlt hxj;rw [hxj] at hx hRn;subst hLx;have hzx:=aH hx.valid;have hLl:=mZ (F:=dZ d ctx) (ts:=ts) (f:=.mk 5 0 [.mk kf nf sf,.mk kx nx sx]);have hI2:=aD (show ∀(F:Ba) (cf:Nat) (p:Nat->Prop) (w:Bb),(∀b,p b->b<w.heap.size)->Rd w C 0 ctx->RdP p w F 0 [.mk kf nf sf,.mk kx nx sx]->Rd w T' 0 ts->Calls prog 59 #[.slice C ctx.length cc,.agg (Ro 5 0 F 2 cf),.slice T' ts.length (ct - 1),.int .i64 dd] w (kX p w (gV (dZ d ctx) ts (.mk 5 0 [.mk kf nf sf,.mk kx nx sx]))) from λF cf p w h1 h2 h3 h4=>hIH.out _ hx (ct - 1) [.mk kf nf sf,.mk kx nx sx] F cf p w Ac (by simp only [aG,Tm.size];omega) h1 h2 h3 h4);generalize gV (dZ d ctx) ts (.mk 5 0 [.mk kf nf sf,.mk kx nx sx])=LL at hRn hI2 hLl;replace hRn:=aD hRn;clear hx hxj hR;have hFr:=hF2.below hbr s2;have hfr:=hf.below hgr;have hlfl:sf.length<=9223372036854775807:=by omega
   have lbx:=kF _ _ x1;go_upto_region 9 with fail
   refine aRj (show Blk _ wr.heap.size (Ro kx nx Ax sx.length cx) from (aC _ 32 _ rfl)) ?_;intro wx hXx hwx;have bx':Bw wr wx:=by rw [hwx];exact bw1
   have swx:wr.heap.size+1<=wx.heap.size:=by rw [hwx];simp
   clear hwx;have hFx:=hFr.keep bx';have gx:=hgr.trans (bx'.mono hgr.size);obtain ⟨v0,v1,v2⟩:=fW hFx;obtain ⟨u0,u1,u2⟩:=fW hXx;refine eK wx [10,11] [0,1,2,3,6,7,8] 12 5 (lT:=[_,_,_,_,_,_,_]) ?_;intro q0 bq0;refine bU (aD ?_);refine aZ 4 ?_
   ·go_wp2_with fail;refine aL ?_;intro q1 hn;have hbq1:Bw q0 q1:=by rw [hn];exact bw1
    have zq1:Blk q1 q0.heap.size #[.int .i64 kf,.int .i64 nf,.slice F sf.length cf,.int .i64 kx,.int .i64 nx,.slice Ax sx.length cx]:=by rw [hn];exact aC _ 32 _ rfl
    have seq1:q0.heap.size<q1.heap.size:=by rw [hn];simp
    clear hn;refine aV bq0 hbq1 ?_;intro bq1 lq1;refine aZ 5 ?_
    ·go_wp2_with (go_at_call 71;refine (aQ 5 (.slice (some ⟨q0.heap.size,0,none⟩) 2 2) ⟨_,_,_,rfl⟩ _).mono ?_;rintro e q2 ⟨rfl,hbq2⟩);have Bq2:=zq1.keep hbq2;refine aV bq1 hbq2 ?_;intro bq2 lq2;refine aZ 9 ?_
     ·have hNq3:RdP (λb=>p b\/(w.heap.size+1<=b/\b<w2.heap.size)\/wx.heap.size<=b) q2 (some ⟨q0.heap.size,0,none⟩) 0 [.mk kf nf sf,.mk kx nx sx]:=aPc Bq2 (.inr (.inr bq0.size)) hlfl (((hfr.below bx').below bq2).mono λb hb=>.inl hb) hlx (((rx.below bx').below bq2).mono λb hb=>.inr (.inl hb));go_wp2_with (go_at_call 59;refine (hI2.out _ _ _ _ (λb hb=>hb.2) ((hrc.below gx).below bq2) hNq3.lt_ ((hrT.below gx).below bq2)).mono ?_;rintro e q3 ⟨A10,c10,rfl,rLq3,hbq3⟩);have Bq3:=Bq2.keep hbq3;refine aV bq2 hbq3 ?_;intro bq3 lq3;refine cK [10,11] (lB:=[_,_]) ?_;refine gS (aD ?_);have hPw:=(hP.below bx').below bq3;have szw:=bq3.size;have sz9:=bq2.size;refine dV (lo:=λb=>p b\/w.heap.size+1<=b/\b<w2.heap.size) (B:=w2.heap.size) hPw Ac rLq3.lt_ (λb hb=>?_) rfl Ac rfl Ac rfl _ _ rfl rfl rfl ?_
      ·obtain ⟨hb1,hb2⟩:=hb;have hown:∀g,(Value.slice L out.length cl).ownBlock=some g->w2.heap.size<=g/\g<wr.heap.size:=λg hg=>⟨hP.ownB g hg,hP.ownL g hg⟩
       rcases hb1 with ⟨hb1|hb1|hb1,_⟩|hb1
       ·exact ⟨.inl (.inl hb1),hb2,λe=>by have:=(hown b e).1;have:=hp b hb1;have:=g2.size;omega⟩
       ·exact ⟨.inl (.inr hb1),hb2,λe=>by have:=(hown b e).1;omega⟩
       ·exact ⟨.inr Ac,hb2,λe=>by have:=(hown b e).2;omega⟩
       ·exact ⟨.inr Ac,hb2,λe=>by have:=(hown b e).2;omega⟩
      intro L4 c4 w4 hP4 hb4 hg4 hn4;have hl4:(out++LL).length=out.length+LL.length:=by simp
      have gx4:=hbr.trans ((bx'.mono Ac).trans ((bq3.mono Ac).trans hb4));by_cases h12:12<=out.length+LL.length
      ·have q3:(12:Int)<=(out.length:Int)+(LL.length:Int):=by omega
       have q4:decide (12<=out.length+LL.length)=true:=decide_eq_true h12;go_wp2_with fail;go_ret;have e:out++LL=R:=by have:=hRn.out;rwa [qQ Ac] at this
       rw [<- e,<- hl4];exact ⟨L4,c4,rfl,(by rw [<- hl4] at hP4;exact hP4.gotQ hdn),g2.trans (gx4.mono Ac)⟩
      ·have q3:¬(12:Int)<=(out.length:Int)+(LL.length:Int):=by omega
       have q4:decide (12<=out.length+LL.length)=false:=decide_eq_false h12;go_wp2_with fail;go_roundw
       case rel=>exact ⟨j+1,out++LL,L4,c4,by omega,by go_num,by rw [hl4],by rw [hl4];omega,by rw [hl4];exact hP4,hRn,gx4⟩
       case measure=>simp [intOf];omega
theorem aUi (ctx:List Tm)(C:Ba)(cc:Nat)(n dd:Int)(ks:List Tm)(A:Ba)(c:Nat)(p:Nat->Prop)(w:Bb) :
  Calls prog 61 #[.slice C ctx.length cc,.agg (Ro 6 n A ks.length c),.int .i64 dd] w (kX p w [.mk 7 0 []]):=by
 go_enter func61,ntmps61;go_wp2_with (go_at_call 71;refine (aQ 7 (.slice none 0 0) ⟨_,_,_,rfl⟩ _).mono ?_;rintro e w1 ⟨rfl,hb1⟩;have g1:Bw w w1:=bN bw1 hb1);go_ret;exact ⟨_,_,rfl,vZ (s0:=[]) (aC w1 32 (Ro 7 0 none 0 0) rfl) (.inr g1.size) Ag RdP.nil,g1.alloc g1.size _⟩
theorem aMa (ctx:List Tm)(C:Ba)(cc:Nat)(k n dd:Int)(ks:List Tm)(A:Ba)(c:Nat)(p:Nat->Prop)(w:Bb)(h6:k≠6)(h10:k≠10)(h3:k≠3)(h13:k≠13) :
  Calls prog 61 #[.slice C ctx.length cc,.agg (Ro k n A ks.length c),.int .i64 dd] w (kX p w []):=by
 have q6:(k==6)=false:=by simpa using h6
 have q10:(k==10)=false:=by simpa using h10
 have q3:(k==3)=false:=by simpa using h3
 have q13:(k==13)=false:=by simpa using h13
 go_enter func61,ntmps61;go_wp2_with fail;go_ret;exact ⟨none,0,rfl,RdP.nil,bw1⟩
theorem aSa (ctx:List Tm)(C:Ba)(cc:Nat)(n dd:Int)(k0:Tm)(kx nx:Int)(sx:List Tm)(ky ny:Int)(sy:List Tm)(A:Ba)(c:Nat)(p:Nat->Prop)(w:Bb)(hp:∀b,p b->b<w.heap.size)(hvx:aE (.mk kx nx sx)=true)(hvy:aE (.mk ky ny sy)=true)(hr:RdP p w A 0 [k0,.mk kx nx sx,.mk ky ny sy]) :
  Calls prog 61 #[.slice C ctx.length cc,.agg (Ro 10 n A 3 c),.int .i64 dd] w (kX p w (if dJ 200 (.mk kx nx sx) (.mk ky ny sy)=1 then [.mk 11 0 [.mk kx nx sx]] else [])):=by
 obtain ⟨bk,ok,x1,x2,x3,Ax,cx,rfl,hk1,x1,x2,x3,hlx,rx⟩:=hr.at_ (j:=1) Ag;injection hk1 with e1 e2 e3;subst e1 e2 e3;obtain ⟨bb,ob,z1,z2,z3,Ay,cy,hAb,hk1,y1,y2,y3,hly,ry⟩:=hr.at_ (j:=2) Ag;injection hk1 with e1 e2 e3;injection hAb with hA;injection hA with hA1 hA2;subst e1 e2 e3 hA1 hA2;simp only [Nat.zero_mul,Nat.add_zero,Nat.one_mul,Nat.reduceMul] at x1 x2 x3 y1 y2 y3
 have lbp:=kF _ _ x1;have hS0:=λ(w:Bb) (hr:Rd w Ax 0 sx) (hr2:Rd w Ay 0 sy)=>qN kx nx sx Ax cx ky ny sy Ay cy 200 w Ac hvx hvy hr hr2
 by_cases hc:dJ 200 (.mk kx nx sx) (.mk ky ny sy)=1
 ·rw [Av hc];rw [hc] at hS0;have hS:=aD hS0;clear hc hvx hvy hS0;go_enter func61,ntmps61;go_upto_region 6 with fail
  refine aRb (show Blk _ w.heap.size (Ro 10 n (some ⟨bk,ok,none⟩) 3 c) from (aC w 32 _ rfl)) bw1 ?_;intro wx hX gx hwx;have swx:w.heap.size+1<=wx.heap.size:=by rw [hwx];simp
  clear hwx;obtain ⟨v0,v1,v2⟩:=fW hX;obtain ⟨ux1,ux2,ux3⟩:=fR gx x1 x2 x3;obtain ⟨uy1,uy2,uy3⟩:=fR gx y1 y2 y3;go_cut [33] (λvb wy=>∃W:Bb,W=wy/\vb = .bool true/\Bw wx wy)
  case first=>
   refine eK wx [9] [0,1,2,3,4,5,6,7] 10 2 (lT:=[_,_,_,_,_,_,_,_]) ?_;intro q0 bq0;refine bU (aD ?_);refine aZ 8 ?_
   ·go_wp2_with (go_at_call 52;refine (hS.out _ ((rx.rd.below gx).below bq0) ((ry.rd.below gx).below bq0)).mono ?_;rintro e q1 ⟨rfl,hbq1⟩);refine aV bq0 hbq1 ?_;intro bq1 lq1;refine cK [9] (lB:=[_]) ?_;refine gS (aD ?_);go_wp2_with fail;go_meet
    exact ⟨_,rfl,rfl,bq1⟩
  case rest=>
   obtain ⟨wy,rfl,rfl,hxy⟩:=hcut;clear v0 v1 v2 ux1 ux2 ux3 uy1 uy2 uy3;have hXy:=hX.keep hxy;have gy:=gx.trans (hxy.mono gx.size);obtain ⟨v0,v1,v2⟩:=hXy.three;obtain ⟨px1,px2,px3⟩:=xW gy x1 x2 x3;have rxy:=rx.below gy;go_wp2_with (go_at_call 71;refine (aQ 11 (.slice (some ⟨wy.heap.size,0,none⟩) 1 1) ⟨_,_,_,rfl⟩ _).mono ?_;rintro e w4 ⟨rfl,hb4⟩;have hZ4:=(aC wy 32 (Ro kx nx Ax sx.length cx) rfl).keep hb4;have g4:Bw w w4:=(gy.alloc gy.size (.cells (Ro kx nx Ax sx.length cx) 32)).trans (hb4.mono (by have:=gy.size;simp;omega));have s4:=hb4.size;have r4:=(rxy.alloc (.cells (Ro kx nx Ax sx.length cx) 32)).below hb4);go_ret;simp at s4;have hZ5:=hZ4.alloc (.cells (Ro 11 0 (some ⟨wy.heap.size,0,none⟩) 1 1) 32);refine ⟨_,_,rfl,vZ (s0:=[.mk kx nx sx]) (aC w4 32 _ rfl) (.inr g4.size) Ag (vZ hZ5 (.inr gy.size) hlx ((r4.alloc _).mono λb hb=>.inl hb)),g4.alloc g4.size _⟩
 ·rw [Aw hc];have hS:=aD hS0;have qc:(dJ 200 (.mk kx nx sx) (.mk ky ny sy)==1)=false:=by simpa using hc
  generalize dJ 200 (.mk kx nx sx) (.mk ky ny sy)=co at hS qc;clear hc hvx hvy hS0;go_enter func61,ntmps61;go_upto_region 6 with fail
  refine aRb (show Blk _ w.heap.size (Ro 10 n (some ⟨bk,ok,none⟩) 3 c) from (aC w 32 _ rfl)) bw1 ?_;intro wx hX gx hwx;have swx:w.heap.size+1<=wx.heap.size:=by rw [hwx];simp
  clear hwx;obtain ⟨v0,v1,v2⟩:=fW hX;obtain ⟨ux1,ux2,ux3⟩:=fR gx x1 x2 x3;obtain ⟨uy1,uy2,uy3⟩:=fR gx y1 y2 y3;refine eK wx [9] [0,1,2,3,4,5,6,7] 10 2 (lT:=[_,_,_,_,_,_,_,_]) ?_;intro q0 bq0;refine bU (aD ?_);refine aZ 8 ?_
  ·go_wp2_with (go_at_call 52;refine (hS.out _ ((rx.rd.below gx).below bq0) ((ry.rd.below gx).below bq0)).mono ?_;rintro e q1 ⟨rfl,hbq1⟩);refine aV bq0 hbq1 ?_;intro bq1 lq1;refine cK [9] (lB:=[_]) ?_;refine gS (aD ?_);go_wp2_with fail;go_ret;exact ⟨none,0,rfl,RdP.nil,gx.trans (bq1.mono gx.size)⟩
theorem aUf (d:Nat)(ihF:aAc d)(hd3:d<=10)(dd:Int)(hdd:dd=(d:Int)+1)(ctx:List Tm)(C:Ba)(cc:Nat)(hG:SemG ctx)(hvc:∀u,u∈ctx->aE u=true)(hm:ctx.length<=8)(n:Int)(ka na:Int)(sa:List Tm)(kb nb:Int)(sb:List Tm)(A:Ba)(c:Nat)(p:Nat->Prop)(w:Bb)(hp:∀b,p b->b<w.heap.size)(hva:aE (.mk ka na sa)=true)(hvb:aE (.mk kb nb sb)=true)(hw1:SemW ctx (.mk ka na sa))(hw2:SemW (ctx++[.mk ka na sa]) (.mk kb nb sb))(hrc:Rd w C 0 ctx)(hr:RdP p w A 0 [.mk ka na sa,.mk kb nb sb]) :
  Calls prog 61 #[.slice C ctx.length cc,.agg (Ro 3 n A 2 c),.int .i64 dd] w (kX p w ((dZ d (ctx++[.mk ka na sa]) (.mk kb nb sb)).map λt=>.mk 4 0 [.mk ka na sa,t])):=by
 obtain ⟨bk,ok,x1,x2,x3,Aa,ca,rfl,hk1,a1,a2,a3,hla,ra⟩:=hr.at_ (j:=0) Ag;injection hk1 with e1 e2 e3;subst e1 e2 e3;obtain ⟨bb,ob,x1,x2,x3,Ab,cb,hAb,hk1,b1,b2,b3,hlb,rb⟩:=hr.at_ (j:=1) Ag;injection hk1 with e1 e2 e3;injection hAb with hA;injection hA with hA1 hA2;subst e1 e2 e3 hA1 hA2;simp only [Nat.zero_mul,Nat.add_zero,Nat.one_mul,Nat.reduceMul] at a1 a2 a3 b1 b2 b3;have lbp:=kF _ _ a1;have hza:=aH hva;have hzb:=aH hvb;have hvc2:∀u,u∈ctx++[.mk ka na sa]->aE u=true:=λu hu=>by
  rcases List.mem_append.1 hu with h|h
  ·exact hvc u h
  ·rw [List.mem_singleton.1 h];exact hva
 have hG2:=hG.ext hw1;have hcl:(ctx++[Tm.mk ka na sa]).length=ctx.length+1:=by simp
 obtain ⟨cx,hcx⟩:∃cx,ctx++[Tm.mk ka na sa]=cx:=⟨_,rfl⟩;rw [hcx] at hvc2 hG2 hw2 hcl⊢;have hFi:=aD (show ∀(w:Bb) (D:Ba) (d':Nat) (hrD:Rd w D 0 cx) (hrb:Rd w Ab 0 sb),Calls prog 37 #[.slice D (ctx.length+1) d',.agg (Ro kb nb Ab sb.length cb),.int .i64 (d:Int)] w (yE w (dZ d cx (.mk kb nb sb))) from λw D d' hrD hrb=>by
  have:=ihF cx D d' kb nb sb Ab cb w hG2 hvc2 Ac hw2 Ac hrD hrb;rwa [hcl] at this)
 have hAL:=gX d cx (.mk kb nb sb);generalize dZ d cx (.mk kb nb sb)=AR at hFi hAL⊢;obtain ⟨R,hR⟩:∃R,(AR.map λt=>Tm.mk 4 0 [.mk ka na sa,t])=R:=⟨_,rfl⟩;rw [hR];replace hR:=aD hR;replace hcx:=aD hcx;have k3:IntKind.i64.wrap (dd - 1)=(d:Int):=by rw [IntWalk.i64_in _ Ac];omega
 have k4:wrap64 (dd - 1)=(d:Int):=by rw [IntWalk.wrap64_in _ Ac];omega
 clear hva hvb hw1 hw2 hG hvc hG2 hvc2 ihF hdd hcl hr;go_enter func61,ntmps61;go_upto_region 9 with fail
 refine aRb (show Blk _ w.heap.size (Ro 3 n (some ⟨bk,ok,none⟩) 2 c) from (aC w 32 _ rfl)) bw1 ?_;intro wx hX gx hwx;have swx:w.heap.size+1<=wx.heap.size:=by rw [hwx];simp
 clear hwx;obtain ⟨v0,v1,v2⟩:=fW hX;obtain ⟨ua1,ua2,ua3⟩:=fR gx a1 a2 a3;obtain ⟨ub1,ub2,ub3⟩:=fR gx b1 b2 b3;go_cut [57,58,59] (λv8 v9 v10 wy=>∃(L2:Ba) (c2:Nat) (W:Bb),W=wy/\v8 = .slice L2 AR.length c2/\v9 = .int .i64 (AR.length:Int)/\v10 = .int .i64 0/\RdP (λb=>wx.heap.size<=b) wy L2 0 AR/\Bw wx wy)
 case first=>
  refine eK wx [] [0,2,3,4,5,8,9,10,11,12,13,16] 17 5 (lT:=[_,_,_,_,_,_,_,_,_,_,_,_]) ?_;intro q0 bq0;refine bU (aD ?_);refine mW 1 6 ?_ ?_
  ·go_wp2_with (go_at_call 94;refine (jM (λb=>b<wx.heap.size) ctx C cc _ Ac (((hrc.below gx).rdp).below bq0) (λb hb=>vM hb bq0.size)).mono ?_;rintro e q1 ⟨L0,c0,rfl,hPq1,hbq1⟩);refine aV bq0 hbq1 ?_;intro bq1 lq1;refine aZ 6 ?_
   ·go_wp2_with fail;refine aL ?_;intro q2 hn;have hbq2:Bw q1 q2:=by rw [hn];exact bw1
    have zq2:Blk q2 q1.heap.size (Ro ka na Aa sa.length ca):=by rw [hn];exact aC _ 32 _ rfl
    have seq2:q1.heap.size<q2.heap.size:=by rw [hn];simp
    clear hn;have Pq2:=hPq1.below hbq2;refine aV bq1 hbq2 ?_;intro bq2 lq2;refine aZ 7 ?_
    ·have hPaq3:=Pq2;have swq3:=bq2.size;have saq3:=bq0.size;refine bP (k:=ka) (n:=na) (ks:=sa) (m:=ctx.length) (q:=λb=>b<wx.heap.size) hPaq3 Ac ((((ra.rd.below gx).rdp).below bq2)) (λb hb=>⟨.inl hb,by omega,λe=>by have:=hPaq3.ownB b e;omega⟩) hla rfl Ac _ _ zq2 rfl _ _ rfl rfl rfl ?_;intro L7 c7 q3 hP7q3 hbbq3 hg7q3 hn7q3;have rDq3:Rd q3 L7 0 cx:=by
      obtain ⟨A',c',e,hr6⟩:=hP7q3.rd;injection e with e1 e2 e3;subst e1;rw [hcx.out] at hr6;exact hr6.rd
     have bq3:Bw wx q3:=bq2.trans (hbbq3.mono saq3);have lq3:=hbbq3.size;refine aS bq3 ?_;refine aZ 14 ?_
     ·go_wp2_with (go_at_call 37;refine (hFi.out _ _ _ rDq3 ((rb.rd.below gx).below bq3)).mono ?_;rintro e q4 ⟨L2,c2,rfl,fL2,hbq4⟩;have rLq4:=fL2.rd');have Dq4:=rDq3.below hbq4;refine aV bq3 hbq4 ?_;intro bq4 lq4;refine aZ 15 ?_
      ·go_wp2_with fail;refine aL ?_;intro q5 hn;have hbq5:Bw q4 q5:=by rw [hn];exact eI _ _
       clear hn;have Dq5:=Dq4.below hbq5;have Lq5:=rLq4.below hbq5;refine aV bq4 hbq5 ?_;intro bq5 lq5;refine cK [] (lB:=[]) ?_;try simp only [List.getElem_toArray,List.getElem_cons_zero,List.getElem_cons_succ,Act.put,List.setIfInBounds_toArray,List.set_cons_zero,List.set_cons_succ]
       have sz14:=bq3.size;go_wp2_with fail;go_meet
       exact ⟨L2,c2,_,rfl,rfl,rfl,rfl,Lq5.mono λb hb=>Nat.le_trans sz14 hb,bq5⟩
  ·go_wp2_with fail;refine aL ?_;intro q6 hn;have hbq6:Bw q0 q6:=by rw [hn];exact bw1
   have zq6:Blk q6 q0.heap.size (Ro ka na Aa sa.length ca):=by rw [hn];exact aC _ 32 _ rfl
   have seq6:q0.heap.size<q6.heap.size:=by rw [hn];simp
   clear hn;refine aV bq0 hbq6 ?_;intro bq6 lq6;refine aZ 1 ?_
   ·go_wp2_with (go_at_call 94;refine (jM (λb=>b<wx.heap.size) ctx C cc _ Ac (((hrc.below gx).rdp).below bq6) (λb hb=>vM hb bq6.size)).mono ?_;rintro e q7 ⟨L0,c0,rfl,hPq7,hbq7⟩);have Zq7:=zq6.keep hbq7;refine aV bq6 hbq7 ?_;intro bq7 lq7;refine aZ 7 ?_
    ·have hPaq8:=hPq7;have swq8:=bq7.size;have saq8:=bq6.size;refine bP (k:=ka) (n:=na) (ks:=sa) (m:=ctx.length) (q:=λb=>b<wx.heap.size) hPaq8 Ac ((((ra.rd.below gx).rdp).below bq7)) (λb hb=>⟨.inl hb,by omega,λe=>by have:=hPaq8.ownB b e;omega⟩) hla rfl Ac _ _ Zq7 rfl _ _ rfl rfl rfl ?_;intro L7 c7 q8 hP7q8 hbbq8 hg7q8 hn7q8;have rDq8:Rd q8 L7 0 cx:=by
      obtain ⟨A',c',e,hr6⟩:=hP7q8.rd;injection e with e1 e2 e3;subst e1;rw [hcx.out] at hr6;exact hr6.rd
     have bq8:Bw wx q8:=bq7.trans (hbbq8.mono saq8);have lq8:=hbbq8.size;refine aS bq8 ?_;refine aZ 14 ?_
     ·go_wp2_with (go_at_call 37;refine (hFi.out _ _ _ rDq8 ((rb.rd.below gx).below bq8)).mono ?_;rintro e q9 ⟨L2,c2,rfl,fL2,hbq9⟩;have rLq9:=fL2.rd');have Dq9:=rDq8.below hbq9;refine aV bq8 hbq9 ?_;intro bq9 lq9;refine aZ 15 ?_
      ·go_wp2_with fail;refine aL ?_;intro q10 hn;have hbq10:Bw q9 q10:=by rw [hn];exact eI _ _
       clear hn;have Dq10:=Dq9.below hbq10;have Lq10:=rLq9.below hbq10;refine aV bq9 hbq10 ?_;intro bq10 lq10;refine cK [] (lB:=[]) ?_;try simp only [List.getElem_toArray,List.getElem_cons_zero,List.getElem_cons_succ,Act.put,List.setIfInBounds_toArray,List.set_cons_zero,List.set_cons_succ]
       have sz14:=bq8.size;go_wp2_with fail;go_meet
       exact ⟨L2,c2,_,rfl,rfl,rfl,rfl,Lq10.mono λb hb=>Nat.le_trans sz14 hb,bq10⟩
 case rest=>
  obtain ⟨L2,c2,wy,rfl,rfl,rfl,rfl,rL2,hxy⟩:=hcut;clear v0 v1 v2 ua1 ua2 ua3 ub1 ub2 ub3;have hX:=hX.keep hxy;have g2:=gx.trans (hxy.mono gx.size);have s2:=hxy.size;have rA2:RdP (λb=>p b\/(w.heap.size<=b/\b<wy.heap.size)) wy L2 0 AR:=rL2.lt_.mono λb hb=>.inr ⟨by have:=hb.1;omega,hb.2⟩
  have hql:∀b,(λb=>p b\/(w.heap.size<=b/\b<wy.heap.size)) b->b<wy.heap.size:=λb hb=>hb.elim (λh=>vM (hp b h) g2.size) (λh=>h.2)
  have hP:PartR (λb=>p b\/(w.heap.size<=b/\b<wy.heap.size)) wy.heap.size wy (.slice none 0 0) []:=PartR.nil;go_wp2_with fail;go_loopw [7,59] (λs i wr=>∃(j:Nat) (out:List Tm) (L:Ba) (cl:Nat),j<=AR.length/\i = .int .i64 j/\s = .slice L out.length cl/\out.length<=j/\PartR (λb=>p b\/(w.heap.size<=b/\b<wy.heap.size)) wy.heap.size wr (.slice L out.length cl) out/\Hid (out=(AR.take j).map λt=>.mk 4 0 [.mk ka na sa,t])/\Bw wy wr)
   (λ_ i _=>AR.length - (intOf i).toNat)
  case atStart=>exact ⟨0,[],none,0,Nat.zero_le _,rfl,rfl,mC _,hP,aD Ag,eI _ _⟩
  case round=>
   clear hP;obtain ⟨j,out,L,cl,hj,rfl,rfl,hol,hP,hO,hbr⟩:=hrel;have hgr:Bw w wr:=g2.trans (hbr.mono g2.size);have szr:wy.heap.size<=wr.heap.size:=hbr.size;by_cases hlt:j<AR.length;rotate_left
   ·have hje:j=AR.length:=by omega
    have q1:¬((j:Int)<(AR.length:Int)):=by omega
    have q2:decide (j<AR.length)=false:=decide_eq_false hlt;go_wp2_with fail;go_ret;have e:out=R:=by rw [hO.out,hje,List.take_length];exact hR.out
    subst e;exact ⟨L,cl,rfl,hP.gotQ (λb hb=>hb.elim (λh=>h.imp id λh=>h.1) λh=>.inr Ac),hgr⟩
   have q1:(j:Int)<(AR.length:Int):=by omega
   have q2:decide (j<AR.length)=true:=decide_eq_true hlt;have rA:=rA2.blocks (w':=wr) (λb hb _=>hbr.block b (hql b hb));obtain ⟨kx,nx,sx,hxj⟩:∃kx nx sx,AR[j] = .mk kx nx sx:=by cases AR[j] with|mk a b l=>exact ⟨a,b,l,rfl⟩
   obtain ⟨bx,ox,Ax,cx,hLx,x1,x2,x3,hlx,rx⟩:=kC rA hlt hxj;have hO2:=aD (aFa (f:=λt=>Tm.mk 4 0 [.mk ka na sa,t]) hlt hxj hO.out);subst hLx;clear hO hxj;have hXr:=hX.keep hbr;have lbx:=kF _ _ x1;go_upto_region 12 with fail
   refine aRj (show Blk _ wr.heap.size (Ro kx nx Ax sx.length cx) from (aC _ 32 _ rfl)) ?_;intro wv hTv hwv;have bv':Bw wr wv:=by rw [hwv];exact bw1
   have swv:wr.heap.size+1<=wv.heap.size:=by rw [hwv];simp
   clear hwv;have hXv:=hXr.keep bv';have gv:=hgr.trans (bv'.mono hgr.size);obtain ⟨v0,v1,v2⟩:=fW hXv;obtain ⟨t0,t1,t2⟩:=fW hTv;obtain ⟨ua1,ua2,ua3⟩:=fR gv a1 a2 a3;refine eK wv [9,10] [0,1,2,3,4,5] 11 5 (lT:=[_,_,_,_,_,_]) ?_;intro q0 bq0;refine bU (aD ?_);refine aZ 6 ?_
   ·go_wp2_with fail;refine aL ?_;intro q1 hn;have hbq1:Bw q0 q1:=by rw [hn];exact bw1
    have zq1:Blk q1 q0.heap.size #[.int .i64 ka,.int .i64 na,.slice Aa sa.length ca,.int .i64 kx,.int .i64 nx,.slice Ax sx.length cx]:=by rw [hn];exact aC _ 32 _ rfl
    have seq1:q0.heap.size<q1.heap.size:=by rw [hn];simp
    clear hn;refine aV bq0 hbq1 ?_;intro bq1 lq1;refine aZ 7 ?_
    ·go_wp2_with (go_at_call 71;refine (aQ 4 (.slice (some ⟨q0.heap.size,0,none⟩) 2 2) ⟨_,_,_,rfl⟩ _).mono ?_;rintro e q2 ⟨rfl,hbq2⟩);have Bq2:=zq1.keep hbq2;refine aV bq1 hbq2 ?_;intro bq2 lq2;refine aZ 8 ?_
     ·go_wp2_with fail;refine aL ?_;intro q3 hn;have hbq3:Bw q2 q3:=by rw [hn];exact bw1
      have zq3:Blk q3 q2.heap.size (Ro 4 0 (some ⟨q0.heap.size,0,none⟩) 2 2):=by rw [hn];exact aC _ 32 _ rfl
      have seq3:q2.heap.size<q3.heap.size:=by rw [hn];simp
      clear hn;have Bq3:=Bq2.keep hbq3;refine aV bq2 hbq3 ?_;intro bq3 lq3;refine cK [9,10] (lB:=[_,_]) ?_;refine gS (aD ?_);have hPw:=(hP.below bv').below bq3;have szw:=bq3.size;have sz6:=bq0.size;have rN:RdP (λb=>(λb=>p b\/(w.heap.size<=b/\b<wy.heap.size)) b\/wv.heap.size<=b) q3 (some ⟨q0.heap.size,0,none⟩) 0 [.mk ka na sa,.mk kx nx sx]:=aPc Bq3 (.inr sz6) hla ((((ra.below gv).below bq3)).mono λb hb=>.inl (.inl hb)) hlx (((rx.below bv').below bq3).mono λb hb=>.inl hb);refine bP (lo:=(λb=>p b\/(w.heap.size<=b/\b<wy.heap.size))) (B:=wy.heap.size) (k:=4) (n:=0) (ks:=[.mk ka na sa,.mk kx nx sx]) (m:=out.length) hPw Ac rN.lt_ (λb hb=>?_) Ag rfl Ac _ _ zq3 rfl _ _ rfl rfl rfl ?_
      ·obtain ⟨hb1,hb2⟩:=hb;have hown:∀g,(Value.slice L out.length cl).ownBlock=some g->wy.heap.size<=g/\g<wr.heap.size:=λg hg=>⟨hP.ownB g hg,hP.ownL g hg⟩
       rcases hb1 with hb1|hb1
       ·exact ⟨.inl hb1,hb2,λe=>by have:=(hown b e).1;have:=hql b hb1;omega⟩
       ·exact ⟨.inr Ac,hb2,λe=>by have:=(hown b e).2;omega⟩
      intro L4 c4 w4 hP4 hb4 hg4 hn4;have hl4:(out++[Tm.mk 4 0 [.mk ka na sa,.mk kx nx sx]]).length=out.length+1:=by simp
      have gx4:=hbr.trans ((bv'.mono szr).trans ((bq3.mono Ac).trans hb4));go_wp2_with fail;go_roundw
      case rel=>exact ⟨j+1,_,L4,c4,by omega,by go_num,by rw [hl4],by rw [hl4];omega,by rw [hl4];exact hP4,hO2,gx4⟩
      case measure=>simp [intOf];omega
end Go.Proofs.YtjlaenhcemacdaaGreat
