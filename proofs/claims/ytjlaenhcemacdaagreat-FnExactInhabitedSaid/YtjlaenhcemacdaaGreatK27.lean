/- Parts of the proof. No condition. -/
import Derived.Test.YtjlaenhcemacdaaGreatK24
import Derived.Test.YtjlaenhcemacdaaGreatK26
open Go.Proofs.Tryz
namespace Go.Proofs.YtjlaenhcemacdaaGreat
open Go.RowKit
set_option maxHeartbeats 8000000
set_option maxRecDepth 100000
set_option linter.unusedSimpArgs false
set_option linter.unusedVariables false
abbrev SemG (G:List Tm):Prop:=SS Ends G G idS (mX G)
def SemW (G:List Tm)(t:Tm):Prop:=cX t=true/\∃P,RT Ends G t P
theorem kZ {t:Tm}(hw:cX t=true):ins idS t=t:=ins_id.1 t idS hw λ_=>rfl
theorem CxG.semG {G:List Tm}(h:CxG G):SemG G:=h.ss qI
theorem SemG.typed {G:List Tm}(h:SemG G){N:Nat}{t s:Tm}(ht:bE N G t=some (.ok s)):∃P,RT Ends G s P/\P [] t s/\TK Ends G t/\TK Ends G s:=by
 obtain ⟨wt,ws⟩:=bI ht;obtain ⟨P,h1,h2,h3,h4,h5⟩:=(aOd qI N G t s ht).get wt h;rw [kZ ws] at h1;rw [kZ wt] at h3 h4;exact ⟨P,h1,h3 _ ((uD N G t s ht).an wt (kZ wt) (aIo G)),h4.tk,h1.tk⟩
theorem SemG.ext {G:List Tm}(h:SemG G){A:Tm}(hA:SemW G A):SemG (G++[A]):=by
 obtain ⟨hw,P,hP⟩:=hA;have e:=kZ hw;have h5:=h.lift qI (P:=P) (by rw [e];exact hP) hw;rw [e,aHg,<- kH] at h5;exact h5
theorem SemG.srt {G:List Tm}(h:SemG G){N:Nat}{t:Tm}{l:Int}(hs:iT (bE N) G t=some (.ok l)):SemW G t:=by
 obtain ⟨a,ka,h3,h4⟩:=oN hs;have hw:=(bI h3).1;obtain ⟨P,hP⟩:=(aOd qI N G t a h3).rt (bI h3).2 h4 h;rw [kZ hw] at hP;exact ⟨hw,P,hP⟩
theorem aOa:∀(t:Tm) (G:List Tm),SemG G->Ends G t:=by
 refine jG λk n ks ih G hG=>?_
 have hk:∀i,¬(i=1/\binds k=true)->Ends (cxo G k ks i) (aI ks i):=λi hi=>by
  rw [uL hi];by_cases h:i<ks.length
  ·exact ih _ (fG h) G hG
  ·rw [fP Ac];exact gU _
 by_cases hb:binds k=true
 ·have h0:=hk 0 (by rintro ⟨h,_⟩;cases h);rw [uL (by rintro ⟨h,_⟩;cases h)] at h0;obtain ⟨N,r,hr⟩:=h0;obtain ⟨q,hq⟩:∃q,iT (bE N) G (aI ks 0)=some q:=by
   rw [iT,hr];cases r with
   | no b=>exact ⟨_,rfl⟩
   | ok s=>
    show ∃q,bd (some (jB s)) tB=some q;cases jB s with
    | no b=>exact ⟨_,rfl⟩
    | ok h=>show ∃q,tB h=some q;unfold tB;split<;>exact ⟨_,rfl⟩
  have hk3:k=3\/k=4\/k=13:=by
   simp only [binds,Bool.or_eq_true,beq_iff_eq] at hb;omega
  cases q with
  | no b=>
   refine aIk (N:=N) (b:=b) ?_;rw [dU];by_cases h3:k=3\/k=13
   ·rw [Av h3,yR,hq];rfl
   ·rw [Aw h3,Av Ac,aKl,hq];rfl
  | ok l=>
   have hG2:SemG (G++[aI ks 0]):=hG.ext (hG.srt hq);refine iR (λi hi=>?_) (λ_ M u hu=>?_) (λe=>by omega)
   ·by_cases h1:i=1
    ·subst h1;rw [cxo,Av ⟨rfl,hb⟩];by_cases h:1<ks.length
     ·exact ih _ (fG h) _ hG2
     ·have e1:aI ks 1=default:=fP Ac;rw [e1];exact gU _
    ·exact hk i λh=>h1 h.1
   ·obtain ⟨P,_,_,_,h5⟩:=hG2.typed hu;exact h5.at
 ·refine iR (λi hi=>hk i λh=>hb h.2) (λe=>by subst e;exact absurd rfl hb) (λ_ M u hu=>?_);obtain ⟨P,_,_,_,h5⟩:=hG.typed hu;exact h5.at
theorem SemG.var {G:List Tm}(h:SemG G){j:Nat}(hj:j<G.length):SemW G (bR ((j:Int)+1) 0 (G.getD (G.length - 1 - j) default)):=by
 have hw:=h.wf j;obtain ⟨P,hP,_,_⟩:=h.get j hj;rw [kZ hw] at hP;rw [mX,Av hj] at hw hP;exact ⟨hw,P,hP⟩
theorem SemG.chk {G:List Tm}(h:SemG G){A x:Tm}{P:Pd}(hA:RT Ends G A P){N:Nat}(hx:gP (bE N) G x A=some (.ok ())):∃q,P [] x q/\El Ends G P [] x:=by
 obtain ⟨s,h1,h2,h3⟩:=fO hx;obtain ⟨P',h4,h5,h6,h7⟩:=h.typed h1;obtain rfl:=LR.irr h4 hA h2;refine ⟨s,h5,El.mk h6 λs' hs=>?_⟩;rw [ST.det hs (uD N G x s h1)];exact h5
theorem aVf (A:Tm):sO (.mk 1 0 []) (λn=>up [A] (idS n))=idS:=by
 funext n
 cases n with
 | zero=>rfl
 | succ n=>show bR 1 0 (.mk 1 (n:Int) [])=_;rw [kU Ac,bK];rfl
theorem aUh {A B:Tm}(hw:cX B=true):bT (.mk 1 0 []) 0 0 (up1 [A] B)=B:=by
 have:=pO [A] (.mk 1 0 []) idS hw;rw [aHg,kZ hw,aVf,kZ hw] at this;exact this
theorem SemG.new {G:List Tm}(h:SemG G){A:Tm}{P:Pd}(hw:cX A=true)(hA:RT Ends G A P):∃q,P [A] (.mk 1 0 []) q/\El Ends G P [A] (.mk 1 0 []):=by
 have h2:SemG (G++[A]):=h.ext ⟨hw,P,hA⟩;obtain ⟨P',h3,h4,h5⟩:=h2.get 0 Ag;have hw2:=h2.wf 0;rw [kZ hw2] at h3;have e:mX (G++[A]) 0=up [A] A:=by rw [kH];rfl
 rw [e] at h3;have h6:=hA.mono [A];obtain rfl:=LR.irr h3 h6 (Mt.refl _);exact ⟨_,(rJ P [A] _ _).1 h4,(zW G P [A] _).1 h5⟩
theorem SemW.two {G:List Tm}(h:SemG G){t:Tm}{k n:Int}{A B:Tm}(ht:SemW G t)(hk:k=3\/k=13)(hs:Hs t (.mk k n [A,B]))(wA:cX A=true)(wB:cX B=true) :
  SemW G A/\SemW (G++[A]) B/\∀N x,cX x=true->gP (bE N) G x A=some (.ok ())->SemW G (bT x 0 0 B):=by
 obtain ⟨_,P,hP⟩:=ht;obtain ⟨P1,P2,h1,h2⟩:∃(P1:Pd) (P2:List Tm->Tm->Pd),RT Ends G A P1/\∀H u q,P1 H u q->El Ends G P1 H u->RT Ends (G++H) (bT u 0 0 (up1 H B)) (P2 H u):=by
  rcases hk with rfl|rfl
  ·obtain ⟨P1,P2,_,h1,h2⟩:=LR.pi_inv hP hs;exact ⟨P1,P2,h1,h2⟩
  ·obtain ⟨P1,P2,_,h1,h2⟩:=LR.sig_inv hP hs;exact ⟨P1,P2,h1,h2⟩
 refine ⟨⟨wA,P1,h1⟩,⟨wB,?_⟩,λN x wx hx=>⟨(wf_sb.1 B x 0 0 wB wx Ah Ah),?_⟩⟩
 ·obtain ⟨q,h3,h4⟩:=h.new wA h1;have:=h2 [A] _ q h3 h4;rw [aUh wB] at this;exact ⟨_,this⟩
 ·obtain ⟨q,h3,h4⟩:=h.chk h1 hx;have:=h2 [] x q h3 h4;rw [List.append_nil,kD] at this;exact ⟨_,this⟩
theorem aBh {ctx:List Tm}{j:Nat}(hj:j<ctx.length):ctx.getD (ctx.length - 1 - j) default=ctx[ctx.length - 1 - j]' Ac:=by
 rw [List.getD_eq_getElem?_getD,sE Ac];rfl
theorem aBy (ctx:List Tm)(C:Ba)(cc j:Nat)(w:Bb)(hm:ctx.length<=8)(hj:j<ctx.length)(hvc:∀u,u∈ctx->aE u=true)(hrc:Rd w C 0 ctx) :
  Calls prog 32 #[.slice C ctx.length cc,.int .i64 j] w (pF w (bJ ((j:Int)+1) 0 (ctx.getD (ctx.length - 1 - j) default))):=by
 have hlt:ctx.length - 1 - j<ctx.length:=by omega
 rw [aBh hj];obtain ⟨b,off,k1,n1,ks1,A1,c1,rfl,hkj,hc1,hc2,hc3,hl1,hr1⟩:=hrc.at_ hlt;have hv1:=hvc _ (gM hlt);rw [hkj] at hv1⊢;have hz1:=aH hv1;have hS:=aD (λ(w:Bb) (hr:Rd w A1 0 ks1)=>fU k1 n1 ks1 A1 c1 ((j:Int)+1) 0 w Ac Ac Ac (bC hv1) hr);have e1:((ctx.length:Int) - 1 - (j:Int))=((ctx.length - 1 - j:Nat):Int):=by omega
 generalize hi:ctx.length - 1 - j=i at *
 have hbl:=kF _ _ hc1;cases hsh:bJ ((j:Int)+1) 0 (.mk k1 n1 ks1) with
 | none=>
  rw [hsh] at hS;clear hkj hv1 hvc;go_enter func32,ntmps32;go_wp2_with (go_at_call 50;refine (hS.out _ (hr1.alloc _)).mono ?_;intro e w1 hgo;obtain ⟨rfl,hb1⟩:=dS hgo;clear hgo;have hZ:Blk w1 w.heap.size Zr:=(aC _ 32 _ Ag).keep hb1;have g1:Bw w w1:=bN bw1 hb1;obtain ⟨d0,d1,d2,f0,f1,f2⟩:=bZ hZ);refine bodyPost_ret (v:=.tuple #[.agg Zr,.bool false]) (by simp [results,results32,go_sem,d0,d1,d2]) rfl ⟨rfl,?_⟩;exact bV g1
 | some t=>
  obtain ⟨k3,n3,s3⟩:=t;rw [hsh] at hS;clear hkj hv1 hvc;go_enter func32,ntmps32;go_wp2_with (go_at_call 50;refine (hS.out _ (hr1.alloc _)).mono ?_;intro e w1 hgo;obtain ⟨A3,c3,rfl,hl3,hf3,hb1⟩:=cS hgo;clear hgo;have hZ:Blk w1 w.heap.size Zr:=(aC _ 32 _ Ag).keep hb1;have g1:Bw w w1:=bN bw1 hb1;obtain ⟨d0,d1,d2,f0,f1,f2⟩:=bZ hZ);refine bodyPost_ret (v:=.tuple #[.agg (Ro k3 n3 A3 s3.length c3),.bool true]) (by simp [results,results32,go_sem,d0,d1,d2]) rfl ⟨A3,c3,rfl,hl3,?_,?_⟩
  ·exact (vF hf3).mono Ag
  ·exact bV g1
theorem uF {o:Option (Rs Tm)}{l:Int}(h:qJ o=some (.ok l)):0<=l/\l<=3:=by
 rcases aBp h with ⟨b,_,h2⟩|⟨s3,l',h1,h2⟩
 ·cases h2
 ·injection h2 with h2;subst h2;have h3:=(oC h1).1;have h4:=bD h3;have h5:dL 2=3:=rfl;omega
theorem nQ {t s:Tm}(h:fV t=some (.ok s)):s=t/\aE s=true:=by
 rcases nD h with ⟨h1,h2⟩|⟨_,h2⟩
 ·injection h2 with h2;subst h2;exact ⟨rfl,h1⟩
 ·cases h2
theorem rO {rec_:Tm->Option (Rs Tm)}{ctx:List Tm}{t s:Tm}{ty:Nat->Option (Rs Tm)}(h:jS rec_ ctx t ty=some (.ok s))(hv:aE t=true):aE s=true:=by
 obtain ⟨k,n,ks⟩:=t;have har:=bD hv;unfold jS at h;have inj:∀{x:Tm},some (Rs.ok x)=some (Rs.ok s)->x=s:=λh=>by injection h with h;injection h
 by_cases e1:k=1
 ·rw [Av (show (Tm.mk k n ks).k=1 from e1)] at h;split at h
  ·cases h
  ·exact (nQ h).2
 rw [Aw (show ¬(Tm.mk k n ks).k=1 from e1)] at h;by_cases e2:k=2
 ·rw [Av (show (Tm.mk k n ks).k=2 from e2)] at h;subst e2;have h3:dL 2=3:=rfl;split at h
  ·cases h
  ·rename_i hn3;have hn4:n≠3:=hn3;rw [<- inj h];exact oX (show 0<=n+1 by omega) (show n+1<=3 by omega)
 rw [Aw (show ¬(Tm.mk k n ks).k=2 from e2)] at h;by_cases e6:k=6
 ·rw [Av (show (Tm.mk k n ks).k=6 from e6)] at h;rw [<- inj h];exact oX Ac Ac
 rw [Aw (show ¬(Tm.mk k n ks).k=6 from e6)] at h;by_cases e7:k=7
 ·rw [Av (show (Tm.mk k n ks).k=7 from e7)] at h;rw [<- inj h];exact zZ
 rw [Aw (show ¬(Tm.mk k n ks).k=7 from e7)] at h;by_cases e8:k=8
 ·rw [Av (show (Tm.mk k n ks).k=8 from e8)] at h;rcases aM h with ⟨b,_,h2⟩|⟨u,_,h2⟩
  ·cases h2
  ·rw [<- inj h2];exact zZ
 rw [Aw (show ¬(Tm.mk k n ks).k=8 from e8)] at h;by_cases e3:k=3\/k=13
 ·rw [Av (show (Tm.mk k n ks).k=3\/(Tm.mk k n ks).k=13 from e3)] at h;rcases aM h with ⟨b,_,h2⟩|⟨i,h1,h2⟩
  ·cases h2
  rcases aM h2 with ⟨b,_,h4⟩|⟨j,h3,h4⟩
  ·cases h4
  have a1:=uF h1;have a2:=uF h3;rw [<- inj h4];exact oX (by split<;>omega) (by split<;>omega)
 rw [Aw (show ¬((Tm.mk k n ks).k=3\/(Tm.mk k n ks).k=13) from e3)] at h;by_cases e4:k=4
 ·rw [Av (show (Tm.mk k n ks).k=4 from e4)] at h;rcases aM h with ⟨b,_,h2⟩|⟨i,h1,h2⟩
  ·cases h2
  rcases aM h2 with ⟨b,_,h4⟩|⟨u,h3,h4⟩
  ·cases h4
  rcases aM h4 with ⟨b,_,h8⟩|⟨v,h7,h8⟩
  ·cases h8
  exact (nQ h8).2
 rw [Aw (show ¬(Tm.mk k n ks).k=4 from e4)] at h;by_cases e5:k=5
 ·rw [Av (show (Tm.mk k n ks).k=5 from e5)] at h;rcases aM h with ⟨b,_,h2⟩|⟨i,h1,h2⟩
  ·cases h2
  rcases aM h2 with ⟨b,_,h4⟩|⟨u,h3,h4⟩
  ·cases h4
  exact (nQ h4).2
 rw [Aw (show ¬(Tm.mk k n ks).k=5 from e5)] at h;by_cases e9:k=9
 ·rw [Av (show (Tm.mk k n ks).k=9 from e9)] at h;rcases aM h with ⟨b,_,h2⟩|⟨i,h1,h2⟩
  ·cases h2
  rcases aM (aDa h2).2 with ⟨b,_,h4⟩|⟨u,h3,h4⟩
  ·cases h4
  rcases aM (aDa h4).2 with ⟨b,_,h6⟩|⟨v,h5,h6⟩
  ·cases h6
  rcases aM h6 with ⟨b,_,h8⟩|⟨x,h7,h8⟩
  ·cases h8
  exact (nQ h8).2
 rw [Aw (show ¬(Tm.mk k n ks).k=9 from e9)] at h;by_cases e10:k=10
 ·rw [Av (show (Tm.mk k n ks).k=10 from e10)] at h;rcases aM h with ⟨b,_,h2⟩|⟨i,h1,h2⟩
  ·cases h2
  rcases aM h2 with ⟨b,_,h4⟩|⟨u,h3,h4⟩
  ·cases h4
  rcases aM h4 with ⟨b,_,h6⟩|⟨v,h5,h6⟩
  ·cases h6
  have a1:=uF h1;rw [<- inj h6];exact oX a1.1 a1.2
 rw [Aw (show ¬(Tm.mk k n ks).k=10 from e10)] at h;by_cases e11:k=11
 ·rw [Av (show (Tm.mk k n ks).k=11 from e11)] at h;rcases aM h with ⟨b,_,h2⟩|⟨i,h1,h2⟩
  ·cases h2
  rcases aM h2 with ⟨b,_,h4⟩|⟨u,h3,h4⟩
  ·cases h4
  exact (nQ h4).2
 rw [Aw (show ¬(Tm.mk k n ks).k=11 from e11)] at h;by_cases e12:k=12
 ·rw [Av (show (Tm.mk k n ks).k=12 from e12)] at h;rcases aM h with ⟨b,_,h2⟩|⟨i,h1,h2⟩
  ·cases h2
  rcases aM h2 with ⟨b,_,h4⟩|⟨u,h3,h4⟩
  ·cases h4
  rcases aM (aDa h4).2 with ⟨b,_,h6⟩|⟨v,h5,h6⟩
  ·cases h6
  exact (nQ h6).2
 rw [Aw (show ¬(Tm.mk k n ks).k=12 from e12)] at h;by_cases e14:k=14
 ·rw [Av (show (Tm.mk k n ks).k=14 from e14)] at h;subst e14;rcases aM h with ⟨b,_,h2⟩|⟨i,h1,h2⟩
  ·cases h2
  rcases aM h2 with ⟨b,_,h4⟩|⟨u,h3,h4⟩
  ·cases h4
  rcases aM h4 with ⟨b,_,h6⟩|⟨v,h5,h6⟩
  ·cases h6
  rcases aM h6 with ⟨b,_,h8⟩|⟨x,h7,h8⟩
  ·cases h8
  rcases aM (aDa h8).2 with ⟨b,_,h10⟩|⟨y,h9,h10⟩
  ·cases h10
  rw [<- inj h10];exact uK hv (by have h3:aX 14=3:=rfl;omega)
 rw [Aw (show ¬(Tm.mk k n ks).k=14 from e14)] at h;by_cases e15:k=15
 ·rw [Av (show (Tm.mk k n ks).k=15 from e15)] at h;rcases aM h with ⟨b,_,h2⟩|⟨i,h1,h2⟩
  ·cases h2
  obtain ⟨h3,h4⟩:=oC h1;obtain ⟨ki,ni,si⟩:=i;obtain rfl:ki=13:=h4;rw [<- inj h2];exact uK h3 (by have:=(bD h3).1;have h3:aX 13=2:=rfl;omega)
 rw [Aw (show ¬(Tm.mk k n ks).k=15 from e15)] at h;rcases aM h with ⟨b,_,h2⟩|⟨i,h1,h2⟩
 ·cases h2
 exact (nQ h2).2
theorem wN {N:Nat}{ctx:List Tm}{t:Tm}{r:Rs Tm}(hc:ctx.length<=20)(h:bW (N+1) ctx t=some r):aE t=true/\ctx.length<=20/\jS (hE (bW N) ctx) ctx t (jL (bW N) ctx t)=some r:=by
 rw [bW] at h;split at h
 ·rename_i hc;exact ⟨hc.1,hc.2,h⟩
 ·rename_i hc2;split at h
  ·exact absurd ⟨‹_›,hc⟩ hc2
  ·cases h
theorem tW {N:Nat}{ctx:List Tm}{t:Tm}{r:Rs Tm}(hc:20<ctx.length)(h:bW N ctx t=some r):aE t=true/\r = .no false:=by
 cases N with
 | zero=>cases h
 | succ N=>
  rw [bW,Aw (λh=>by omega)] at h;split at h
  ·exact ⟨‹_›,(Option.some.inj h).symm⟩
  ·cases h
theorem iD {N:Nat}{ctx:List Tm}{t s:Tm}(h:bW N ctx t=some (.ok s)):aE s=true:=by
 cases N with
 | zero=>cases h
 | succ N=>
  by_cases hc:ctx.length<=20
  ·obtain ⟨h1,_,h2⟩:=wN hc h;exact rO h2 h1
  ·cases (tW Ac h).2
def aHj (N:Nat):Prop:=∀(ctx:List Tm) (k n:Int) (ks:List Tm) (r:Rs Tm),ctx.length<=20->bW N ctx (.mk k n ks)=some r->(∀u,u∈ctx->aE u=true)->
 ∀(C:Ba) (cc:Nat) (A:Ba) (c:Nat) (w:Bb),Rd w C 0 ctx->Rd w A 0 ks->Calls prog 96 #[.slice C ctx.length cc,.agg (Ro k n A ks.length c)] w (qK w r)
theorem aEt {N:Nat}(ih:aHj N)(ctx:List Tm)(C:Ba)(cc:Nat)(k n:Int)(ks:List Tm)(A:Ba)(c:Nat)(kind:Int)(r:Rs Tm)(w:Bb)(hs:sL (bW N ctx (.mk k n ks)) kind=some r)(hvc:∀u,u∈ctx->aE u=true)(hm:ctx.length<=20)(hrc:Rd w C 0 ctx)(hra:Rd w A 0 ks) :
  Calls prog 81 #[.slice C ctx.length cc,.agg (Ro k n A ks.length c),.int .i64 kind] w (qK w r):=by
 rcases aM hs with ⟨b,h1,rfl⟩|⟨s,h1,h2⟩
 ·have qb:=dP b;have hI:=aD (λ(w:Bb) (hrc:Rd w C 0 ctx) (hra:Rd w A 0 ks)=>ih ctx k n ks _ hm h1 hvc C cc A c w hrc hra);clear hs h1 hvc ih;go_enter func81,ntmps81;go_wp2_with (go_at_call 96;refine (hI.out _ ((hrc.alloc _).alloc _) ((hra.alloc _).alloc _)).mono ?_;rintro e w1 ⟨rfl,hb1⟩;have hZ1:=jI hb1;have g1:Bw w w1:=bN bw2 hb1;obtain ⟨d0,d1,d2,e0,e1,e2,lz⟩:=dN hZ1;have n1':w.heap.size+1≠w1.heap.size:=Ac);have y:=λ(o:Obj)=>(((((hZ1.set_ 0 (.int .i64 0)).set_ 1 (.int .i64 0)).set_ 2 (.slice none 0 0)).alloc o:Blk _ _ Zr)).three
  refine bodyPost_ret (v:=.tuple #[.agg Zr,.int .i64 (dB b)]) (by simp [results,results81,go_sem,y,d0,d1,d2]) rfl ⟨rfl,?_⟩;exact (bV g1).alloc (by simp [World.setCell];exact g1.size) _
 ·obtain ⟨k1,n1,s1⟩:=s;have hv1:=aD (iD h1);have hI:=aD (λ(w:Bb) (hrc:Rd w C 0 ctx) (hra:Rd w A 0 ks)=>ih ctx k n ks _ hm h1 hvc C cc A c w hrc hra);have h2':=aD h2;have hvr:=aD (λ(t:Tm) (h:r = .ok t)=>by rw [h] at h2;exact (aNk h2).1);clear hs h1 hvc ih h2;cases r with
  | no b=>
   go_enter func81,ntmps81;go_wp2_with (first
    | (go_at_call 107;have _t:=tok1;refine (iS k1 n1 s1 A1 c1 kind _ _ hv1.out h2'.out (r1.alloc _)).mono ?_;rintro e w2 ⟨rfl,hb2⟩;have hZ2:=(hZ.alloc (.cells (Ro k1 n1 A1 s1.length c1) 32)).keep hb2;have g2:=(g1.alloc g1.size (.cells (Ro k1 n1 A1 s1.length c1) 32)).trans (hb2.mono (by have:=g1.size;simp;omega));obtain ⟨d0,d1,d2,e0,e1,e2⟩:=bZ hZ2)
    | (go_at_call 96;refine (hI.out _ ((hrc.alloc _).alloc _) ((hra.alloc _).alloc _)).mono ?_;rintro e w1 ⟨A1,c1,rfl,hl1,r1,hb1⟩;have hZ:=jI hb1;have g1:Bw w w1:=bN bw2 hb1;have lz:=hZ.lt;have tok1:=trivial))
   refine bodyPost_ret (v:=.tuple #[.agg Zr,.int .i64 (dB b)]) (by simp [results,results81,go_sem,d0,d1,d2]) rfl ⟨rfl,?_⟩;exact bV g2
  | ok t=>
   obtain ⟨kt,nt,st⟩:=t;have hvt:=aD (hvr.out _ rfl);go_enter func81,ntmps81;go_wp2_with (first
    | (go_at_call 107;have _t:=tok1;refine (iS k1 n1 s1 A1 c1 kind _ _ hv1.out h2'.out (r1.alloc _)).mono ?_;rintro e w2 ⟨A3,c3,rfl,hl3,r3,hb2⟩;have hZ2:=(hZ.alloc (.cells (Ro k1 n1 A1 s1.length c1) 32)).keep hb2;have g2:=(g1.alloc g1.size (.cells (Ro k1 n1 A1 s1.length c1) 32)).trans (hb2.mono (by have:=g1.size;simp;omega));obtain ⟨d0,d1,d2,e0,e1,e2⟩:=bZ hZ2)
    | (go_at_call 96;refine (hI.out _ ((hrc.alloc _).alloc _) ((hra.alloc _).alloc _)).mono ?_;rintro e w1 ⟨A1,c1,rfl,hl1,r1,hb1⟩;have hZ:=jI hb1;have g1:Bw w w1:=bN bw2 hb1;have lz:=hZ.lt;have tok1:=trivial))
   refine bodyPost_ret (v:=.tuple #[.agg (Ro kt nt A3 st.length c3),.int .i64 0]) (by simp [results,results81,go_sem,d0,d1,d2]) rfl ⟨A3,c3,rfl,hl3,?_,?_⟩
   ·exact bS hZ2 hvt.out r3 _ _ _
   ·exact bV g2
theorem vN {N:Nat}(ih:aHj N)(ctx:List Tm)(C:Ba)(cc:Nat)(k n:Int)(ks:List Tm)(A:Ba)(c:Nat)(r:Rs Int)(w:Bb)(hs:qJ (bW N ctx (.mk k n ks))=some r)(hvc:∀u,u∈ctx->aE u=true)(hm:ctx.length<=20)(hrc:Rd w C 0 ctx)(hra:Rd w A 0 ks) :
  Calls prog 49 #[.slice C ctx.length cc,.agg (Ro k n A ks.length c)] w (GtI w r):=by
 rcases aBp hs with ⟨b,h1,rfl⟩|⟨s3,l,h1,rfl⟩
 all_goals
  have hI:=aD (λ(w:Bb) (hrc:Rd w C 0 ctx) (hra:Rd w A 0 ks)=>aEt ih ctx C cc k n ks A c 2 _ w h1 hvc hm hrc hra);clear hs h1 hvc ih;go_enter func49,ntmps49
 ·go_wp2_with (go_at_call 81;refine (hI.out _ (hrc.alloc _) (hra.alloc _)).mono ?_;rintro e w1 ⟨rfl,hb1⟩;have g1:Bw w w1:=bN bw1 hb1);go_ret2;exact ⟨rfl,g1.alloc g1.size _⟩
 ·go_wp2_with (go_at_call 81;refine (hI.out _ (hrc.alloc _) (hra.alloc _)).mono ?_;rintro e w1 ⟨A3,c3,rfl,hl3,r3,hb1⟩;have g1:Bw w w1:=bN bw1 hb1);go_ret2;exact ⟨rfl,g1.alloc g1.size _⟩
theorem kV {o1 o2:Option (Rs Tm)}(h:Le o1 o2):Le (qJ o1) (qJ o2):=cB h λ_=>Le.refl _
theorem xZ {o1 o2:Option (Rs Tm)}(h:Le o1 o2)(k:Int):Le (sL o1 k) (sL o2 k):=cB h λ_=>Le.refl _
theorem mR {o1 o2:Option (Rs Tm)}(h:Le o1 o2)(t:Tm):Le (lC o1 t) (lC o2 t):=cB h λ_=>Le.refl _
theorem aOk {o1 o2:Option (Rs Tm)}(h:Le o1 o2)(t:Tm):Le (faV o1 t) (faV o2 t):=cB (xZ h 3) λ_=>Le.refl _
theorem aBz {α:Type}{t:Tm}{f g:Option (Rs α)}(h:Le f g):Le (vb t f) (vb t g):=λr hr=>by
 rcases qP hr with ⟨h1,h2⟩|⟨h1,h2⟩
 ·rw [vb,Av h1];exact h r h2
 ·rw [vb,Aw (by rw [h1];decide),h2]
theorem aUt {r1 r2:Tm->Option (Rs Tm)}{t1 t2:Nat->Option (Rs Tm)}(hr:∀t,Le (r1 t) (r2 t))(ht:∀i,Le (t1 i) (t2 i))(ctx:List Tm)(t:Tm):Le (jS r1 ctx t t1) (jS r2 ctx t t2):=by
 unfold jS;by_cases e1:t.k=1
 ·rw [Av e1,Av e1];exact Le.refl _
 rw [Aw e1,Aw e1];by_cases e2:t.k=2
 ·rw [Av e2,Av e2];exact Le.refl _
 rw [Aw e2,Aw e2];by_cases e6:t.k=6
 ·rw [Av e6,Av e6];exact Le.refl _
 rw [Aw e6,Aw e6];by_cases e7:t.k=7
 ·rw [Av e7,Av e7];exact Le.refl _
 rw [Aw e7,Aw e7];by_cases e8:t.k=8
 ·rw [Av e8,Av e8];exact cB (mR (ht _) _) λ_=>Le.refl _
 rw [Aw e8,Aw e8];by_cases e3:t.k=3\/t.k=13
 ·rw [Av e3,Av e3];exact cB (kV (ht _)) λ_=>cB (kV (ht _)) λ_=>Le.refl _
 rw [Aw e3,Aw e3];by_cases e4:t.k=4
 ·rw [Av e4,Av e4];exact cB (kV (ht _)) λ_=>cB (ht _) λ_=>cB (hr _) λ_=>Le.refl _
 rw [Aw e4,Aw e4];by_cases e5:t.k=5
 ·rw [Av e5,Av e5];exact cB (xZ (ht _) _) λ_=>cB (mR (ht _) _) λ_=>Le.refl _
 rw [Aw e5,Aw e5];by_cases e9:t.k=9
 ·rw [Av e9,Av e9];exact cB (aOk (ht _) _) λ_=>aBz (cB (mR (ht _) _) λ_=>aBz (cB (mR (ht _) _) λ_=>cB (mR (ht _) _) λ_=>Le.refl _))
 rw [Aw e9,Aw e9];by_cases e10:t.k=10
 ·rw [Av e10,Av e10];exact cB (kV (ht _)) λ_=>cB (mR (ht _) _) λ_=>cB (mR (ht _) _) λ_=>Le.refl _
 rw [Aw e10,Aw e10];by_cases e11:t.k=11
 ·rw [Av e11,Av e11];exact cB (ht _) λ_=>cB (kV (hr _)) λ_=>Le.refl _
 rw [Aw e11,Aw e11];by_cases e12:t.k=12
 ·rw [Av e12,Av e12];exact cB (xZ (ht _) _) λ_=>cB (aOk (ht _) _) λ_=>aBz (cB (mR (ht _) _) λ_=>Le.refl _)
 rw [Aw e12,Aw e12];by_cases e14:t.k=14
 ·rw [Av e14,Av e14];exact cB (kV (ht _)) λ_=>cB (Le.refl _) λ_=>cB (Le.refl _) λ_=>cB (mR (ht _) _) λ_=>aBz (cB (mR (ht _) _) λ_=>Le.refl _)
 rw [Aw e14,Aw e14];by_cases e15:t.k=15
 ·rw [Av e15,Av e15];exact cB (xZ (ht _) _) λ_=>Le.refl _
 rw [Aw e15,Aw e15];exact cB (xZ (ht _) _) λ_=>Le.refl _
theorem aUs {r1 r2:List Tm->Tm->Option (Rs Tm)}(hr:∀c t,Le (r1 c t) (r2 c t))(ctx:List Tm)(t:Tm)(i:Nat):Le (jL r1 ctx t i) (jL r2 ctx t i):=by
 unfold jL;split
 ·exact hr _ _
 ·exact hr _ _
theorem aQq {r1 r2:List Tm->Tm->Option (Rs Tm)}(hr:∀c t,Le (r1 c t) (r2 c t))(ctx:List Tm)(t:Tm):Le (hE r1 ctx t) (hE r2 ctx t):=by
 unfold hE;split
 ·exact hr _ _
 ·exact Le.refl _
theorem vK:∀(N:Nat) (ctx:List Tm) (t:Tm),Le (bW N ctx t) (bW (N+1) ctx t)
 | 0,_,_=>λr h=>by cases h
 | N+1,ctx,t=>by
  intro r h;by_cases hc:ctx.length<=20;rotate_left
  ·obtain ⟨h1,rfl⟩:=tW Ac h;rw [bW,Aw (λh=>hc h.2),Av h1]
  obtain ⟨hv,hm,hj⟩:=wN hc h;rw [bW,Av ⟨hv,hm⟩];exact aUt (λt=>aQq (vK N) ctx t) (λi=>aUs (vK N) ctx t i) ctx t r hj
theorem zG {N M:Nat}(h:N<=M)(ctx:List Tm)(t:Tm):Le (bW N ctx t) (bW M ctx t):=by
 induction h with
 | refl=>exact Le.refl _
 | step h ih=>exact λr hr=>vK _ _ _ r (ih r hr)
def Sm {α:Type}(o1 o2:Option (Rs α)):Prop:=∀r,o1=some r->∃r',o2=some r'/\∀s,r = .ok s↔r' = .ok s
theorem Sm.refl {α:Type}(o:Option (Rs α)):Sm o o:=λr h=>⟨r,h,λ_=>Iff.rfl⟩
theorem Sm.le {α:Type}{o1 o2 o3:Option (Rs α)}(h:Sm o1 o2)(hl:Le o2 o3):Sm o1 o3:=λr hr=>by
 obtain ⟨r',h1,h2⟩:=h r hr;exact ⟨r',hl _ h1,h2⟩
theorem wR {α:Type}(b b':Bool)(s:α):(Rs.no b:Rs α) = .ok s↔(Rs.no b':Rs α) = .ok s:=⟨λh=>(by cases h),λh=>(by cases h)⟩
theorem Sm.no {α:Type}{o1 o2:Option (Rs α)}{b:Bool}(h:Sm o1 o2)(h1:o1=some (.no b)):∃b',o2=some (.no b'):=by
 obtain ⟨r',h3,h4⟩:=h _ h1;cases r' with
 | ok s=>cases (h4 s).2 rfl
 | no b'=>exact ⟨b',h3⟩
theorem Sm.ok {α:Type}{o1 o2:Option (Rs α)}{a:α}(h:Sm o1 o2)(h1:o1=some (.ok a)):o2=some (.ok a):=by
 obtain ⟨r',h3,h4⟩:=h _ h1;rw [h3,(h4 a).1 rfl]
theorem jK {α β:Type}{o1 o2:Option (Rs α)}{f1 f2:α->Option (Rs β)}(h:Sm o1 o2)(hf:∀a,o1=some (.ok a)->Sm (f1 a) (f2 a)):Sm (bd o1 f1) (bd o2 f2):=by
 intro r hr;rcases aM hr with ⟨b,h1,rfl⟩|⟨a,h1,h2⟩
 ·obtain ⟨b',h3⟩:=h.no h1;exact ⟨.no b',by rw [h3];rfl,wR b b'⟩
 ·obtain ⟨r',h3,h4⟩:=hf a h1 r h2;exact ⟨r',by rw [h.ok h1,pR];exact h3,h4⟩
def SmV (o1 o2:Option (Rs Tm)):Prop:=Sm (bd o1 fV) o2
theorem iG {α:Type}{o1 o2:Option (Rs α)}{f1 f2:α->Option (Rs Tm)}(h:Sm o1 o2)(hf:∀a,o1=some (.ok a)->SmV (f1 a) (f2 a)):SmV (bd o1 f1) (bd o2 f2):=by
 intro r hr;rcases aM hr with ⟨b,h1,rfl⟩|⟨s,h1,h2⟩
 ·rcases aM h1 with ⟨b2,h3,h4⟩|⟨a,h3,h4⟩
  ·obtain ⟨b',h5⟩:=h.no h3;exact ⟨.no b',by rw [h5];rfl,wR b b'⟩
  ·obtain ⟨r',h5,h6⟩:=hf a h3 (.no b) (by rw [h4];rfl);exact ⟨r',by rw [h.ok h3,pR];exact h5,h6⟩
 ·rcases aM h1 with ⟨b2,h3,h4⟩|⟨a,h3,h4⟩
  ·cases h4
  ·obtain ⟨r',h5,h6⟩:=hf a h3 r (by rw [h4,pR];exact h2);exact ⟨r',by rw [h.ok h3,pR];exact h5,h6⟩
theorem oD (t:Tm):SmV (some (.ok t)) (fV t):=Sm.refl _
theorem mL {o1 o2:Option (Rs Tm)}(h:Sm o1 o2)(hv:∀s,o2=some (.ok s)->aE s=true):SmV o1 o2:=by
 intro r hr;rcases aM hr with ⟨b,h1,rfl⟩|⟨s,h1,h2⟩
 ·obtain ⟨b',h3⟩:=h.no h1;exact ⟨.no b',h3,wR b b'⟩
 ·have h3:=h.ok h1;rw [fV,Av (hv s h3)] at h2;exact ⟨.ok s,h3,λs'=>by rw [<- Option.some.inj h2]⟩
theorem aPw {o:Option (Rs Tm)}{w:Tm}{u:Unit}(hv:aE w=false)(h:lC o w=some (.ok u)):False:=by
 rcases aM h with ⟨b,_,h2⟩|⟨s,h1,h2⟩
 ·cases h2
 ·rw [tR,Aw (λh=>by rw [hv] at h;cases h.2)] at h2;cases h2
theorem aWl {α:Type}{o:Option (Rs Tm)}{w:Tm}{f:Unit->Option (Rs α)}{J:Option (Rs α)}(h:aE w=true->Sm (bd (lC o w) f) J):Sm (bd (lC o w) f) (vb w J):=by
 by_cases hv:aE w=true
 ·rw [vb,Av hv];exact h hv
 ·have hv:=Bool.eq_false_iff.2 hv;rw [vb,Aw (by rw [hv];decide)];intro r hr;rcases aM hr with ⟨b,h1,rfl⟩|⟨s,h1,h2⟩
  ·exact ⟨_,rfl,wR b false⟩
  ·exact (aPw hv h1).elim
theorem aHl {o:Option (Rs Tm)}{w:Tm}{f:Unit->Option (Rs Tm)}{J:Option (Rs Tm)}(h:aE w=true->SmV (bd (lC o w) f) J):SmV (bd (lC o w) f) (vb w J):=by
 by_cases hv:aE w=true
 ·rw [vb,Av hv];exact h hv
 ·have hv:=Bool.eq_false_iff.2 hv;rw [vb,Aw (by rw [hv];decide)];intro r hr;rcases aM hr with ⟨b,h1,rfl⟩|⟨s,h1,h2⟩
  ·exact ⟨_,rfl,wR b false⟩
  ·rcases aM h1 with ⟨b2,h3,h4⟩|⟨a,h3,h4⟩
   ·cases h4
   ·exact (aPw hv h3).elim
theorem rG {o1 o2:Option (Rs Tm)}(h:Sm o1 o2):Sm (qJ o1) (qJ o2):=jK h λ_ _=>Sm.refl _
theorem aDt {o1 o2:Option (Rs Tm)}(h:Sm o1 o2)(k:Int):Sm (sL o1 k) (sL o2 k):=jK h λ_ _=>Sm.refl _
theorem pL {o1 o2:Option (Rs Tm)}(h:Sm o1 o2)(t:Tm):Sm (lC o1 t) (lC o2 t):=jK h λ_ _=>Sm.refl _
theorem aTn {o1 o2:Option (Rs Tm)}(h:Sm o1 o2)(t:Tm):Sm (faV o1 t) (faV o2 t):=jK (aDt h 3) λ_ _=>Sm.refl _
theorem eU {N M:Nat}(ih:∀c t,aE t=true->Sm (bE N c t) (bW M c t))(ctx:List Tm)(k n:Int)(ks:List Tm)(i:Nat)(hu:aN k i=0)(hv:aE (aI ks i)=true):Sm (bE N ctx (aI ks i)) (jL (bW M) ctx (.mk k n ks) i):=by
 unfold jL;rw [Av (show aN (Tm.mk k n ks).k i=0 from hu)];exact ih _ _ hv
theorem aGy {N M:Nat}(ih:∀c t,aE t=true->Sm (bE N c t) (bW M c t))(ctx:List Tm)(k n:Int)(ks:List Tm)(i:Nat)(hu:aN k i=1)(hv:aE (aI ks i)=true):Sm (bE N (ctx++[aI ks 0]) (aI ks i)) (jL (bW M) ctx (.mk k n ks) i):=by
 unfold jL;rw [Aw (show ¬aN (Tm.mk k n ks).k i=0 by show ¬aN k i=0;omega)];exact ih _ _ hv
theorem aVt {N M:Nat}(ih:∀c t,aE t=true->Sm (bE N c t) (bW M c t))(ctx:List Tm)(hc:ctx.length<=20)(a u:Tm)(hv:aE (.mk 3 0 [a,u])=true):Sm (yR (bE N) ctx a u) (hE (bW (M+1)) ctx (.mk 3 0 [a,u])):=by
 rw [vS hv,bW,Av ⟨hv,hc⟩];have e:jS (hE (bW M) ctx) ctx (.mk 3 0 [a,u]) (jL (bW M) ctx (.mk 3 0 [a,u]))=bd (qJ (jL (bW M) ctx (.mk 3 0 [a,u]) 0)) λi=>bd (qJ (jL (bW M) ctx (.mk 3 0 [a,u]) 1)) λj=>some (.ok (.mk 2 (if j<i then i else j) [])):=rfl
 rw [e];exact jK (rG (eU ih ctx 3 0 [a,u] 0 rfl (aP hv (by simp [aI])))) λi _=>jK (rG (aGy ih ctx 3 0 [a,u] 1 rfl (aP hv (by simp [aI])))) λ_ _=>Sm.refl _
theorem aVn {N M:Nat}(ih:∀c t,aE t=true->Sm (bE N c t) (bW M c t))(ctx:List Tm)(t:Tm)(hv:aE t=true)(hm:ctx.length<=20):Sm (bd (dU (bE N) ctx t) fV) (jS (hE (bW (M+1)) ctx) ctx t (jL (bW (M+1)) ctx t)):=by
 have ih1:∀c t,aE t=true->Sm (bE N c t) (bW (M+1) c t):=λc t h=>(ih c t h).le (vK M c t)
 have hjv:∀s,jS (hE (bW (M+1)) ctx) ctx t (jL (bW (M+1)) ctx t)=some (.ok s)->aE s=true:=λs h=>rO h hv
 obtain ⟨k,n,ks⟩:=t;have har:=bD hv;have u0:∀(k:Int) (hk:k≠3/\k≠4/\k≠13) (i:Nat),aN k i=0:=λk hk i=>aUp hk i
 have hk:∀i:Nat,i<ks.length->aE (aI ks i)=true:=λi hi=>uK hv hi
 have hd:∀a,aE a=true->True:=λ_ _=>trivial
 change SmV (dU (bE N) ctx (.mk k n ks)) _;by_cases e1:k=1
 ·have ej:jS (hE (bW (M+1)) ctx) ctx (.mk k n ks) (jL (bW (M+1)) ctx (.mk k n ks))=if (ctx.length:Int)<=n then some (.no true) else fV (bR (n+1) 0 (ctx.getD (ctx.length - 1 - n.toNat) default)):=by
   unfold jS;rw [Av (show (Tm.mk k n ks).k=1 from e1)];rfl
  have ek:dU (bE N) ctx (.mk k n ks)=aEp ctx n:=by
   subst e1;rw [dU];simp
  rw [ej,ek,aEp];split
  ·exact Sm.refl _
  ·exact oD _
 by_cases e2:k=2
 ·have h3:dL 2=3:=rfl;have ej:jS (hE (bW (M+1)) ctx) ctx (.mk k n ks) (jL (bW (M+1)) ctx (.mk k n ks))=if n=3 then some (.no true) else some (.ok (.mk 2 (n+1) [])):=by
   unfold jS;rw [Aw (show ¬(Tm.mk k n ks).k=1 from e1),Av (show (Tm.mk k n ks).k=2 from e2)];rfl
  have ek:dU (bE N) ctx (.mk k n ks)=if 3<=n then some (.no true) else some (.ok (.mk 2 (n+1) [])):=by
   subst e2;rw [dU];simp
  have hn:n<=3:=by
   have:=har;subst e2;omega
  refine mL ?_ hjv;rw [ej,ek];by_cases h:n=3
  ·rw [Av Ac,Av h];exact Sm.refl _
  ·rw [Aw Ac,Aw h];exact Sm.refl _
 by_cases e6:k=6
 ·subst e6;refine mL ?_ hjv;have ek:dU (bE N) ctx (.mk 6 n ks)=some (.ok (.mk 2 0 [])):=by rw [dU];simp
  rw [ek];exact Sm.refl _
 by_cases e7:k=7
 ·subst e7;refine mL ?_ hjv;have ek:dU (bE N) ctx (.mk 7 n ks)=some (.ok nT):=by rw [dU];simp
  rw [ek];exact Sm.refl _
 by_cases e8:k=8
 ·subst e8;refine mL ?_ hjv;have ek:dU (bE N) ctx (.mk 8 n ks)=aUq (bE N) ctx (aI ks 0):=by rw [dU];simp
  have ej:jS (hE (bW (M+1)) ctx) ctx (.mk 8 n ks) (jL (bW (M+1)) ctx (.mk 8 n ks))=bd (lC (jL (bW (M+1)) ctx (.mk 8 n ks) 0) nT) λ_=>some (.ok nT):=rfl
  rw [ek,ej];exact jK (pL (eU ih1 ctx 8 n ks 0 rfl (hk 0 (by have h3:aX 8=1:=rfl;omega))) nT) λ_ _=>Sm.refl _
 by_cases e3:k=3\/k=13
 ·have a2:aX k=2:=by rcases e3 with rfl|rfl<;>rfl
  have a0:aN k ((0:Nat):Int)=0:=by rcases e3 with rfl|rfl<;>rfl
  have a1:aN k ((1:Nat):Int)=1:=by rcases e3 with rfl|rfl<;>rfl
  refine mL ?_ hjv;have ek:dU (bE N) ctx (.mk k n ks)=yR (bE N) ctx (aI ks 0) (aI ks 1):=by rw [dU,Av e3]
  have ej:jS (hE (bW (M+1)) ctx) ctx (.mk k n ks) (jL (bW (M+1)) ctx (.mk k n ks))=bd (qJ (jL (bW (M+1)) ctx (.mk k n ks) 0)) λi=>bd (qJ (jL (bW (M+1)) ctx (.mk k n ks) 1)) λj=>some (.ok (.mk 2 (if j<i then i else j) [])):=by
   rcases e3 with rfl|rfl<;>rfl
  rw [ek,ej];exact jK (rG (eU ih1 ctx k n ks 0 a0 (hk 0 Ac))) λi _=>jK (rG (aGy ih1 ctx k n ks 1 a1 (hk 1 Ac))) λ_ _=>Sm.refl _
 by_cases e4:k=4
 ·subst e4;have a2:aX 4=2:=rfl;have ek:dU (bE N) ctx (.mk 4 n ks)=aKl (bE N) ctx (aI ks 0) (aI ks 1):=by rw [dU];simp
  have ej:jS (hE (bW (M+1)) ctx) ctx (.mk 4 n ks) (jL (bW (M+1)) ctx (.mk 4 n ks))=bd (qJ (jL (bW (M+1)) ctx (.mk 4 n ks) 0)) λ_=>bd (jL (bW (M+1)) ctx (.mk 4 n ks) 1) λu=>bd (hE (bW (M+1)) ctx (.mk 3 0 [aI ks 0,u])) λ_=>fV (.mk 3 0 [aI ks 0,u]):=rfl
  rw [ek,ej,aKl];refine iG (rG (eU ih1 ctx 4 n ks 0 rfl (hk 0 Ac))) λi _=>iG (aGy ih1 ctx 4 n ks 1 rfl (hk 1 Ac)) λu _=>?_
  by_cases hp:aE (.mk 3 0 [aI ks 0,u])=true
  ·exact iG (aVt ih ctx hm _ _ hp) λ_ _=>oD _
  ·have hp:=Bool.eq_false_iff.2 hp;have er:hE (bW (M+1)) ctx (.mk 3 0 [aI ks 0,u])=some (.no false):=by rw [hE,Aw (by rw [hp];decide)]
   rw [er];intro r hr;rcases aM hr with ⟨b,h1,rfl⟩|⟨s,h1,h2⟩
   ·exact ⟨_,rfl,wR b false⟩
   ·rcases aM h1 with ⟨b,_,h4⟩|⟨a,_,h4⟩
    ·cases h4
    ·injection h4 with h4;injection h4 with h4;rw [<- h4,fV,Aw (by rw [hp];decide)] at h2;rw [<- Option.some.inj h2];exact ⟨_,rfl,wR false false⟩
 by_cases e5:k=5
 ·subst e5;have a2:aX 5=2:=rfl;have ek:dU (bE N) ctx (.mk 5 n ks)=aSh (bE N) ctx (aI ks 0) (aI ks 1):=by rw [dU];simp
  have ej:jS (hE (bW (M+1)) ctx) ctx (.mk 5 n ks) (jL (bW (M+1)) ctx (.mk 5 n ks))=bd (sL (jL (bW (M+1)) ctx (.mk 5 n ks) 0) 3) λh=>bd (lC (jL (bW (M+1)) ctx (.mk 5 n ks) 1) (aI h.ks 0)) λ_=>fV (bT (aI ks 1) 0 0 (aI h.ks 1)):=rfl
  rw [ek,ej,aSh];exact iG (aDt (eU ih1 ctx 5 n ks 0 rfl (hk 0 Ac)) 3) λh _=>iG (pL (eU ih1 ctx 5 n ks 1 rfl (hk 1 Ac)) _) λ_ _=>oD _
 by_cases e9:k=9
 ·subst e9;have a4:aX 9=4:=rfl;have ek:dU (bE N) ctx (.mk 9 n ks)=aRl (bE N) ctx (aI ks 0) (aI ks 1) (aI ks 2) (aI ks 3):=by rw [dU];simp
  have ej:jS (hE (bW (M+1)) ctx) ctx (.mk 9 n ks) (jL (bW (M+1)) ctx (.mk 9 n ks))=bd (faV (jL (bW (M+1)) ctx (.mk 9 n ks) 0) nT) λ_=>vb (eH (aI ks 0) (.mk 7 0 [])) (bd (lC (jL (bW (M+1)) ctx (.mk 9 n ks) 1) (eH (aI ks 0) (.mk 7 0 []))) λ_=>vb (nM (aI ks 0)) (bd (lC (jL (bW (M+1)) ctx (.mk 9 n ks) 2) (nM (aI ks 0))) λ_=>bd (lC (jL (bW (M+1)) ctx (.mk 9 n ks) 3) nT) λ_=>fV (eH (aI ks 0) (aI ks 3)))):=rfl
  rw [ek,ej,aRl];exact iG (aTn (eU ih1 ctx 9 n ks 0 rfl (hk 0 Ac)) _) λ_ _=>aHl λ_=>iG (pL (eU ih1 ctx 9 n ks 1 rfl (hk 1 Ac)) _) λ_ _=>aHl λ_=>iG (pL (eU ih1 ctx 9 n ks 2 rfl (hk 2 Ac)) _) λ_ _=>iG (pL (eU ih1 ctx 9 n ks 3 rfl (hk 3 Ac)) _) λ_ _=>oD _
 by_cases e10:k=10
 ·subst e10;have a3:aX 10=3:=rfl;refine mL ?_ hjv;have ek:dU (bE N) ctx (.mk 10 n ks)=aRi (bE N) ctx (aI ks 0) (aI ks 1) (aI ks 2):=by rw [dU];simp
  have ej:jS (hE (bW (M+1)) ctx) ctx (.mk 10 n ks) (jL (bW (M+1)) ctx (.mk 10 n ks))=bd (qJ (jL (bW (M+1)) ctx (.mk 10 n ks) 0)) λi=>bd (lC (jL (bW (M+1)) ctx (.mk 10 n ks) 1) (aI ks 0)) λ_=>bd (lC (jL (bW (M+1)) ctx (.mk 10 n ks) 2) (aI ks 0)) λ_=>some (.ok (.mk 2 i [])):=rfl
  rw [ek,ej,aRi];exact jK (rG (eU ih1 ctx 10 n ks 0 rfl (hk 0 Ac))) λ_ _=>jK (pL (eU ih1 ctx 10 n ks 1 rfl (hk 1 Ac)) _) λ_ _=>jK (pL (eU ih1 ctx 10 n ks 2 rfl (hk 2 Ac)) _) λ_ _=>Sm.refl _
 by_cases e11:k=11
 ·subst e11;have a3:aX 11=1:=rfl;have ek:dU (bE N) ctx (.mk 11 n ks)=aRg (bE N) ctx (aI ks 0):=by rw [dU];simp
  have ej:jS (hE (bW (M+1)) ctx) ctx (.mk 11 n ks) (jL (bW (M+1)) ctx (.mk 11 n ks))=bd (jL (bW (M+1)) ctx (.mk 11 n ks) 0) λs=>bd (qJ (hE (bW (M+1)) ctx s)) λ_=>fV (.mk 10 0 [s,aI ks 0,aI ks 0]):=rfl
  rw [ek,ej,aRg];exact iG (eU ih1 ctx 11 n ks 0 rfl (hk 0 Ac)) λs hs=>iG (rG (by rw [vS (dD hs)];exact ih1 ctx s (dD hs))) λ_ _=>oD _
 by_cases e12:k=12
 ·subst e12;have a3:aX 12=3:=rfl;have ek:dU (bE N) ctx (.mk 12 n ks)=aSb (bE N) ctx (aI ks 0) (aI ks 1) (aI ks 2):=by rw [dU];simp
  have ej:jS (hE (bW (M+1)) ctx) ctx (.mk 12 n ks) (jL (bW (M+1)) ctx (.mk 12 n ks))=bd (sL (jL (bW (M+1)) ctx (.mk 12 n ks) 1) 10) λe=>bd (faV (jL (bW (M+1)) ctx (.mk 12 n ks) 0) (aI e.ks 0)) λ_=>vb (eH (aI ks 0) (aI e.ks 1)) (bd (lC (jL (bW (M+1)) ctx (.mk 12 n ks) 2) (eH (aI ks 0) (aI e.ks 1))) λ_=>fV (eH (aI ks 0) (aI e.ks 2))):=rfl
  rw [ek,ej,aSb];exact iG (aDt (eU ih1 ctx 12 n ks 1 rfl (hk 1 Ac)) 10) λe _=>iG (aTn (eU ih1 ctx 12 n ks 0 rfl (hk 0 Ac)) _) λ_ _=>aHl λ_=>iG (pL (eU ih1 ctx 12 n ks 2 rfl (hk 2 Ac)) _) λ_ _=>oD _
 by_cases e14:k=14
 ·subst e14;have a3:aX 14=3:=rfl;refine mL ?_ hjv;have ek:dU (bE N) ctx (.mk 14 n ks)=aQr (bE N) ctx (aI ks 0) (aI ks 1) (aI ks 2):=by rw [dU];simp
  have ej:jS (hE (bW (M+1)) ctx) ctx (.mk 14 n ks) (jL (bW (M+1)) ctx (.mk 14 n ks))=bd (qJ (jL (bW (M+1)) ctx (.mk 14 n ks) 0)) λ_=>bd (some (jB (aI ks 0))) λh=>bd (lX 13 h) λh=>bd (lC (jL (bW (M+1)) ctx (.mk 14 n ks) 1) (aI h.ks 0)) λ_=>vb (bT (aI ks 1) 0 0 (aI h.ks 1)) (bd (lC (jL (bW (M+1)) ctx (.mk 14 n ks) 2) (bT (aI ks 1) 0 0 (aI h.ks 1))) λ_=>some (.ok (aI ks 0))):=rfl
  rw [ek,ej,aQr];exact jK (rG (eU ih1 ctx 14 n ks 0 rfl (hk 0 Ac))) λ_ _=>jK (Sm.refl _) λh _=>jK (Sm.refl _) λh _=>jK (pL (eU ih1 ctx 14 n ks 1 rfl (hk 1 Ac)) _) λ_ _=>aWl λ_=>jK (pL (eU ih1 ctx 14 n ks 2 rfl (hk 2 Ac)) _) λ_ _=>Sm.refl _
 have ar1:aX k=1:=by
  have:=uE (k:=k) (by have:=har.1;omega) e3 e4 e5 e9 e10 e12 e14 e1 e2 e6 e7 e8 e11;rcases this with rfl|rfl<;>rfl
 have hk15:k=15\/k=16:=uE (k:=k) (by have:=har.1;omega) e3 e4 e5 e9 e10 e12 e14 e1 e2 e6 e7 e8 e11;have u15:aN k ((0:Nat):Int)=0:=by rcases hk15 with rfl|rfl<;>rfl
 have ek:dU (bE N) ctx (.mk k n ks)=aPg (bE N) ctx k (aI ks 0):=by
  rcases hk15 with rfl|rfl<;>(rw [dU];simp)
 by_cases e15:k=15
 ·subst e15;refine mL ?_ hjv;have ej:jS (hE (bW (M+1)) ctx) ctx (.mk 15 n ks) (jL (bW (M+1)) ctx (.mk 15 n ks))=bd (sL (jL (bW (M+1)) ctx (.mk 15 n ks) 0) 13) λh=>some (.ok (aI h.ks 0)):=rfl
  rw [ek,ej,aPg];exact jK (aDt (eU ih1 ctx 15 n ks 0 rfl (hk 0 Ac)) 13) λh _=>by rw [Av rfl];exact Sm.refl _
 ·obtain rfl:k=16:=by omega
  have ej:jS (hE (bW (M+1)) ctx) ctx (.mk 16 n ks) (jL (bW (M+1)) ctx (.mk 16 n ks))=bd (sL (jL (bW (M+1)) ctx (.mk 16 n ks) 0) 13) λh=>fV (bT (.mk 15 0 [aI ks 0]) 0 0 (aI h.ks 1)):=rfl
  rw [ek,ej,aPg];exact iG (aDt (eU ih1 ctx 16 n ks 0 rfl (hk 0 Ac)) 13) λh _=>by rw [Aw e15];exact oD _
theorem qF:∀(N:Nat) (ctx:List Tm) (t:Tm),aE t=true->Sm (bE N ctx t) (bW (2*N) ctx t)
 | 0,_,_,_=>λr h=>by cases h
 | N+1,ctx,t,hv=>by
  have ih:=qF N;have e2:2*(N+1)=(2*N+1)+1:=by omega
  rw [e2,bE,bW];by_cases hm:ctx.length<=20
  ·rw [Av ⟨hv,hm⟩,Av ⟨hv,hm⟩];exact aVn ih ctx t hv hm
  ·rw [Aw (λh=>hm h.2),Aw (λh=>hm h.2),Av hv];exact Sm.refl _
def cpG (N:Nat)(ctx:List Tm):Nat->Option Int
 | 0=>some 0
 | m+1=>match qJ (bW N (ctx.take (ctx.length - (m+1))) (ctx.getD (ctx.length - (m+1)) default)) with
  | none=>none
  | some (.no b)=>some (dB b)
  | some (.ok _)=>cpG N ctx m
def cpR (N:Nat)(ctx:List Tm):Option Int:=if lD ctx=true then cpG N ctx ctx.length else some 3
theorem aMy (b:Bool):dB b≠0:=by cases b<;>decide
theorem aDw (r:Rs Tm):∃q,qJ (some r)=some q:=by
 cases r with
 | no b=>exact ⟨_,rfl⟩
 | ok s=>
  show ∃q,bd (some (jB s)) tB=some q;cases jB s with
  | no b=>exact ⟨_,rfl⟩
  | ok h=>show ∃q,tB h=some q;unfold tB;split<;>exact ⟨_,rfl⟩
theorem aEf {N M:Nat}(h:N<=M){ctx:List Tm}:∀{m:Nat} {co:Int},ccG N ctx m=some co->ccG M ctx m=some co
 | 0,_,e=>e
 | m+1,co,e=>by
  rw [ccG] at e⊢;cases hq:iT (bE N) (ctx.take (ctx.length - (m+1))) (ctx.getD (ctx.length - (m+1)) default) with
  | none=>rw [hq] at e;cases e
  | some q=>
   rw [show iT (bE M) _ _=some q from kV (iQ h _ _) q hq];rw [hq] at e;cases q with
   | no b=>exact e
   | ok l=>exact aEf h e
theorem aFx {N M:Nat}(h:N<=M){ctx:List Tm}:∀{m:Nat} {co:Int},cpG N ctx m=some co->cpG M ctx m=some co
 | 0,_,e=>e
 | m+1,co,e=>by
  rw [cpG] at e⊢;cases hq:qJ (bW N (ctx.take (ctx.length - (m+1))) (ctx.getD (ctx.length - (m+1)) default)) with
  | none=>rw [hq] at e;cases e
  | some q=>
   rw [kV (zG h _ _) q hq];rw [hq] at e;cases q with
   | no b=>exact e
   | ok l=>exact aFx h e
theorem CxG.ats {G:List Tm}(h:CxG G):∀j,j<G.length->CxG (G.take j)/\∃N l,iT (bE N) (G.take j) (G.getD j default)=some (.ok l):=by
 induction h with
 | nil=>intro j hj;cases hj
 | @snoc G A N l hG hs ih=>
  intro j hj;rw [List.length_append] at hj;by_cases e:j=G.length
  ·subst e;have e1:(G++[A]).take G.length=G:=List.take_left'  rfl;have e2:(G++[A]).getD G.length default=A:=by simp [List.getD]
   rw [e1,e2];exact ⟨hG,N,l,hs⟩
  ·have hj2:j<G.length:=by simp at hj;omega
   have e1:(G++[A]).take j=G.take j:=by rw [List.take_append_of_le_length Ac]
   have e2:(G++[A]).getD j default=G.getD j default:=by simp [List.getD,List.getElem?_append_left hj2]
   rw [e1,e2];exact ih j hj2
theorem yC {N M:Nat}{G:List Tm}{A:Tm}{r q:Rs Int}(h1:iT (bE N) G A=some r)(h2:iT (bE M) G A=some q):r=q:=by
 have a:=kV (iQ (Nat.le_max_left N M) G A) r h1;have b:=kV (iQ (Nat.le_max_right N M) G A) q h2;rw [a] at b;exact Option.some.inj b
theorem aLl {G:List Tm}{j:Nat}(hj:j<G.length):G.take (j+1)=G.take j++[G.getD j default]:=by
 rw [List.take_add_one];simp [List.getD,sE hj]
theorem aPe {ctx:List Tm}(hf:∀u,u∈ctx->aE u=true):∀(m j:Nat),j+m=ctx.length->CxG (ctx.take j)->∃N M co co',ccG N ctx m=some co/\cpG M ctx m=some co'/\(co=0↔CxG ctx)/\(co'=0↔CxG ctx)
 | 0,j,hj,hG=>by
  have e:ctx.take j=ctx:=List.take_of_length_le Ac;rw [e] at hG;exact ⟨0,0,0,0,rfl,rfl,⟨λ_=>hG,λ_=>rfl⟩,⟨λ_=>hG,λ_=>rfl⟩⟩
 | m+1,j,hj,hG=>by
  have hlt:j<ctx.length:=by omega
  have ej:ctx.length - (m+1)=j:=by omega
  obtain ⟨N0,r,hr⟩:=aEn (ctx.getD j default) _ hG;obtain ⟨q,hq⟩:=aDw r;rw [<- hr] at hq;have hva:aE (ctx.getD j default)=true:=by
   have:ctx.getD j default=ctx[j]:=by simp [List.getD,sE hlt]
   rw [this];exact hf _ (gM hlt)
  obtain ⟨q',hq',hqq⟩:=rG (qF N0 _ _ hva) q hq;cases q with
  | no b=>
   have hnc:¬CxG ctx:=λhc=>by
    obtain ⟨_,N,l,hs⟩:=hc.ats j hlt;have:=yC hq hs;cases this
   cases q' with
   | ok l=>have:=(hqq l).2 rfl;cases this
   | no b'=>
    refine ⟨N0,2*N0,dB b,dB b',?_,?_,⟨λh=>absurd h (aMy b),λh=>absurd h hnc⟩,⟨λh=>absurd h (aMy b'),λh=>absurd h hnc⟩⟩
    ·rw [ccG,ej,show iT (bE N0) _ _=_ from hq]
    ·rw [cpG,ej,hq']
  | ok l=>
   have h1:q' = .ok l:=(hqq l).1 rfl;subst h1;obtain ⟨N1,M1,co,co',h1,h2,h3,h4⟩:=aPe hf m (j+1) Ac (by rw [aLl hlt];exact .snoc hG hq);refine ⟨max N0 N1,max (2*N0) M1,co,co',?_,?_,h3,h4⟩
   ·rw [ccG,ej,show iT (bE (max N0 N1)) _ _=_ from kV (iQ (Nat.le_max_left _ _) _ _) _ hq];exact aEf (Nat.le_max_right _ _) h1
   ·rw [cpG,ej,kV (zG (Nat.le_max_left _ _) _ _) _ hq'];exact aFx (Nat.le_max_right _ _) h2
def CxO (ctx:List Tm):Prop:=lD ctx=true/\CxG ctx
def Sok (ctx:List Tm)(t:Tm):Prop:=CxO ctx/\aE t=true/\∃N l,iT (bE N) ctx t=some (.ok l)
theorem aFn (ctx:List Tm):∃N M co co',ccR N ctx=some co/\cpR M ctx=some co'/\(co=0↔CxO ctx)/\(co'=0↔CxO ctx):=by
 unfold ccR cpR CxO;cases hf:lD ctx with
 | false=>exact ⟨0,0,3,3,rfl,rfl,⟨λh=>by omega,λh=>by cases h.1⟩,⟨λh=>by omega,λh=>by cases h.1⟩⟩
 | true=>
  obtain ⟨N,M,co,co',h1,h2,h3,h4⟩:=aPe (lV hf).1 ctx.length 0 Ac (by rw [List.take_zero];exact .nil);exact ⟨N,M,co,co',by rw [Av rfl];exact h1,by rw [Av rfl];exact h2,⟨λh=>⟨rfl,h3.1 h⟩,λh=>h3.2 h.2⟩,⟨λh=>⟨rfl,h4.1 h⟩,λh=>h4.2 h.2⟩⟩
theorem aDo {ctx:List Tm}(hc:CxG ctx){t:Tm}(hv:aE t=true):∃N q q',iT (bE N) ctx t=some q/\qJ (bW (2*N) ctx t)=some q'/\∀l,q = .ok l↔q' = .ok l:=by
 obtain ⟨N,r,hr⟩:=aEn t _ hc;obtain ⟨q,hq⟩:=aDw r;rw [<- hr] at hq;obtain ⟨q',h1,h2⟩:=rG (qF N ctx t hv) q hq;exact ⟨N,q,q',hq,h1,h2⟩
theorem aCk (N:Nat)(ctx:List Tm):bW N ctx default=none:=by
 cases N with
 | zero=>rfl
 | succ N=>rw [bW,Aw (λh=>absurd h.1 (by decide +kernel)),Aw (by decide +kernel)]
theorem aTu {N:Nat}{ctx:List Tm}{k n:Int}{ks:List Tm}{i:Nat}{r:Rs Tm}(h:jL (bW N) ctx (.mk k n ks) i=some r):i<ks.length:=by
 by_cases hi:i<ks.length
 ·exact hi
 ·have hk:aI ks i=default:=by simp [aI,List.getD,List.getElem?_eq_none (Nat.le_of_not_lt hi)]
  unfold jL at h;simp only [Tm.k,Tm.ks,hk,aCk] at h;split at h<;>cases h
theorem aJt {N:Nat}{ctx:List Tm}{t:Tm}:tF (jL (bW N) ctx t):=by
 intro i s h;unfold jL at h;split at h
 ·exact iD h
 ·exact iD h
theorem aKn (C:Ba)(m cc:Nat)(k n:Int)(A:Ba)(la c:Nat)(w:Bb)(hm:20<=m) :
  Calls prog 136 #[.slice C m cc,.agg (Ro k n A la c)] w λe w'=>e = .returned (.tuple #[.slice none 0 0,.int .i64 2])/\Bw w w':=by
 have hq:decide ((20:Int)<=(m:Int))=true:=decide_eq_true Ac;go_enter func136,ntmps136;go_wp2_with fail;go_ret2;exact ⟨rfl,bw1⟩
theorem aJz (C:Ba)(m cc:Nat)(k n:Int)(ka na:Int)(sa:List Tm)(ts:List Tm)(A:Ba)(c:Nat)(i:Nat)(w:Bb)(hu:aN k i=1)(hm:20<=m)(hra:Rd w A 0 (.mk ka na sa::ts)) :
  Calls prog 117 #[.slice C m cc,.agg (Ro k n A (ts.length+1) c),.int .i64 i] w λe w'=>e = .returned (.tuple #[.slice none 0 0,.int .i64 2])/\Bw w w':=by
 have hu':=aD hu;clear hu;obtain ⟨ba,oa,Aa,ca,rfl,i1,i2,i3,hla,ra⟩:=mU hra;simp only [Nat.zero_mul,Nat.add_zero] at i1 i2 i3;have lb:=kF _ _ i1;have q2:(0:Int)<((ts.length:Nat):Int)+1:=by omega
 go_enter func117,ntmps117;go_wp2_with (first
  | (go_at_call 136;refine (aKn C m cc ka na Aa _ ca _ hm).mono ?_;rintro e w2 ⟨rfl,hb2⟩)
  | (go_at_call 108;refine (lQ _ _ _).mono ?_;rw [hu'.out];rintro e w1 ⟨rfl,rfl⟩))
 go_ret2;exact ⟨rfl,bw1.trans (hb2.mono Ag)⟩
theorem aNx {N:Nat}(ih:aHj N)(ctx:List Tm)(C:Ba)(cc:Nat)(k n:Int)(ks:List Tm)(A:Ba)(c b2 b3:Nat)(w:Bb)(hv:aE (.mk k n ks)=true)(hvc:∀u,u∈ctx->aE u=true)(hm:ctx.length<=20)(hB2:Blk w b2 #[.slice C ctx.length cc])(hB3:Blk w b3 (Ro k n A ks.length c))(hrc:Rd w C 0 ctx)(hra:Rd w A 0 ks) :
  TyX 116 #[.pointer (some ⟨b2,0,none⟩),.pointer (some ⟨b3,0,none⟩)] w (jL (bW N) ctx (.mk k n ks)):=by
 refine ⟨⟨b2,b3,rfl,rfl⟩,?_⟩;intro i r hi ht w' hw' args ha;subst ha;show Calls prog 116 #[.int .i64 i,.pointer (some ⟨b2,0,none⟩),.pointer (some ⟨b3,0,none⟩)] w' _;have hi2:=aTu ht;have hrc':=hrc.below hw';have hra':=hra.below hw';have hB2':=hB2.keep hw';have hB3':=hB3.keep hw';have lb2:=hB2'.lt;have lb3:=hB3'.lt;have z0:=hB2'.at_ (i:=0) rfl;obtain ⟨b,off,k1,n1,ks1,A1,c1,rfl,hkj,i1,i2,i3,hl1,hr1⟩:=hra'.at_ hi2;obtain ⟨x0,x1,x2⟩:=hB3'.three;have lb:=kF _ _ i1;have hil:(i:Int)<(ks.length:Int):=by omega
 unfold jL at ht;simp only [Tm.k,Tm.ks,aPh hi2,hkj] at ht;by_cases hu0:aN k i=0
 ·rw [Av hu0] at ht;have hvr:=aD (λ(t:Tm) (h:r = .ok t)=>by rw [h] at ht;exact iD ht);have hih:=aD (λ(w:Bb) (h1:Rd w C 0 ctx) (h2:Rd w A1 0 ks1)=>ih ctx k1 n1 ks1 r hm ht hvc C cc A1 c1 w h1 h2);have hu:=aD hu0;clear hu0 ht hkj;cases r with
  | no bb=>
   go_enter func116,ntmps116;go_wp2_with (first
    | (go_at_call 96;have _t:=tok1;refine (hih.out _ (hrc'.below g1) (hr1.below g1)).mono ?_;rintro e w2 ⟨rfl,hb2⟩;have hZ2:=hZ1.keep hb2;have g2:=g1.trans (hb2.mono g1.size);obtain ⟨d0,d1,d2,e0,e1,e2⟩:=bZ hZ2)
    | (go_at_call 117;refine (aId C ctx.length cc k n _ ks.length c i _ hu.out).mono ?_;rintro e w1 ⟨rfl,hb1⟩;have hZ1:Blk w1 w'.heap.size Zr:=(aC _ 32 _ rfl).keep hb1;have g1:Bw w' w1:=bw1.trans (hb1.mono Ag);have y2:=(cM g1) _ _ x2;obtain ⟨y0,y1,y3⟩:=xW g1 i1 i2 i3;have tok1:=trivial))
   refine bodyPost_ret (v:=.tuple #[.agg Zr,.int .i64 (dB bb)]) (by simp [results,results116,go_sem,d0,d1,d2]) rfl ⟨rfl,?_⟩;exact bV g2
  | ok t=>
   obtain ⟨kr,nr,sr⟩:=t;replace hvr:=aD (hvr.out _ rfl);go_enter func116,ntmps116;go_wp2_with (first
    | (go_at_call 96;have _t:=tok1;refine (hih.out _ (hrc'.below g1) (hr1.below g1)).mono ?_;rintro e w2 ⟨A9,c9,rfl,hl9,r9,hb2⟩;have hZ2:=hZ1.keep hb2;have g2:=g1.trans (hb2.mono g1.size);obtain ⟨d0,d1,d2,e0,e1,e2⟩:=bZ hZ2)
    | (go_at_call 117;refine (aId C ctx.length cc k n _ ks.length c i _ hu.out).mono ?_;rintro e w1 ⟨rfl,hb1⟩;have hZ1:Blk w1 w'.heap.size Zr:=(aC _ 32 _ rfl).keep hb1;have g1:Bw w' w1:=bw1.trans (hb1.mono Ag);have y2:=(cM g1) _ _ x2;obtain ⟨y0,y1,y3⟩:=xW g1 i1 i2 i3;have tok1:=trivial))
   refine bodyPost_ret (v:=.tuple #[.agg (Ro kr nr A9 sr.length c9),.int .i64 0]) (by simp [results,results116,go_sem,d0,d1,d2]) rfl ⟨A9,c9,rfl,hl9,bS hZ2 hvr.out r9 _ _ _,?_⟩;exact bV g2
 ·rw [Aw hu0] at ht;have hu1:aN k i=1:=by have:=dA k i;omega
  have hun:(i:Int)=1/\binds k=true:=by unfold aN at hu1;split at hu1<;>simp_all
  obtain rfl:i=1:=by omega
  by_cases hm20:ctx.length<20;rotate_left
  ·obtain rfl:=(tW (by rw [List.length_append,List.length_singleton];omega) ht).2;obtain ⟨a0,ts,rfl⟩:∃a0 ts,ks=a0::ts:=by cases ks with|nil=>simp at hi2|cons a ts=>exact ⟨a,ts,rfl⟩
   obtain ⟨ka,na,sa⟩:=a0;have hop:=aD (λ(w:Bb) (h2:Rd w (some ⟨b,off,none⟩) 0 (.mk ka na sa::ts))=>aJz C ctx.length cc k n ka na sa ts (some ⟨b,off,none⟩) c 1 w hu1 Ac h2);simp only [List.length_cons] at x2;clear ht hkj hu0 hu1 hun;rw [List.length_cons] at *;go_enter func116,ntmps116;go_wp2_with (go_at_call 117;refine (hop.out _ (hra'.alloc _)).mono ?_;rintro e w1 ⟨rfl,hb1⟩;have hZ1:Blk w1 w'.heap.size Zr:=(aC _ 32 _ rfl).keep hb1;have g1:Bw w' w1:=bw1.trans (hb1.mono Ag);obtain ⟨d0,d1,d2,e0,e1,e2⟩:=bZ hZ1)
   refine bodyPost_ret (v:=.tuple #[.agg Zr,.int .i64 2]) (by simp [results,results116,go_sem,d0,d1,d2]) rfl ⟨rfl,?_⟩;exact bV g1
  obtain ⟨a0,ts,rfl⟩:∃a0 ts,ks=a0::ts:=by cases ks with|nil=>simp at hi2|cons a ts=>exact ⟨a,ts,rfl⟩
  obtain ⟨ka,na,sa⟩:=a0;have hk0:aI (Tm.mk ka na sa::ts) 0 = .mk ka na sa:=rfl;rw [hk0] at ht;have hvr:=aD (λ(t:Tm) (h:r = .ok t)=>by rw [h] at ht;exact iD ht);have hv0:=aP hv (t:=.mk ka na sa) Ag;have hlt:ts.length<=1000:=by have:=aH hv;have:=aJ (Tm.mk ka na sa::ts);simp at this;omega
  have hih:=aD (λ(D:Ba) (d:Nat) (w:Bb) (h1:Rd w D 0 (ctx++[.mk ka na sa])) (h2:Rd w A1 0 ks1)=>by
   have:=ih (ctx++[.mk ka na sa]) k1 n1 ks1 r (by rw [List.length_append,List.length_singleton];omega) ht (λu hu=>by rcases List.mem_append.1 hu with h|h;exact hvc u h;(rw [List.mem_singleton.1 h];exact hv0)) D d A1 c1 w h1 h2;rw [show (ctx++[Tm.mk ka na sa]).length=ctx.length+1 from by simp] at this;exact this)
  have hop:=aD (λ(w:Bb) (h1:Rd w C 0 ctx) (h2:Rd w (some ⟨b,off,none⟩) 0 (.mk ka na sa::ts))=>aPa ctx C cc k n ka na sa ts (some ⟨b,off,none⟩) c 1 w hu1 Ac hlt h1 h2);simp only [List.length_cons] at x2;clear ht hkj hu0 hu1 hun;rw [List.length_cons] at *;cases r with
  | no bb=>
   go_enter func116,ntmps116;go_wp2_with (first
    | (go_at_call 96;have _t:=tok1;refine (hih.out D d _ hrD (hr1.below g1)).mono ?_;rintro e w2 ⟨rfl,hb2⟩;have hZ2:=hZ1.keep hb2;have g2:=g1.trans (hb2.mono g1.size);obtain ⟨d0,d1,d2,e0,e1,e2⟩:=bZ hZ2)
    | (go_at_call 117;refine (hop.out _ (hrc'.alloc _) (hra'.alloc _)).mono ?_;rintro e w1 ⟨D,d,rfl,hrD,hb1⟩;simp only [List.length_append,List.length_cons,List.length_nil,Nat.zero_add];have hZ1:Blk w1 w'.heap.size Zr:=(aC _ 32 _ rfl).keep hb1;have g1:Bw w' w1:=bw1.trans (hb1.mono Ag);have y2:=(cM g1) _ _ x2;obtain ⟨y0,y1,y3⟩:=xW g1 i1 i2 i3;have tok1:=trivial))
   refine bodyPost_ret (v:=.tuple #[.agg Zr,.int .i64 (dB bb)]) (by simp [results,results116,go_sem,d0,d1,d2]) rfl ⟨rfl,?_⟩;exact bV g2
  | ok t=>
   obtain ⟨kr,nr,sr⟩:=t;replace hvr:=aD (hvr.out _ rfl);go_enter func116,ntmps116;go_wp2_with (first
    | (go_at_call 96;have _t:=tok1;refine (hih.out D d _ hrD (hr1.below g1)).mono ?_;rintro e w2 ⟨A9,c9,rfl,hl9,r9,hb2⟩;have hZ2:=hZ1.keep hb2;have g2:=g1.trans (hb2.mono g1.size);obtain ⟨d0,d1,d2,e0,e1,e2⟩:=bZ hZ2)
    | (go_at_call 117;refine (hop.out _ (hrc'.alloc _) (hra'.alloc _)).mono ?_;rintro e w1 ⟨D,d,rfl,hrD,hb1⟩;simp only [List.length_append,List.length_cons,List.length_nil,Nat.zero_add];have hZ1:Blk w1 w'.heap.size Zr:=(aC _ 32 _ rfl).keep hb1;have g1:Bw w' w1:=bw1.trans (hb1.mono Ag);have y2:=(cM g1) _ _ x2;obtain ⟨y0,y1,y3⟩:=xW g1 i1 i2 i3;have tok1:=trivial))
   refine bodyPost_ret (v:=.tuple #[.agg (Ro kr nr A9 sr.length c9),.int .i64 0]) (by simp [results,results116,go_sem,d0,d1,d2]) rfl ⟨A9,c9,rfl,hl9,bS hZ2 hvr.out r9 _ _ _,?_⟩;exact bV g2
theorem eN (K:Int)(F:Nat)(hK:(K=3/\F=139)\/(K=13/\F=139)\/(K=4/\F=140)\/(K=9/\F=144)\/(K=10/\F=145)\/(K=12/\F=146)\/(K=14/\F=147)\/(K=15/\F=148)\/(K=16/\F=148))(C:Ba)(m cc:Nat)(n:Int)(A:Ba)(la c fc:Nat)(ev:Array Value)(r:Rs Tm)(w:Bb)(hvr:∀t,r = .ok t->aE t=true)
  (hc : Hid (∀ w', Bw w w' -> Calls prog F #[.agg #[.slice C m cc, .int .i64 K, .int .i64 n, .slice A la c, .func (.func fc) #[] ev]] w' (qK w' r))) :
  Calls prog 118 #[.agg #[.slice C m cc,.int .i64 K,.int .i64 n,.slice A la c,.func (.func fc) #[] ev]] w (qK w r):=by
 cases r with
 | no b=>exact aGr K F hK C m cc n A la c fc ev b w hc
 | ok t=>
  obtain ⟨kr,nr,sr⟩:=t;have hv:=hvr _ rfl;rcases hK with ⟨rfl,rfl⟩|⟨rfl,rfl⟩|⟨rfl,rfl⟩|⟨rfl,rfl⟩|⟨rfl,rfl⟩|⟨rfl,rfl⟩|⟨rfl,rfl⟩|⟨rfl,rfl⟩|⟨rfl,rfl⟩
  ·exact aLe C m cc n A la c fc ev kr nr sr w hv hc
  ·exact aGb C m cc n A la c fc ev kr nr sr w hv hc
  ·exact aJx C m cc n A la c fc ev kr nr sr w hv hc
  ·exact aMc C m cc n A la c fc ev kr nr sr w hv hc
  ·exact aHa C m cc n A la c fc ev kr nr sr w hv hc
  ·exact aGi C m cc n A la c fc ev kr nr sr w hv hc
  ·exact aHb C m cc n A la c fc ev kr nr sr w hv hc
  ·exact aHn C m cc n A la c fc ev kr nr sr w hv hc
  ·exact aGu C m cc n A la c fc ev kr nr sr w hv hc
theorem aPu {N:Nat}(ih:aHj N)(ctx:List Tm)(C:Ba)(cc:Nat)(k n:Int)(ks:List Tm)(A:Ba)(c fc:Nat)(ev:Array Value)(r:Rs Tm)(ty:Nat->Option (Rs Tm))(w:Bb)(h:jS (hE (bW N) ctx) ctx (.mk k n ks) ty=some r)(hv:aE (.mk k n ks)=true)(hvc:∀u,u∈ctx->aE u=true)(hm:ctx.length<=20)(hT:TyX fc ev w ty)(hty:tF ty)(hrc:Rd w C 0 ctx)(hr:Rd w A 0 ks) :
  Calls prog 118 #[.agg #[.slice C ctx.length cc,.int .i64 k,.int .i64 n,.slice A ks.length c,.func (.func fc) #[] ev]] w (qK w r):=by
 have hvr:∀t,r = .ok t->aE t=true:=λt ht=>by rw [ht] at h;exact rO h hv
 have har:=bD hv;unfold jS at h;by_cases e1:k=1
 ·rw [Av (show (Tm.mk k n ks).k=1 from e1)] at h;subst e1;split at h
  ·rename_i hn;obtain rfl:=(Option.some.inj h).symm;exact aDs C _ cc n A _ c fc ev w hn
  ·rename_i hn;have hn:¬(ctx.length:Int)<=n:=hn;obtain ⟨nn,hnn⟩:∃nn:Nat,(nn:Int)=n:=⟨n.toNat,by omega⟩;subst hnn;have hpl:ctx.length - 1 - nn<ctx.length:=by omega
   have hg:ctx.getD (ctx.length - 1 - (Tm.mk 1 (nn:Int) ks).n.toNat) default=ctx[ctx.length - 1 - nn]:=by
    show ctx.getD (ctx.length - 1 - ((nn:Int)).toNat) default=_;rw [Int.toNat_natCast];simp [List.getD,sE hpl]
   rw [hg] at h;have hvu:=hvc _ (gM hpl);obtain ⟨ku,nu,su,hcu⟩:∃ku nu su,ctx[ctx.length - 1 - nn] = .mk ku nu su:=by
    cases hh:ctx[ctx.length - 1 - nn] with|mk a b l=>exact ⟨a,b,l,rfl⟩
   rw [hcu] at h hvu;exact aHp ctx C cc nn _ A ks.length c fc ev ku nu su r w hm Ac hpl hcu hvu h hrc
 rw [Aw (show ¬(Tm.mk k n ks).k=1 from e1)] at h;by_cases e2:k=2
 ·rw [Av (show (Tm.mk k n ks).k=2 from e2)] at h;subst e2;have h3:dL 2=3:=rfl;split at h
  ·rename_i hn;obtain rfl:n=3:=hn;obtain rfl:=(Option.some.inj h).symm;exact aFu C _ cc A _ c fc ev w
  ·rename_i hn;have hn3:n≠3:=hn;obtain rfl:=(Option.some.inj h).symm;exact aKh C _ cc n A _ c fc ev w hn3 Ac
 rw [Aw (show ¬(Tm.mk k n ks).k=2 from e2)] at h;by_cases e6:k=6
 ·rw [Av (show (Tm.mk k n ks).k=6 from e6)] at h;subst e6;obtain rfl:=(Option.some.inj h).symm;exact aLy C _ cc n A _ c fc ev w
 rw [Aw (show ¬(Tm.mk k n ks).k=6 from e6)] at h;by_cases e7:k=7
 ·rw [Av (show (Tm.mk k n ks).k=7 from e7)] at h;subst e7;obtain rfl:=(Option.some.inj h).symm;exact aLb C _ cc n A _ c fc ev w
 rw [Aw (show ¬(Tm.mk k n ks).k=7 from e7)] at h;by_cases e8:k=8
 ·rw [Av (show (Tm.mk k n ks).k=8 from e8)] at h;subst e8;rcases aM h with ⟨b,h1,rfl⟩|⟨u,h1,h2⟩
  ·exact aDu C _ cc n A _ c fc ev b ty w h1 hT hty
  ·obtain rfl:=(Option.some.inj h2).symm;exact aKt C _ cc n A _ c fc ev _ w (mM h1) hT.ok
 rw [Aw (show ¬(Tm.mk k n ks).k=8 from e8)] at h;by_cases e3:k=3\/k=13
 ·rw [Av (show (Tm.mk k n ks).k=3\/(Tm.mk k n ks).k=13 from e3)] at h;rcases e3 with rfl|rfl
  ·exact eN 3 139 Ag C _ cc n A _ c fc ev r w hvr (aD λw' hw=>xM C _ cc 3 n A c fc ev _ r ty w' h (hT.below hw) hty)
  ·exact eN 13 139 Ag C _ cc n A _ c fc ev r w hvr (aD λw' hw=>xM C _ cc 13 n A c fc ev _ r ty w' h (hT.below hw) hty)
 rw [Aw (show ¬((Tm.mk k n ks).k=3\/(Tm.mk k n ks).k=13) from e3)] at h;by_cases e4:k=4
 ·rw [Av (show (Tm.mk k n ks).k=4 from e4)] at h;subst e4;obtain ⟨a,b,rfl⟩:=kP (l:=ks) (by have h3:aX 4=2:=rfl;omega);obtain ⟨ka,na,sa⟩:=a;exact eN 4 140 Ag C _ cc n A _ c fc ev r w hvr (aD λw' hw=>zE C _ cc 4 n A c fc ev ka na sa b r (hE (bW N) ctx) ty w' h (hT.below hw) hty (hr.below hw) (aP hv (t:=.mk ka na sa) Ag) (λu rr hrr hvu=>aPn hrr hvu) (aD λu rr hrr hvu Ao co w2 hw2 hro=>ih ctx 3 0 [.mk ka na sa,u] rr hm (by rw [vS hvu] at hrr;exact hrr) hvc C cc Ao co w2 ((hrc.below hw).below hw2) hro))
 rw [Aw (show ¬(Tm.mk k n ks).k=4 from e4)] at h;by_cases e5:k=5
 ·rw [Av (show (Tm.mk k n ks).k=5 from e5)] at h;subst e5;obtain ⟨a,b,rfl⟩:=kP (l:=ks) (by have h3:aX 5=2:=rfl;omega);obtain ⟨kx,nx,sx⟩:=b;have hvx:=aP hv (t:=.mk kx nx sx) Ag;rcases aM h with ⟨b,h1,rfl⟩|⟨f,h1,h2⟩
  ·exact aFs C _ cc n A c fc ev b ty w h1 hT hty
  obtain ⟨hvf,hkf⟩:=oC h1;obtain ⟨kf,n3,sf⟩:=f;obtain rfl:kf=3:=hkf;obtain ⟨kd,nd,sd,ke,ne,se,rfl⟩:=wT hvf rfl;rcases aM h2 with ⟨b,h3,rfl⟩|⟨u,h3,h4⟩
  ·exact aCw C _ cc n A c fc ev a kx nx sx n3 kd nd sd ke ne se b ty w h1 h3 hT hty hr
  exact aHk C _ cc n A c fc ev a kx nx sx n3 kd nd sd ke ne se r _ w (pM h1) (mM h3) hvx h4 hT.ok hr
 rw [Aw (show ¬(Tm.mk k n ks).k=5 from e5)] at h;by_cases e9:k=9
 ·rw [Av (show (Tm.mk k n ks).k=9 from e9)] at h;subst e9;obtain ⟨p,t1,t2,a,rfl⟩:=wJ (l:=ks) (by have h3:aX 9=4:=rfl;omega);obtain ⟨kp,np,sp⟩:=p;obtain ⟨ka,na,sa⟩:=a;have hvp:=aP hv (t:=.mk kp np sp) Ag;exact eN 9 144 Ag C _ cc n A _ c fc ev r w hvr (aD λw' hw=>xX C _ cc 9 n A c fc ev kp np sp t1 t2 ka na sa r ty w' h (hT.below hw) hty hvp (aP hv (t:=.mk ka na sa) Ag) (hr.below hw))
 rw [Aw (show ¬(Tm.mk k n ks).k=9 from e9)] at h;by_cases e10:k=10
 ·rw [Av (show (Tm.mk k n ks).k=10 from e10)] at h;subst e10;obtain ⟨a,a1,a2,rfl⟩:=gA (l:=ks) (by have h3:aX 10=3:=rfl;omega);obtain ⟨ka,na,sa⟩:=a;have hva:=aP hv (t:=.mk ka na sa) Ag;exact eN 10 145 Ag C _ cc n A _ c fc ev r w hvr (aD λw' hw=>yZ C _ cc 10 n A c fc ev ka na sa a1 a2 r ty w' h (hT.below hw) hty hva (hr.below hw))
 rw [Aw (show ¬(Tm.mk k n ks).k=10 from e10)] at h;by_cases e11:k=11
 ·rw [Av (show (Tm.mk k n ks).k=11 from e11)] at h;subst e11;obtain ⟨a,rfl⟩:=mB (l:=ks) (by have h3:aX 11=1:=rfl;omega);obtain ⟨ka,na,sa⟩:=a;rcases aM h with ⟨b,h1,rfl⟩|⟨s,h1,h2⟩
  ·exact aCj C _ cc n A c fc ev b ty w h1 hT
  obtain ⟨kt,nt,st⟩:=s;simp only [vS (hty _ _ h1)] at h2;rcases aM h2 with ⟨b,h3,rfl⟩|⟨l,h3,h4⟩
  ·exact zC C _ cc n A c fc ev kt nt st b ty w h1 hT (aD λAo co w' hw hro=>vN ih ctx C cc kt nt st Ao co _ w' h3 hvc hm (hrc.below hw) hro)
  exact aEo C _ cc n A c fc ev ka na sa kt nt st l r _ w (xI h1) (hty _ _ h1) (aP hv (t:=.mk ka na sa) Ag) h4 hT.ok hr (aD λAo co w' hw hro=>vN ih ctx C cc kt nt st Ao co _ w' h3 hvc hm (hrc.below hw) hro)
 rw [Aw (show ¬(Tm.mk k n ks).k=11 from e11)] at h;by_cases e12:k=12
 ·rw [Av (show (Tm.mk k n ks).k=12 from e12)] at h;subst e12;obtain ⟨p,t1,t2,rfl⟩:=gA (l:=ks) (by have h3:aX 12=3:=rfl;omega);obtain ⟨kp,np,sp⟩:=p;exact eN 12 146 Ag C _ cc n A _ c fc ev r w hvr (aD λw' hw=>aHh C _ cc 12 n A c fc ev kp np sp t1 t2 r ty w' h (hT.below hw) hty (aP hv (t:=.mk kp np sp) Ag) (hr.below hw))
 rw [Aw (show ¬(Tm.mk k n ks).k=12 from e12)] at h;by_cases e14:k=14
 ·rw [Av (show (Tm.mk k n ks).k=14 from e14)] at h;subst e14;obtain ⟨p,a,t2,rfl⟩:=gA (l:=ks) (by have h3:aX 14=3:=rfl;omega);obtain ⟨kp,np,sp⟩:=p;obtain ⟨ka,na,sa⟩:=a;have hvp:=aP hv (t:=.mk kp np sp) Ag;have hva:=aP hv (t:=.mk ka na sa) Ag;exact eN 14 147 Ag C _ cc n A _ c fc ev r w hvr (aD λw' hw=>aEq C _ cc 14 n A c fc ev kp np sp ka na sa t2 r ty w' h (hT.below hw) hty hva hvp (hr.below hw))
 rw [Aw (show ¬(Tm.mk k n ks).k=14 from e14)] at h;by_cases e15:k=15
 ·rw [Av (show (Tm.mk k n ks).k=15 from e15)] at h;subst e15;refine eN 15 148 Ag C _ cc n A _ c fc ev r w hvr (aD λw' hw=>?_);rcases aM h with ⟨b,h1,rfl⟩|⟨f,h1,h2⟩
  ·exact aFo C _ cc 15 n A _ c fc ev b ty w' h1 (hT.below hw) hty
  obtain ⟨hvf,hkf⟩:=oC h1;obtain ⟨kf,n3,sf⟩:=f;obtain rfl:kf=13:=hkf;obtain ⟨kd,nd,sd,ke,ne,se,rfl⟩:=wT hvf rfl;obtain rfl:=(Option.some.inj h2).symm;exact aFl C _ cc n A _ c fc ev n3 kd nd sd ke ne se _ w' (pM h1) (hT.ok.below hw)
 rw [Aw (show ¬(Tm.mk k n ks).k=15 from e15)] at h;obtain rfl:k=16:=by
  have:=uE (k:=k) (by have:=har.1;omega) e3 e4 e5 e9 e10 e12 e14 e1 e2 e6 e7 e8 e11;omega
 obtain ⟨p,rfl⟩:=mB (l:=ks) (by have h3:aX 16=1:=rfl;omega);obtain ⟨kp,np,sp⟩:=p;refine eN 16 148 Ag C _ cc n A _ c fc ev r w hvr (aD λw' hw=>?_);rcases aM h with ⟨b,h1,rfl⟩|⟨f,h1,h2⟩
 ·exact aFo C _ cc 16 n A _ c fc ev b ty w' h1 (hT.below hw) hty
 obtain ⟨hvf,hkf⟩:=oC h1;obtain ⟨kf,n3,sf⟩:=f;obtain rfl:kf=13:=hkf;obtain ⟨kd,nd,sd,ke,ne,se,rfl⟩:=wT hvf rfl;have hvx:aE (.mk 15 0 [.mk kp np sp])=true:=aGf hv;exact aMq C _ cc n A c fc ev kp np sp n3 kd nd sd ke ne se r _ w' (pM h1) hvx h2 (hT.ok.below hw) (hr.below hw)
theorem aBk {N:Nat}(ih:aHj N):aHj (N+1):=by
 intro ctx k n ks r hm0 h hvc C cc A c w hrc hra;obtain ⟨hv,hm,hj⟩:=wN hm0 h;have hvr:=aD (λ(t:Tm) (e:r = .ok t)=>by rw [e] at h;exact iD h);have B3:∀o1 o2 o3,Bw w (((w.alloc o1).alloc o2).alloc o3):=λo1 o2 o3=>bw3
 have hJ:=aD (λ(wx:Bb) (hb:Bw w wx) (hB2:Blk wx w.heap.size #[.slice C ctx.length cc]) (hB3:Blk wx (w.heap.size+1) (Ro k n A ks.length c))=>aPu ih ctx C cc k n ks A c 116 #[.pointer (some ⟨w.heap.size,0,none⟩),.pointer (some ⟨w.heap.size+1,0,none⟩)] r _ wx hj hv hvc hm (aNx ih ctx C cc k n ks A c w.heap.size (w.heap.size+1) wx hv hvc hm hB2 hB3 (hrc.below hb) (hra.below hb)) aJt (hrc.below hb) (hra.below hb));clear h hv hvc hm0 hm hj;cases r with
 | no b=>
  go_enter func96,ntmps96;go_wp2_with (go_at_call 118;refine (hJ.out _ (B3 _ _ _) (((aC w 29 #[.slice C ctx.length cc] rfl).alloc _).alloc _) ((aC (n:=w.heap.size+1) (w.alloc (.cells #[.slice C ctx.length cc] 29)) 32 (Ro k n A ks.length c) Ag).alloc _)).mono ?_;rintro e w1 ⟨rfl,hb1⟩;have hZ1:Blk w1 (w.heap.size+1+1) Zr:=(aC _ 32 _ Ag).keep hb1;have g1:Bw w w1:=(B3 _ _ _).trans (hb1.mono Ai);obtain ⟨d0,d1,d2,e0,e1,e2⟩:=bZ hZ1);refine bodyPost_ret (v:=.tuple #[.agg Zr,.int .i64 (dB b)]) (by simp [results,results96,go_sem,d0,d1,d2]) rfl ⟨rfl,?_⟩;exact bV g1
 | ok t=>
  obtain ⟨kr,nr,sr⟩:=t;replace hvr:=aD (hvr.out _ rfl);go_enter func96,ntmps96;go_wp2_with (go_at_call 118;refine (hJ.out _ (B3 _ _ _) (((aC w 29 #[.slice C ctx.length cc] rfl).alloc _).alloc _) ((aC (n:=w.heap.size+1) (w.alloc (.cells #[.slice C ctx.length cc] 29)) 32 (Ro k n A ks.length c) Ag).alloc _)).mono ?_;rintro e w1 ⟨A1,c1,rfl,hl1,r1,hb1⟩;have hZ1:Blk w1 (w.heap.size+1+1) Zr:=(aC _ 32 _ Ag).keep hb1;have g1:Bw w w1:=(B3 _ _ _).trans (hb1.mono Ai);obtain ⟨d0,d1,d2,e0,e1,e2⟩:=bZ hZ1);refine bodyPost_ret (v:=.tuple #[.agg (Ro kr nr A1 sr.length c1),.int .i64 0]) (by simp [results,results96,go_sem,d0,d1,d2]) rfl ⟨A1,c1,rfl,hl1,bS hZ1 hvr.out r1 _ _ _,?_⟩;exact bV g1
theorem sY:∀N,aHj N
 | 0=>λ_ _ _ _ _ _ h=>by cases h
 | N+1=>aBk (sY N)
theorem aRc {ctx:List Tm}{j:Nat}(hj:j<ctx.length)(h:aE ctx[j]=false):lD ctx=false:=by
 unfold lD;rw [Bool.and_eq_false_iff];left;rw [List.all_eq_false];exact ⟨ctx[j],gM hj,by rw [h];decide⟩
theorem aMf {ctx:List Tm}(h:8<ctx.length):lD ctx=false:=by
 unfold lD;rw [Bool.and_eq_false_iff];right;exact decide_eq_false Ac
theorem aQa {ctx:List Tm}(hm:ctx.length<=8)(h:∀i (hi:i<ctx.length),aE ctx[i]=true):lD ctx=true:=by
 unfold lD;rw [Bool.and_eq_true,List.all_eq_true];refine ⟨λu hu=>?_,decide_eq_true hm⟩;obtain ⟨i,hi,rfl⟩:=List.mem_iff_getElem.1 hu;exact h i hi
theorem aIp {N:Nat}{ctx:List Tm}{co:Int}(h:cpR N ctx=some co)(hf:lD ctx=false):co=3:=by
 unfold cpR at h;rw [hf,Aw Ah] at h;exact (Option.some.inj h).symm
theorem aSq {N:Nat}{ctx:List Tm}{co:Int}(h:cpR N ctx=some co)(hf:lD ctx=true):cpG N ctx ctx.length=some co:=by
 unfold cpR at h;rw [hf,Av rfl] at h;exact h
theorem aTe (N:Nat)(ctx:List Tm)(C:Ba)(cc:Nat)(co:Int)(w:Bb)(hs:cpR N ctx=some co)(hcc:ctx.length<=cc)(hsz:aG ctx<=2000000)(hrc:Rd w C 0 ctx) :
    Calls prog 78 #[.slice C ctx.length cc] w λe w'=>e = .returned (.int .i64 co)/\Bw w w':=by
  have hlen:=aJ ctx;by_cases hm:8<ctx.length
  · obtain rfl:=aIp hs (aMf hm)
    have q1:(8:Int)<(ctx.length:Int):=by omega
    clear hs;go_enter func78,ntmps78;go_wp2_with fail;go_ret;exact ⟨rfl,eI _ _⟩
  have hm:ctx.length<=8:=by omega
  have q1:¬(8:Int)<(ctx.length:Int):=by omega
  have hs:=aD hs;go_enter func78,ntmps78;go_wp2_with fail;go_loopw [14] (λi wr=>∃j:Nat,j<=ctx.length/\i = .int .i64 j/\Hid (∀i (hi:i<ctx.length),i<j->aE ctx[i]=true)/\Bw w wr)
    (λi _=>ctx.length - (intOf i).toNat)
  case atStart=>exact ⟨0,Nat.zero_le _,rfl,aD (λi hi h=>absurd h Ac),eI _ _⟩
  case round=>
    obtain ⟨j,hj,rfl,hval,hb⟩:=hrel;by_cases hlt:j<ctx.length
    · obtain ⟨b,off,k1,n1,ks1,A1,c1,rfl,hkj,hc1,hc2,hc3,hl1,hr1⟩:=(hrc.below hb).at_ hlt
      have hsz2:=cG (gM hlt);rw [hkj] at hsz2;simp only [Tm.size] at hsz2;have H5:=aD hkj;cases hvv:aE (.mk k1 n1 ks1) with
      | false=>
        have hv':=aD hvv;obtain rfl:=aIp hs.out (aRc hlt (by rw [hkj];exact hvv));clear hkj hvv;go_wp2_with (go_at_call 58;refine (bB k1 n1 ks1 A1 c1 _ Ac (hr1.alloc _)).mono ?_;rw [hv'.out];rintro e w3 ⟨rfl,hb3⟩);go_ret;exact ⟨rfl,hb.trans (bw1.trans (hb3.mono Ag) |>.mono hb.size)⟩
      | true=>
        have hv':=aD hvv;clear hkj hvv;go_wp2_with (go_at_call 58;refine (bB k1 n1 ks1 A1 c1 _ Ac (hr1.alloc _)).mono ?_;rw [hv'.out];rintro e w3 ⟨rfl,hb3⟩);go_roundw
        case rel=>
          refine ⟨j+1,by omega,by go_num,aD (λi hi hij=>?_),hb.trans (bw1.trans (hb3.mono Ag) |>.mono hb.size)⟩;by_cases hij2:i=j
          · subst hij2;rw [H5.out];exact hv'.out
          · exact hval.out i hi Ac
        case measure=>simp [intOf];omega
    · have hjl:j=ctx.length:=by omega
      subst hjl;have hft:lD ctx=true:=aQa hm (λi hi=>hval.out i hi hi);have hvh:=aD (lV hft).1;have hs:=aD (show cpG N ctx (ctx.length - 0)=some co from aSq hs.out hft);clear hval hft;go_wp2_with fail;go_loopw [24] (λi wr=>∃j:Nat,j<=ctx.length/\i = .int .i64 j/\Hid (cpG N ctx (ctx.length - j)=some co)/\Bw w wr)
        (λi _=>ctx.length - (intOf i).toNat)
      case atStart=>exact ⟨0,Nat.zero_le _,rfl,hs,hb⟩
      case round=>
        clear hb hs;obtain ⟨j,hj,rfl,hinv,hb⟩:=hrel;by_cases hlt:j<ctx.length
        · obtain ⟨b,off,k1,n1,ks1,A1,c1,rfl,hkj,hc1,hc2,hc3,hl1,hr1⟩:=(hrc.below hb).at_ hlt
          have hv1:=hvh.out _ (gM hlt);rw [hkj] at hv1;have hst:=hinv.out;rw [show ctx.length - j=(ctx.length - j - 1)+1 by omega,cpG,show ctx.length - (ctx.length - j - 1+1)=j by omega,show ctx.getD j default = .mk k1 n1 ks1 by rw [<- hkj];simp [List.getD,sE hlt]] at hst;obtain ⟨cx,hcx⟩:∃cx,ctx.take j=cx:=⟨_,rfl⟩;have hcl:cx.length=j:=by rw [<- hcx];simp;omega
          have hcv:∀u,u∈cx->aE u=true:=by rw [<- hcx];exact λu hu=>hvh.out u (List.mem_of_mem_take hu)
          have hrx:=aD (λ(w':Bb) (h:Rd w' (some ⟨b,off,none⟩) 0 ctx)=>show Rd w' (some ⟨b,off,none⟩) 0 cx by rw [<- hcx];exact h.take j);rw [hcx] at hst;have hcase:∃l c3:Int,Hid (∀(w:Bb) (hrc:Rd w (some ⟨b,off,none⟩) 0 cx) (hra:Rd w A1 0 ks1),Calls prog 49 #[.slice (some ⟨b,off,none⟩) cx.length cc,.agg (Ro k1 n1 A1 ks1.length c1)] w λe w'=>e = .returned (.tuple #[.int .i64 l,.int .i64 c3])/\Bw w w')/\((c3=0/\Hid (cpG N ctx (ctx.length - (j+1))=some co))\/((c3 != 0)=true/\Hid (co=c3))):=by
            cases hr0:qJ (bW N cx (.mk k1 n1 ks1)) with
            | none=>rw [hr0] at hst;cases hst
            | some r=>
              rw [hr0] at hst;have hS:=λ(w:Bb) (hrc:Rd w (some ⟨b,off,none⟩) 0 cx) (hra:Rd w A1 0 ks1)=>vN (sY N) cx (some ⟨b,off,none⟩) cc k1 n1 ks1 A1 c1 r w hr0 hcv Ac hrc hra
              cases r with
              | ok l=>exact ⟨l,0,aD hS,.inl ⟨rfl,aD hst⟩⟩
              | no b2=>exact ⟨0,dB b2,aD hS,.inr ⟨dP b2,aD (Option.some.inj hst).symm⟩⟩
          obtain ⟨l,c3,hS,hnx⟩:=hcase;rw [hcl] at hS;have hjc:j<=cc:=by omega
          have hjc2:(j:Int)<=(cc:Int):=by omega
          clear hkj hv1 hst hcx hcl hcv hinv;obtain ⟨rfl,hnx⟩|⟨q3,hnx⟩:=hnx;all_goals
            go_upto_region 12 with fail
            refine aU ?_;intro wx hwx;have h6x:Blk wx wr.heap.size (Ro k1 n1 A1 ks1.length c1):=by rw [hwx];exact aC _ 32 _ rfl
            have kwx:Bw w wx:=by rw [hwx];exact hb.alloc hb.size _
            have hrk:Rd wx A1 0 ks1:=by rw [hwx];exact hr1.alloc _
            clear hwx hc1 hc2 hc3 hr1;obtain ⟨v0,v1,v2⟩:=fW h6x;refine eK wx [5,6,7,8,9] [0,1,2,3] 10 6 (lT:=[_,_,_,_]) ?_;intro q0 bq0;refine bU (aD ?_);refine aZ 4 ?_
            · go_wp2_with (go_at_call 49;refine (hS.out _ ((hrx.out _ (hrc.below kwx)).below bq0) (hrk.below bq0)).mono ?_;rintro e q1 ⟨rfl,hbq1⟩)
              refine aV bq0 hbq1 ?_;intro bq1 lq1;refine fB [5,6,7] 2 (lT:=[_,_,_]) ?_;refine bU (aD ?_);refine cK [8,9] (lB:=[_,_]) ?_;have kq:=kwx.trans (bq1.mono kwx.size);refine gS (aD ?_);go_wp2_with fail;first
                | exact ⟨⟨j+1,by omega,by go_num,hnx,kq⟩,by simp [intOf];omega⟩
                | (go_ret
                   exact ⟨hnx.out.symm▸rfl,kq⟩)
        · have hjl:j=ctx.length:=by omega
          subst hjl;obtain rfl:co=0:=by have:=hinv.out;rw [Nat.sub_self,cpG] at this;injection this with this;exact this.symm
          go_wp2_with fail;go_ret;exact ⟨rfl,hb⟩
theorem aKr (k n:Int)(ks:List Tm)(A:Ba)(c:Nat)(w:Bb)(hz:aG ks<=2000000)(hv:aE (.mk k n ks)=false)(hr:Rd w A 0 ks) :
  Calls prog 80 #[.agg (Ro k n A ks.length c)] w λe w'=>e = .returned (.bool true)/\Bw w w':=by
 have hv':=aD hv;clear hv;go_enter func80,ntmps80;go_wp2_with (go_at_call 58;refine (bB k n ks A c _ Ac (hr.alloc _)).mono ?_;rw [hv'.out];rintro e w1 ⟨rfl,hb1⟩;have g1:Bw w w1:=bN bw1 hb1);go_ret;exact ⟨rfl,g1⟩
theorem aLz (k n:Int)(ks ts:List Tm)(A:Ba)(c:Nat)(w:Bb)(hl:ts.length<=1000000)(hz:aG ks<=2000000)(hv:aE (.mk k n ks)=false)(hr:Rd w A 0 (.mk k n ks::ts)) :
  Calls prog 106 #[.slice A (ts.length+1) c,.func (.func 80) #[] #[]] w λe w'=>e = .returned (.int .i64 0)/\Bw w w':=by
 have hv':=aD hv;clear hv;go_enter func106,ntmps106;go_wp2_with fail;go_loopw [8] (λi wr=>i = .int .i64 0/\Bw w wr)
  (λi _ => (intOf i).toNat)
 case atStart=>exact ⟨rfl,eI _ _⟩
 case round=>
  obtain ⟨rfl,hb⟩:=hrel;have hlt:0<(Tm.mk k n ks::ts).length:=by simp
  obtain ⟨b,off,k1,n1,ks1,A1,c1,rfl,hkj,hc1,hc2,hc3,hl1,hr1⟩:=(hr.below hb).at_ hlt;have hkj2:Tm.mk k n ks = .mk k1 n1 ks1:=hkj;injection hkj2 with e1 e2 e3;subst e1 e2 e3;clear hkj;simp only [Nat.zero_mul,Nat.add_zero,Nat.zero_add] at hc1 hc2 hc3
  have q1:(0:Int)<(ts.length:Int)+1:=by omega
  have q2:decide ((0:Int)<(ts.length:Int)+1)=true:=decide_eq_true q1;go_wp2_with (go_at_call 80;refine (aKr k n ks A1 c1 _ hz hv'.out hr1).mono ?_;rintro e w3 ⟨rfl,hb3⟩);go_ret;exact ⟨rfl,hb.trans (hb3.mono hb.size)⟩
theorem aOv (k n:Int)(ks ts:List Tm)(A:Ba)(c:Nat)(w:Bb)(hl:ts.length<=1000000)(hz:aG ks<=2000000)(hv:aE (.mk k n ks)=false)(hr:Rd w A 0 (.mk k n ks::ts)) :
  Calls prog 79 #[.slice A (ts.length+1) c,.func (.func 80) #[] #[]] w λe w'=>e = .returned (.bool true)/\Bw w w':=by
 have hv':=aD hv;clear hv;go_enter func79,ntmps79;go_wp2_with (go_at_call 106;refine (aLz k n ks ts A c _ hl hz hv'.out hr).mono ?_;rintro e w1 ⟨rfl,hb1⟩);go_ret;exact ⟨rfl,hb1⟩
theorem aKv (N:Nat)(ctx:List Tm)(C:Ba)(cc:Nat)(co:Int)(k n:Int)(ks ts:List Tm)(A:Ba)(c:Nat)(w:Bb)(hs:cpR N ctx=some co)(hcc:ctx.length<=cc)(hsz:aG ctx<=2000000)(hrc:Rd w C 0 ctx)(hl:ts.length<=1000000)(hz:aG ks<=2000000)(hv:aE (.mk k n ks)=false)(hr:Rd w A 0 (.mk k n ks::ts)) :
  Calls prog 48 #[.slice C ctx.length cc,.slice A (ts.length+1) c] w λe w'=>e = .returned (.int .i64 3)/\Bw w w':=by
 have hC:=aD (λ(w:Bb) (hr:Rd w A 0 (.mk k n ks::ts))=>aOv k n ks ts A c w hl hz hv hr);have hD:=aD (λ(w:Bb) (hrc:Rd w C 0 ctx)=>aTe N ctx C cc co w hs hcc hsz hrc);clear hv hs;go_enter func48,ntmps48;go_wp2_with (first
  | (go_at_call 79;have _t:=tok1;refine (hC.out _ (hr.below hb1)).mono ?_;rintro e w2 ⟨rfl,hb2⟩)
  | (go_at_call 78;refine (hD.out _ hrc).mono ?_;rintro e w1 ⟨rfl,hb1⟩;have tok1:=trivial))
 go_ret;exact ⟨rfl,hb1.trans (hb2.mono hb1.size)⟩
theorem aJe (N:Nat)(ctx:List Tm)(C:Ba)(cc:Nat)(co:Int)(ts:List Tm)(A:Ba)(c:Nat)(w:Bb)(hs:cpR N ctx=some co)(hcc:ctx.length<=cc)(hsz:aG ctx<=2000000)(hrc:Rd w C 0 ctx)(hl:ts.length<=20)(hts:∀u,u∈ts->aE u=true)(hr:Rd w A 0 ts) :
  Calls prog 48 #[.slice C ctx.length cc,.slice A ts.length c] w λe w'=>e = .returned (.int .i64 co)/\Bw w w':=by
 have hC:=aD (λ(w:Bb) (hr:Rd w A 0 ts)=>aMx ts A c w Ac hts hr);have hD:=aD (λ(w:Bb) (hrc:Rd w C 0 ctx)=>aTe N ctx C cc co w hs hcc hsz hrc);clear hs hts;go_enter func48,ntmps48;go_wp2_with (first
  | (go_at_call 79;have _t:=tok1;refine (hC.out _ (hr.below hb1)).mono ?_;rintro e w2 ⟨rfl,hb2⟩)
  | (go_at_call 78;refine (hD.out _ hrc).mono ?_;rintro e w1 ⟨rfl,hb1⟩;have tok1:=trivial))
 go_ret;exact ⟨rfl,hb1.trans (hb2.mono hb1.size)⟩
def GtO (w:Bb)(b:Bool)(e:Ending)(w':Bb):Prop:=∃n2 c2:Int,e = .returned (.tuple #[.int .i64 n2,.int .i64 c2])/\(c2==0)=b/\Bw w w'
theorem aDv (N:Nat)(ctx:List Tm)(C:Ba)(cc:Nat)(co:Int)(k n:Int)(ks:List Tm)(A:Ba)(c:Nat)(w:Bb)(hs:cpR N ctx=some co)(hcc:ctx.length<=cc)(hsz:aG ctx<=2000000)(hz:aG ks<=2000000)(hlk:ks.length<=9223372036854775807)(hrc:Rd w C 0 ctx)(hra:Rd w A 0 ks)(hn:co≠0\/aE (.mk k n ks)=false) :
  Calls prog 31 #[.slice C ctx.length cc,.agg (Ro k n A ks.length c)] w (GtO w false):=by
 have hcase:∃c3:Int,(c3 != 0)=true/\Hid (∀(w:Bb) (A2:Ba) (hrc:Rd w C 0 ctx) (hr:Rd w A2 0 [.mk k n ks]),Calls prog 48 #[.slice C ctx.length cc,.slice A2 1 1] w λe w'=>e = .returned (.int .i64 c3)/\Bw w w'):=by
  cases hv:aE (.mk k n ks) with
  | false=>exact ⟨3,by decide,aD λw A2 hrc hr=>aKv N ctx C cc co k n ks [] A2 1 w hs hcc hsz hrc Ag hz hv hr⟩
  | true=>
   rcases hn with h|h
   ·exact ⟨co,by simpa using h,aD λw A2 hrc hr=>aJe N ctx C cc co [.mk k n ks] A2 1 w hs hcc hsz hrc Ag (λu hu=>by rw [List.mem_singleton.1 hu];exact hv) hr⟩
   ·rw [hv] at h;cases h
 obtain ⟨c3,q3,hR⟩:=hcase;have q4:(c3==0)=false:=by simpa using q3
 clear hs hn;go_enter func31,ntmps31;go_wp2_with (go_at_call 48;refine (hR.out _ (some ⟨w.heap.size+1,0,none⟩) ((hrc.alloc _).alloc _) (aBm (s0:=ks) (aC _ 32 (Ro k n A ks.length c) Ag) hlk ((hra.alloc _).alloc _))).mono ?_;rintro e w1 ⟨rfl,hb1⟩;have g1:Bw w w1:=bN bw2 hb1);go_ret2;exact ⟨0,c3,rfl,q4,g1⟩
theorem aPf (N M:Nat)(ctx:List Tm)(C:Ba)(cc:Nat)(r:Rs Int)(k n:Int)(ks:List Tm)(A:Ba)(c:Nat)(w:Bb)(hs:cpR N ctx=some 0)(hl:qJ (bW M ctx (.mk k n ks))=some r)(hf:lD ctx=true)(hv:aE (.mk k n ks)=true)(hcc:ctx.length<=cc)(hsz:aG ctx<=2000000)(hrc:Rd w C 0 ctx)(hra:Rd w A 0 ks) :
  Calls prog 31 #[.slice C ctx.length cc,.agg (Ro k n A ks.length c)] w (GtO w (match r with | .ok _=>true | .no _=>false)):=by
 have hlk:ks.length<=9223372036854775807:=by have:=aH hv;have:=aJ ks;omega
 have hfi:=lV hf;have hm:=hfi.2;have hR:=aD λ(w:Bb) (A2:Ba) (hrc:Rd w C 0 ctx) (hr:Rd w A2 0 [.mk k n ks])=>aJe N ctx C cc 0 [.mk k n ks] A2 1 w hs hcc hsz hrc Ag (λu hu=>by rw [List.mem_singleton.1 hu];exact hv) hr
 have hcase:∃l c3:Int,Hid (∀(w:Bb) (hrc:Rd w C 0 ctx) (hra:Rd w A 0 ks),Calls prog 49 #[.slice C ctx.length cc,.agg (Ro k n A ks.length c)] w λe w'=>e = .returned (.tuple #[.int .i64 l,.int .i64 c3])/\Bw w w')/\((c3=0/\(match r with | .ok _=>true | .no _=>false)=true)\/((c3 != 0)=true/\(match r with | .ok _=>true | .no _=>false)=false)):=by
  have hS:=λ(w:Bb) (hrc:Rd w C 0 ctx) (hra:Rd w A 0 ks)=>vN (sY M) ctx C cc k n ks A c r w hl hfi.1 Ac hrc hra
  cases r with
  | ok l=>exact ⟨l,0,aD hS,.inl ⟨rfl,rfl⟩⟩
  | no b2=>exact ⟨0,dB b2,aD hS,.inr ⟨dP b2,rfl⟩⟩
 obtain ⟨l,c3,hS,⟨rfl,hb⟩|⟨q3,hb⟩⟩:=hcase;all_goals
  rw [hb];clear hs hl hf hv hfi hb r;go_enter func31,ntmps31;go_wp2_with (first
   | (go_at_call 49;have _t:=tok1;refine (hS.out _ (hrc.below g1) (hra.below g1)).mono ?_;rintro e w2 ⟨rfl,hb2⟩;have g2:Bw w w2:=g1.trans (hb2.mono g1.size);clear tok1)
   | (go_at_call 48;refine (hR.out _ (some ⟨w.heap.size+1,0,none⟩) ((hrc.alloc _).alloc _) (aBm (s0:=ks) (aC _ 32 (Ro k n A ks.length c) Ag) hlk ((hra.alloc _).alloc _))).mono ?_;rintro e w1 ⟨rfl,hb1⟩;have g1:Bw w w1:=bN bw2 hb1;have hX1:Blk w1 w.heap.size (Ro k n A ks.length c):=((aC w 32 (Ro k n A ks.length c) rfl).alloc _).keep hb1;obtain ⟨x0,x1,x2⟩:=hX1.three;have tok1:=trivial))
  go_ret2;first
   | exact ⟨_,0,rfl,rfl,g2⟩
   | exact ⟨0,c3,rfl,by simpa using q3,g2⟩
theorem aLp (ctx:List Tm)(C:Ba)(cc:Nat)(k n:Int)(ks:List Tm)(A:Ba)(c:Nat)(w:Bb)(b:Bool)(hb:b=true↔Sok ctx (.mk k n ks))(hcc:ctx.length<=cc)(hsz:aG ctx<=2000000)(hz:aG ks<=2000000)(hlk:ks.length<=9223372036854775807)(hrc:Rd w C 0 ctx)(hra:Rd w A 0 ks) :
  Calls prog 31 #[.slice C ctx.length cc,.agg (Ro k n A ks.length c)] w (GtO w b):=by
 obtain ⟨N,M,co,co',h1,h2,h3,h4⟩:=aFn ctx;have hF:¬Sok ctx (.mk k n ks)->b=false:=λh=>by
  cases b with
  | false=>rfl
  | true=>exact absurd (hb.1 rfl) h
 by_cases hx:CxO ctx
 ·obtain rfl:=h4.2 hx;cases hv:aE (.mk k n ks) with
  | false=>
   rw [hF λh=>by rw [h.2.1] at hv;cases hv];exact aDv M ctx C cc _ k n ks A c w h2 hcc hsz hz hlk hrc hra (.inr hv)
  | true=>
   obtain ⟨N1,q,q',e1,e2,e3⟩:=aDo hx.2 hv;have:=aPf M (2*N1) ctx C cc q' k n ks A c w h2 e2 hx.1 hv hcc hsz hrc hra;cases q' with
   | ok l=>
    rw [hb.2 ⟨hx,hv,N1,l,by rw [e1,(e3 l).2 rfl]⟩];exact this
   | no b2=>
    rw [hF λh=>by
     obtain ⟨_,_,N2,l,h5⟩:=h;have:=(e3 l).1 (yC e1 h5);cases this]
    exact this
 ·rw [hF λh=>hx h.1];exact aDv M ctx C cc co' k n ks A c w h2 hcc hsz hz hlk hrc hra (.inl λh=>hx (h4.1 h))
theorem aFj (N:Nat)(ctx:List Tm)(C:Ba)(cc:Nat)(co:Int)(k n:Int)(ks:List Tm)(A:Ba)(c:Nat)(w:Bb)(hs:ccR N ctx=some co)(hcc:ctx.length<=cc)(hsz:aG ctx<=2000000)(hz:aG ks<=2000000)(hrc:Rd w C 0 ctx)(hra:Rd w A 0 ks)(hn:co≠0\/aE (.mk k n ks)=false) :
  Calls prog 28 #[.slice C ctx.length cc,.agg (Ro k n A ks.length c)] w (GtO w false):=by
 have hF:=aD (λ(w:Bb) (hrc:Rd w C 0 ctx)=>uI ctx C cc w hsz hrc);have hT:=aD (λ(w:Bb) (hra:Rd w A 0 ks)=>aR k n ks A c w Ac hra);have hC:=aD (λ(w:Bb) (hrc:Rd w C 0 ctx)=>rE N ctx C cc co w hs hcc hsz hrc);cases hf:lD ctx with
 | false=>
  rw [hf] at hF;clear hs hn hC hT hf;go_enter func28,ntmps28;go_wp2_with (go_at_call 40;refine (hF.out _ (hrc.alloc _)).mono ?_;rintro e w1 ⟨rfl,hb1⟩;have g1:Bw w w1:=bN bw1 hb1);go_ret2;exact ⟨0,3,rfl,rfl,g1⟩
 | true=>
  rw [hf] at hF;cases hv:aE (.mk k n ks) with
  | false=>
   rw [hv] at hT;clear hs hn hC hf hv;go_enter func28,ntmps28;go_wp2_with (first
    | (go_at_call 41;have _t:=tok1;refine (hT.out _ (hra.below g1)).mono ?_;rintro e w2 ⟨rfl,hb2⟩;have g2:=g1.trans (hb2.mono g1.size);clear tok1)
    | (go_at_call 40;refine (hF.out _ (hrc.alloc _)).mono ?_;rintro e w1 ⟨rfl,hb1⟩;have hX1:Blk w1 w.heap.size (Ro k n A ks.length c):=(aC w 32 (Ro k n A ks.length c) rfl).keep hb1;have g1:Bw w w1:=bN bw1 hb1;obtain ⟨x0,x1,x2⟩:=hX1.three;have tok1:=trivial))
   go_ret2;exact ⟨0,3,rfl,rfl,g2⟩
  | true=>
   rw [hv] at hT;have hco:co≠0:=by
    rcases hn with h|h
    ·exact h
    ·rw [hv] at h;cases h
   have q3:(co != 0)=true:=by simpa using hco
   have q4:(co==0)=false:=by simpa using hco
   clear hs hn hf hv hco;go_enter func28,ntmps28;go_wp2_with (first
    | (go_at_call 42;have _t:=tok2;refine (hC.out _ (hrc.below g2)).mono ?_;rintro e w3 ⟨rfl,hb3⟩;have g3:=g2.trans (hb3.mono g2.size);clear tok2)
    | (go_at_call 41;have _t:=tok1;refine (hT.out _ (hra.below g1)).mono ?_;rintro e w2 ⟨rfl,hb2⟩;have g2:=g1.trans (hb2.mono g1.size);clear tok1;have tok2:=trivial)
    | (go_at_call 40;refine (hF.out _ (hrc.alloc _)).mono ?_;rintro e w1 ⟨rfl,hb1⟩;have hX1:Blk w1 w.heap.size (Ro k n A ks.length c):=(aC w 32 (Ro k n A ks.length c) rfl).keep hb1;have g1:Bw w w1:=bN bw1 hb1;obtain ⟨x0,x1,x2⟩:=hX1.three;have tok1:=trivial))
   go_ret2;exact ⟨0,co,rfl,q4,g3⟩
theorem aPt (N M:Nat)(ctx:List Tm)(C:Ba)(cc:Nat)(r:Rs Int)(k n:Int)(ks:List Tm)(A:Ba)(c:Nat)(w:Bb)(hs:ccR N ctx=some 0)(hl:iT (bE M) ctx (.mk k n ks)=some r)(hf:lD ctx=true)(hv:aE (.mk k n ks)=true)(hcc:ctx.length<=cc)(hsz:aG ctx<=2000000)(hrc:Rd w C 0 ctx)(hra:Rd w A 0 ks) :
  Calls prog 28 #[.slice C ctx.length cc,.agg (Ro k n A ks.length c)] w (GtO w (match r with | .ok _=>true | .no _=>false)):=by
 have hz:=aH hv;have hfi:=lV hf;have hm:=hfi.2;have hF:=aD (λ(w:Bb) (hrc:Rd w C 0 ctx)=>uI ctx C cc w hsz hrc);have hT:=aD (λ(w:Bb) (hra:Rd w A 0 ks)=>aR k n ks A c w Ac hra);have hC:=aD (λ(w:Bb) (hrc:Rd w C 0 ctx)=>rE N ctx C cc 0 w hs hcc hsz hrc);rw [hf] at hF;rw [hv] at hT;have hcase:∃c3:Int,Hid (∀(w:Bb) (hrc:Rd w C 0 ctx) (hra:Rd w A 0 ks),Calls prog 43 #[.slice C ctx.length cc,.agg (Ro k n A ks.length c)] w λe w'=>∃l,e = .returned (.tuple #[.int .i64 l,.int .i64 c3])/\Bw w w')/\((c3==0)=(match r with | .ok _=>true | .no _=>false)):=by
  have hS:=λ(w:Bb) (hrc:Rd w C 0 ctx) (hra:Rd w A 0 ks)=>eE (sG M) ctx C cc k n ks A c r w hl hv hfi.1 Ac hrc hra
  cases r with
  | ok l=>exact ⟨0,aD λw hrc hra=>(hS w hrc hra).mono λe w' h=>⟨l,h⟩,rfl⟩
  | no b2=>exact ⟨dB b2,aD hS,by cases b2<;>rfl⟩
 obtain ⟨c3,hS,hb⟩:=hcase;rw [<- hb];clear hs hl hf hv hfi hb;go_enter func28,ntmps28;go_wp2_with (first
  | (go_at_call 43;have _t:=tok3;refine (hS.out _ (hrc.below g3) (hra.below g3)).mono ?_;rintro e w4 ⟨l,rfl,hb4⟩;have g4:Bw w w4:=g3.trans (hb4.mono g3.size);clear tok3)
  | (go_at_call 42;have _t:=tok2;refine (hC.out _ (hrc.below g2)).mono ?_;rintro e w3 ⟨rfl,hb3⟩;have hX3:=hX2.keep hb3;have g3:=g2.trans (hb3.mono g2.size);clear x0 x1 x2 tok2;obtain ⟨x0,x1,x2⟩:=hX3.three;have tok3:=trivial)
  | (go_at_call 41;have _t:=tok1;refine (hT.out _ (hra.below g1)).mono ?_;rintro e w2 ⟨rfl,hb2⟩;have hX2:=hX1.keep hb2;have g2:=g1.trans (hb2.mono g1.size);clear x0 x1 x2 tok1;obtain ⟨x0,x1,x2⟩:=hX2.three;have tok2:=trivial)
  | (go_at_call 40;refine (hF.out _ (hrc.alloc _)).mono ?_;rintro e w1 ⟨rfl,hb1⟩;have hX1:Blk w1 w.heap.size (Ro k n A ks.length c):=(aC w 32 (Ro k n A ks.length c) rfl).keep hb1;have g1:Bw w w1:=bN bw1 hb1;obtain ⟨x0,x1,x2⟩:=hX1.three;have tok1:=trivial))
 go_ret2;exact ⟨_,c3,rfl,rfl,g4⟩
theorem aHm (ctx:List Tm)(C:Ba)(cc:Nat)(k n:Int)(ks:List Tm)(A:Ba)(c:Nat)(w:Bb)(b:Bool)(hb:b=true↔Sok ctx (.mk k n ks))(hcc:ctx.length<=cc)(hsz:aG ctx<=2000000)(hz:aG ks<=2000000)(hrc:Rd w C 0 ctx)(hra:Rd w A 0 ks) :
  Calls prog 28 #[.slice C ctx.length cc,.agg (Ro k n A ks.length c)] w (GtO w b):=by
 obtain ⟨N,M,co,co',h1,h2,h3,h4⟩:=aFn ctx;have hF:¬Sok ctx (.mk k n ks)->b=false:=λh=>by
  cases b with
  | false=>rfl
  | true=>exact absurd (hb.1 rfl) h
 by_cases hx:CxO ctx
 ·obtain rfl:=h3.2 hx;cases hv:aE (.mk k n ks) with
  | false=>
   rw [hF λh=>by rw [h.2.1] at hv;cases hv];exact aFj N ctx C cc _ k n ks A c w h1 hcc hsz hz hrc hra (.inr hv)
  | true=>
   obtain ⟨N1,q,q',e1,e2,e3⟩:=aDo hx.2 hv;have:=aPt N N1 ctx C cc q k n ks A c w h1 e1 hx.1 hv hcc hsz hrc hra;cases q with
   | ok l=>
    rw [hb.2 ⟨hx,hv,N1,l,e1⟩];exact this
   | no b2=>
    rw [hF λh=>by
     obtain ⟨_,_,N2,l,h5⟩:=h;cases yC e1 h5]
    exact this
 ·rw [hF λh=>hx h.1];exact aFj N ctx C cc co k n ks A c w h1 hcc hsz hz hrc hra (.inl λh=>hx (h3.1 h))
def vty (ctx:List Tm)(j:Nat):Tm:=ctx.getD (ctx.length - 1 - j) default
theorem aKq {b:Int}{t:Tm}(hb:0<=b)(ht:aE t=true)(h:bJ b 0 t=none):aE (bR b 0 t)=false:=by
 cases hv:aE (bR b 0 t) with
 | false=>rfl
 | true=>rw [nS hb ht hv] at h;cases h
theorem aLf {b:Int}{t u:Tm}(ht:aE t=true)(h:bJ b 0 t=some u):u=bR b 0 t:=by
 have:=gE (bC ht) (by rw [h];rfl);rw [h] at this;exact this
theorem zN {ctx:List Tm}(hvc:∀u,u∈ctx->aE u=true){j:Nat}(hj:j<ctx.length):aE (vty ctx j)=true:=by
 unfold vty;rw [aBh hj];exact hvc _ (gM _)
def HasT (ctx:List Tm)(want t:Tm):Prop:=∃N,gP (bE N) ctx t want=some (.ok ())
noncomputable def xB (ctx:List Tm)(want t:Tm):Bool:=@decide (HasT ctx want t) (Classical.propDecidable _)
theorem ckB_iff {ctx:List Tm}{want t:Tm}:xB ctx want t=true↔HasT ctx want t:=@decide_eq_true_iff _ (Classical.propDecidable _)
theorem HasT.valid {ctx:List Tm}{want t:Tm}(h:HasT ctx want t):aE t=true:=by
 obtain ⟨N,h⟩:=h;obtain ⟨s,h1,_⟩:=fO h;obtain ⟨_,_,hv,_⟩:=pY h1;exact hv
def jF (g:Tm->List Tm):List Tm->List Tm->List Tm
 | out,[]=>out
 | out,x::xs=>if out.length<12 then jF g (out++g x) xs else out
theorem qQ {g:Tm->List Tm}{out:List Tm}(h:12<=out.length)(xs:List Tm):jF g out xs=out:=by
 cases xs with
 | nil=>rfl
 | cons x xs=>rw [jF,Aw Ac]
theorem vT {g:Tm->List Tm}{out:List Tm}(h:out.length<12)(x:Tm)(xs:List Tm):jF g out (x::xs)=jF g (out++g x) xs:=by rw [jF,Av h]
theorem yD {g:Tm->List Tm}:∀{xs out:List Tm} {t:Tm},t∈jF g out xs->t∈out\/∃x,x∈xs/\t∈g x
 | [],out,t,h=>.inl h
 | x::xs,out,t,h=>by
  rw [jF] at h;split at h
  ·rcases yD h with h|⟨y,h1,h2⟩
   ·rcases List.mem_append.1 h with h|h
    ·exact .inl h
    ·exact .inr ⟨x,by simp,h⟩
   ·exact .inr ⟨y,by simp [h1],h2⟩
  ·exact .inl h
theorem yF {g:Tm->List Tm}{m:Nat}(hg:∀x,(g x).length<=m):∀{xs out:List Tm},out.length<=11+m->(jF g out xs).length<=11+m
 | [],out,h=>h
 | x::xs,out,h=>by
  rw [jF];split
  ·refine yF hg ?_;have:=hg x;rw [List.length_append];omega
  ·exact h
def gV (F:Tm->List Tm):List Tm->Tm->List Tm
 | [],f=>if aE f=true then [f] else []
 | a::ts,f=>jF (λx=>gV F ts (.mk 5 0 [f,x])) [] (F a)
theorem xC {F:Tm->List Tm}:∀{ts:List Tm} {f t:Tm},t∈gV F ts f->aE t=true
 | [],f,t,h=>by
  rw [gV] at h;split at h
  ·rename_i hv;rw [List.mem_singleton.1 h];exact hv
  ·cases h
 | a::ts,f,t,h=>by
  rw [gV] at h;rcases yD h with h|⟨x,_,h⟩
  ·cases h
  ·exact xC h
theorem mZ {F:Tm->List Tm}:∀{ts:List Tm} {f:Tm},(gV F ts f).length<=1+11*ts.length
 | [],f=>by rw [gV];split<;>simp
 | a::ts,f=>by
  rw [gV];have:=yF (g:=λx=>gV F ts (.mk 5 0 [f,x])) (m:=1+11*ts.length) (λx=>mZ) (xs:=F a) (out:=[]) Ag;rw [List.length_cons];omega
def nJ (F:List Tm->Tm->List Tm)(ctx:List Tm)(h:Tm):List Tm:=
 if h.k=6 then [.mk 7 0 []]
 else if h.k=10 then (if dJ 200 (aI h.ks 1) (aI h.ks 2)=1 then [.mk 11 0 [aI h.ks 1]] else [])
 else if h.k=3 then (F (ctx++[aI h.ks 0]) (aI h.ks 1)).map λt=>.mk 4 0 [aI h.ks 0,t]
 else if h.k=13 then jF (λx=>(F ctx (bT x 0 0 (aI h.ks 1))).map λy=>.mk 14 0 [h,x,y]) [] (F ctx (aI h.ks 0))
 else []
def aGd (F:Tm->List Tm)(ctx:List Tm)(want:Tm)(j:Nat):List Tm:=match yl want 4 (bR ((j:Int)+1) 0 (vty ctx j)) with
 | some ts=>gV F ts (.mk 1 (j:Int) [])
 | none=>[]
def kK (F:Tm->List Tm)(ctx:List Tm)(want:Tm)(m:Nat):List Tm:=(List.range m).flatMap (aGd F ctx want)
theorem lR (F:Tm->List Tm)(ctx:List Tm)(want:Tm)(m:Nat):kK F ctx want (m+1)=kK F ctx want m++aGd F ctx want m:=by
 unfold kK;rw [List.range_succ,List.flatMap_append];simp
def tQ (ok:Tm->Bool):List Tm->List Tm->List Tm
 | out,[]=>out
 | out,t::ts=>if out.length<12 then tQ ok (if ok t=true then out++[t] else out) ts else out
theorem aFm {ok:Tm->Bool}{out:List Tm}(h:12<=out.length)(xs:List Tm):tQ ok out xs=out:=by
 cases xs with
 | nil=>rfl
 | cons x xs=>rw [tQ,Aw Ac]
theorem aJn {ok:Tm->Bool}:∀{xs out:List Tm} {t:Tm},t∈tQ ok out xs->t∈out\/ok t=true/\t∈xs
 | [],out,t,h=>.inl h
 | x::xs,out,t,h=>by
  rw [tQ] at h;split at h
  ·rcases aJn h with h|⟨h1,h2⟩
   ·by_cases hx:ok x=true
    ·rw [Av hx] at h;rcases List.mem_append.1 h with h|h
     ·exact .inl h
     ·rw [List.mem_singleton] at h;subst h;exact .inr ⟨hx,by simp⟩
    ·rw [Aw hx] at h;exact .inl h
   ·exact .inr ⟨h1,by simp [h2]⟩
  ·exact .inl h
theorem aJh {ok:Tm->Bool}:∀{xs out:List Tm},out.length<=12->(tQ ok out xs).length<=12
 | [],out,h=>h
 | x::xs,out,h=>by
  rw [tQ];split
  ·refine aJh ?_;split
   ·rw [List.length_append];simp;omega
   ·exact h
  ·exact h
noncomputable def dZ:Nat->List Tm->Tm->List Tm
 | 0,_,_=>[]
 | d+1,ctx,want=>if ctx.length<=8/\aE want=true then (match jB want with
  | .ok h=>tQ (xB ctx want) [] (kK (dZ d ctx) ctx want ctx.length++nJ (dZ d) ctx h)
  | .no _=>[]) else []
theorem gX (d:Nat)(ctx:List Tm)(want:Tm):(dZ d ctx want).length<=12:=by
 cases d with
 | zero=>simp [dZ]
 | succ d=>
  rw [dZ];split
  ·split
   ·exact aJh Ag
   ·simp
  ·simp
theorem mE {d:Nat}{ctx:List Tm}{want t:Tm}(h:t∈dZ d ctx want):HasT ctx want t:=by
 cases d with
 | zero=>cases h
 | succ d=>
  rw [dZ] at h;split at h
  ·split at h
   ·rcases aJn h with h|⟨h,_⟩
    ·cases h
    ·exact ckB_iff.1 h
   ·cases h
  ·cases h
theorem aGv {want:Tm}:∀{m:Nat} {t:Tm} {l:List Tm},yl want m t=some l->l.length+1<=m
 | 0,t,l,h=>by cases h
 | m+1,t,l,h=>by
  rw [yl] at h;split at h
  ·split at h
   ·split at h
    ·obtain rfl:=Option.some.inj h;simp
    ·split at h
     ·cases hy:yl want m (bR (-1) 0 (aI _ 1)) with
      | none=>rw [hy] at h;cases h
      | some l2=>
       rw [hy] at h;obtain rfl:=Option.some.inj h;have:=aGv hy;simp;omega
     ·cases h
   ·cases h
  ·cases h
theorem aSj {u:Tm}:(∀(t:Tm) (d:Int),qW d t=0->bT u d d t=bR (-1) d t)/\(∀(ts:List Tm) (d k:Int) (i:Nat),pU d k i ts=0->cE u k d d i ts=bK (-1) k d i ts):=by
 refine bA (λk n ks ih d h=>?_) (λd k i _=>by rw [cE,bK]) (λt ts h1 h2 d k i h=>?_)
 ·rw [qW] at h;have h0:=(tm_le.2 ks d k 0).1;by_cases hc:k=1/\n=d
  ·rw [Av hc] at h;omega
  ·rw [Aw hc] at h;rw [bT,bR,Aw hc,ih d k 0 Ac];congr 1;by_cases h1:k=1/\d<n
   ·rw [Av h1,Av ⟨h1.1,by omega⟩];omega
   ·rw [Aw h1,Aw (λh2=>by
     by_cases e:n=d
     ·exact hc ⟨h2.1,e⟩
     ·exact h1 ⟨h2.1,by omega⟩)]
 ·rw [pU] at h;have a1:=(tm_le.1 t (d+aN k i)).1;have a2:=(tm_le.2 ts d k (i+1)).1;rw [cE,bK,h1 _ Ac,h2 _ _ _ Ac]
def aKm (ctx:List Tm):List Tm->Prop
 | []=>True
 | a::ts=>SemW ctx a/\((∃x,HasT ctx a x)->aKm ctx ts)
theorem aNi {ctx:List Tm}(hG:SemG ctx){want:Tm}:∀{m:Nat} {t:Tm} {l:List Tm},SemW ctx t->yl want m t=some l->aKm ctx l
 | 0,t,l,_,h=>by cases h
 | m+1,t,l,ht,h=>by
  by_cases hv:aE t=true;rotate_left
  ·rw [aBi (by simpa using hv)] at h;cases h
  cases hh:jB t with
  | no b=>rw [aJp hh] at h;cases h
  | ok hd=>
   by_cases hc:dJ 200 hd want=1
   ·rw [aCc hh hc] at h;obtain rfl:=Option.some.inj h;trivial
   ·by_cases hk:hd.k=3/\qW 0 (aI hd.ks 1)=0;rotate_left
    ·rw [tS hh hc hk] at h;cases h
    rw [wC hh hc hk] at h;cases hy:yl want m (bR (-1) 0 (aI hd.ks 1)) with
    | none=>rw [hy] at h;cases h
    | some l2=>
     rw [hy] at h;obtain rfl:=Option.some.inj h;obtain ⟨n,ka,na,sa,kb,nb,sb,rfl,hva,hvb⟩:=xO hh hk.1;obtain ⟨h1,_,h3⟩:=ht.two hG (.inl rfl) (kS hh) (kI hva) (kI hvb);refine ⟨h1,λ⟨x,N,hx⟩=>?_⟩;have hx2:aE x=true:=HasT.valid ⟨N,hx⟩;have h4:=h3 N x (kI hx2) hx;rw [(aSj (u:=x)).1 (.mk kb nb sb) 0 hk.2] at h4;exact aNi hG h4 hy
def kX (p:Nat->Prop)(w:Bb)(ts:List Tm)(e:Ending)(w':Bb):Prop:=∃A c,e = .returned (.slice A ts.length c)/\RdP (λb=>p b\/w.heap.size<=b) w' A 0 ts/\Bw w w'
theorem aHq {want t:Tm}{m:Nat}{l:List Tm}(h:yl want m t=some l):∃m' hd,m=m'+1/\aE t=true/\jB t = .ok hd/\((dJ 200 hd want=1/\l=[])\/(hd.k=3/\qW 0 (aI hd.ks 1)=0/\∃l',yl want m' (bR (-1) 0 (aI hd.ks 1))=some l'/\l=aI hd.ks 0::l')):=by
 cases m with
 | zero=>cases h
 | succ m=>
  by_cases hv:aE t=true;rotate_left
  ·rw [aBi (by simpa using hv)] at h;cases h
  cases hh:jB t with
  | no b=>rw [aJp hh] at h;cases h
  | ok hd=>
   refine ⟨m,hd,rfl,hv,rfl,?_⟩;by_cases hc:dJ 200 hd want=1
   ·rw [aCc hh hc] at h;exact .inl ⟨hc,(Option.some.inj h).symm⟩
   ·by_cases hk:hd.k=3/\qW 0 (aI hd.ks 1)=0;rotate_left
    ·rw [tS hh hc hk] at h;cases h
    rw [wC hh hc hk] at h;cases hy:yl want m (bR (-1) 0 (aI hd.ks 1)) with
    | none=>rw [hy] at h;cases h
    | some l2=>
     rw [hy] at h;exact .inr ⟨hk.1,hk.2,l2,rfl,(Option.some.inj h).symm⟩
theorem PartR.start {lo:Nat->Prop}{B:Nat}{w:Bb}(hB:B<=w.heap.size){m:Nat}(hm:m=w.heap.size):PartR lo B (w.alloc (.cells #[] 32)) (.slice (some ⟨m,0,none⟩) 0 0) []:=by
 subst hm;exact ⟨[],⟨by simp,.inr ⟨w.heap.size,0,#[],rfl,hB,heap_alloc_new w _,mC _,by simp [maxLen],by simp,by simp⟩⟩,rfl⟩
theorem PartR.gotP {p:Nat->Prop}{B:Nat}{w0 w:Bb}{L:Ba}{m c:Nat}{ts:List Tm}(h:PartR p B w (.slice L m c) ts)(hB:w0.heap.size<=B):RdP (λb=>p b\/w0.heap.size<=b) w L 0 ts:=by
 obtain ⟨A,c',e,hr⟩:=h.rd;injection e with e1 e2 e3;subst e1;exact hr.mono λb hb=>hb.imp id λh=>Nat.le_trans hB h
def aAe (d:Nat):Prop:=∀(ctx:List Tm) (C:Ba) (cc:Nat) (k n:Int) (ks:List Tm) (A:Ba) (c:Nat) (w:Bb),SemG ctx->(∀u,u∈ctx->aE u=true)->ctx.length<=9->SemW ctx (.mk k n ks)->aG ks<=1000000->Rd w C 0 ctx->Rd w A 0 ks->
  Calls prog 34 #[.slice C ctx.length cc,.agg (Ro k n A ks.length c),.int .i64 (d:Int)] w (kX (λ_=>False) w (dZ d ctx (.mk k n ks)))
theorem oH {p:Nat->Prop}{w:Bb}{us:List Tm}{x1:List Value}(k:Int)(ht:RdX p w us x1)(hp:∀b,p b->b<w.heap.size)(m:Nat)(hm:us.length=m)(hlen:m<=1000)(g c:Nat)(hb:Blk w g x1.toArray) :
  Calls prog 67 #[.int .i64 k,.slice (some ⟨g,0,none⟩) m c] w λe w'=>∃A c,e = .returned (.agg (Ro k 0 A m c))/\RdP (λb=>p b\/w.heap.size<=b) w' A 0 us/\Bw w w':=by
 subst hm;refine (kN k ht hp Ac g c hb).mono ?_;rintro e w' ⟨A,c',rfl,h1,h2,h3⟩;exact ⟨A,c',rfl,h2,h3⟩
theorem xL (d:Nat)(ihF:aAe d)(ctx:List Tm)(C:Ba)(cc:Nat)(kw nw:Int)(sw:List Tm)(SW:Ba)(cw:Nat)(hG:SemG ctx)(hvc:∀u,u∈ctx->aE u=true)(hm:ctx.length<=8)(dd:Int)(hdd:dd=(d:Int)+1)(hd3:d<=10) :
  ∀(ts:List Tm) (m:Nat) (k n:Int) (ks:List Tm) (A:Ba) (c:Nat) (kf nf:Int) (sf:List Tm) (F:Ba) (cf:Nat) (mm:Int) (p:Nat->Prop) (w:Bb),yl (.mk kw nw sw) m (.mk k n ks)=some ts->aKm ctx ts->mm=(ts.length:Int)->ts.length<=3->aG sf+1000*ts.length<=10000->(∀b,p b->b<w.heap.size)->Rd w C 0 ctx->RdP p w F 0 sf->Rd w A 0 ks->Rd w SW 0 sw->
  Calls prog 54 #[.slice C ctx.length cc,.agg (Ro kf nf F sf.length cf),.agg (Ro k n A ks.length c),.agg (Ro kw nw SW sw.length cw),.int .i64 dd,.int .i64 mm] w (kX p w (gV (dZ d ctx) ts (.mk kf nf sf)))
 | [],m,k,n,ks,A,c,kf,nf,sf,F,cf,mm,p,w,hy,hts,hmm,hl3,hsz,hp,hrc,hf,hr,hrw=>by
  obtain rfl:mm=0:=by simpa using hmm
  have hsz:aG sf<=10000:=by simpa using hsz
  clear hmm hts hl3;obtain ⟨m',hd,rfl,hv,hh,hcase⟩:=aHq hy;obtain ⟨kh,nh,sh⟩:=hd;have hH:=aD (λ(w:Bb) (hr:Rd w A 0 ks)=>show Calls prog 45 _ w (aOh w kh nh sh) by have:=iV k n ks A c w hv hr;rw [hh] at this;exact this);have hlf:=aJ sf;have hT:=aD (λ(w:Bb) (hr:Rd w F 0 sf)=>aR kf nf sf F cf w Ac hr);clear hy hcase hh hv;rw [gV];cases hvf:aE (.mk kf nf sf) with
  | false=>
   rw [hvf] at hT;rw [Aw Ah];clear hvf;go_enter func54,ntmps54;go_wp2_with (first
    | (go_at_call 41;have _t:=tok1;refine (hT.out _ (hf.rd.below g1)).mono ?_;rintro e w2 ⟨rfl,hb2⟩;have g2:Bw w w2:=g1.trans (hb2.mono g1.size);clear tok1)
    | (go_at_call 45;refine (hH.out _ (((hr.alloc _).alloc _).alloc _)).mono ?_;rintro e w1 ⟨A3,c3,rfl,hl3,r3,hb1⟩;have hF1:Blk _ w.heap.size (Ro kf nf F sf.length cf):=((((aC w 32 (Ro kf nf F sf.length cf) rfl).alloc _).alloc _).keep hb1).alloc (.cells (Ro kh nh A3 sh.length c3) 32);have g1:Bw w (w1.alloc (.cells (Ro kh nh A3 sh.length c3) 32)):=(bw3.trans (hb1.mono Al)).alloc (by have:=hb1.size;simp at this;omega) _;obtain ⟨x0,x1,x2⟩:=hF1.three;have tok1:=trivial))
   go_ret;exact ⟨_,_,rfl,RdP.nil,g2.alloc g2.size _⟩
  | true=>
   rw [hvf] at hT;rw [Av rfl];clear hvf;go_enter func54,ntmps54;go_wp2_with (first
    | (go_at_call 41;have _t:=tok1;refine (hT.out _ (hf.rd.below g1)).mono ?_;rintro e w2 ⟨rfl,hb2⟩;have g2:Bw w w2:=g1.trans (hb2.mono g1.size);have hF2:=hF1.keep hb2;clear tok1 x0 x1 x2;obtain ⟨x0,x1,x2⟩:=hF2.three)
    | (go_at_call 45;refine (hH.out _ (((hr.alloc _).alloc _).alloc _)).mono ?_;rintro e w1 ⟨A3,c3,rfl,hl3,r3,hb1⟩;have hF1:Blk _ w.heap.size (Ro kf nf F sf.length cf):=((((aC w 32 (Ro kf nf F sf.length cf) rfl).alloc _).alloc _).keep hb1).alloc (.cells (Ro kh nh A3 sh.length c3) 32);have g1:Bw w (w1.alloc (.cells (Ro kh nh A3 sh.length c3) 32)):=(bw3.trans (hb1.mono Al)).alloc (by have:=hb1.size;simp at this;omega) _;obtain ⟨x0,x1,x2⟩:=hF1.three;have tok1:=trivial))
   go_ret;have hN:=aC w2 32 (Ro kf nf F sf.length cf) rfl;obtain ⟨z0,z1,z2⟩:=hN.three;refine ⟨_,_,rfl,RdP.cons_iff.2 ⟨⟨_,_,rfl,RdPC.iff.2 ⟨.inr g2.size,z0,z1,F,cf,z2,by omega,?_⟩⟩,RdP.nil⟩,g2.alloc g2.size _⟩;exact ((hf.below g2).alloc _).mono λb hb=>.inl hb
 | a::ts,m,k,n,ks,A,c,kf,nf,sf,F,cf,mm,p,w,hy,hts,hmm,hl3,hsz,hp,hrc,hf,hr,hrw=>by
  obtain ⟨m',hd,rfl,hv,hh,hcase⟩:=aHq hy;rcases hcase with ⟨_,h0⟩|⟨hk3,hb0,ts',hy',hcs⟩
  ·cases h0
  obtain ⟨nh,ka,na,sa,kb,nb,sb,rfl,hva,hvb⟩:=xO hh hk3;injection hcs with e1 e2;subst e1 e2;change Calls _ _ _ w (kX p w (gV (dZ d ctx) (.mk ka na sa::ts) (.mk kf nf sf)))
  have ih:=λ(k n:Int) (ks:List Tm) (A:Ba) (c:Nat) (kf nf:Int) (sf:List Tm) (F:Ba) (cf:Nat) (mm:Int) (p:Nat->Prop) (w:Bb)=>xL d ihF ctx C cc kw nw sw SW cw hG hvc hm dd hdd hd3 ts m' k n ks A c kf nf sf F cf mm p w
  have hH:=aD (λ(w:Bb) (hr:Rd w A 0 ks)=>show Calls prog 45 _ w (aOh w 3 nh [.mk ka na sa,.mk kb nb sb]) by have:=iV k n ks A c w hv hr;rw [hh] at this;exact this);change SemW ctx (.mk ka na sa)/\((∃x,HasT ctx (.mk ka na sa) x)->aKm ctx ts) at hts;have hza:=aH hva;have hFi:=aD (λ(w:Bb) (A:Ba) (c:Nat) (hrc:Rd w C 0 ctx) (hr:Rd w A 0 sa)=>ihF ctx C cc ka na sa A c w hG hvc Ac hts.1 Ac hrc hr);have hTs:=aD hts.2;have hAL:=gX d ctx (.mk ka na sa);have hAH:=aD (λ(t:Tm) (h:t∈dZ d ctx (.mk ka na sa))=>mE h);generalize hAR:dZ d ctx (.mk ka na sa)=AR at hFi hAL hAH;have hAR:=aD hAR;change yl (.mk kw nw sw) m' (bR (-1) 0 (.mk kb nb sb))=some ts at hy';change qW 0 (.mk kb nb sb)=0 at hb0;obtain ⟨kd,nd,sd,hd⟩:=gQ (bR (-1) 0 (.mk kb nb sb));have hzb:=aH hvb;have hSh:=aD (show ∀(w:Bb) (A:Ba) (c:Nat) (hr:Rd w A 0 sb),Calls prog 29 #[.agg (Ro kb nb A sb.length c),.int .i64 (-1),.int .i64 0] w (rQ w kd nd sd) from λw A c hr=>by
   have:=gI _ kb nb sb A c (-1) 0 30 w (mV _) Ac (aY hvb) Ac Ac Ac hr;rw [bR] at hd;injection hd with e1 e2 e3;subst e1;rw [e2,e3] at this;exact this)
  rw [hd] at hy';have hIH:=aD (λ(x:Tm) (hx:HasT ctx (.mk ka na sa) x) (A:Ba) (c:Nat) (sf:List Tm) (F:Ba) (cf:Nat) (p:Nat->Prop) (w:Bb)=>ih kd nd sd A c 5 0 sf F cf (ts.length:Int) p w hy' (hTs.out ⟨x,hx⟩) rfl (by simp at hl3;omega));obtain ⟨mm1,hmm1⟩:∃mm1:Int,mm1=(ts.length:Int):=⟨_,rfl⟩;have km:mm - 1=mm1:=by rw [hmm,hmm1,List.length_cons];omega
  have hz3:ts.length<=2:=by simp at hl3;omega
  have k1:IntKind.i64.wrap (mm - 1)=mm1:=by rw [IntWalk.i64_in _ Ac];exact km
  have k2:wrap64 (mm - 1)=mm1:=by rw [IntWalk.wrap64_in _ Ac];exact km
  have k3:IntKind.i64.wrap (dd - 1)=(d:Int):=by rw [IntWalk.i64_in _ Ac];omega
  have k4:wrap64 (dd - 1)=(d:Int):=by rw [IntWalk.wrap64_in _ Ac];omega
  have qm:(mm==0)=false:=by
   have:mm≠0:=by omega
   simpa using this
  have hszf:aG sf+1000*ts.length+1000<=10000:=by rw [List.length_cons] at hsz;omega
  have hlf:=aJ sf;obtain ⟨R,hR⟩:∃R,gV (dZ d ctx) (.mk ka na sa::ts) (.mk kf nf sf)=R:=⟨_,rfl⟩;rw [hR];rw [gV,hAR.out] at hR;have hR:=aD hR;have hgl:=aD (λ(x:Tm)=>(mZ:(gV (dZ d ctx) ts (.mk 5 0 [.mk kf nf sf,x])).length<=1+11*ts.length));subst hmm1;clear hy hts hmm hsz hh hv hva hvb hb0 hd hy' hk3 ih hl3 hTs km hdd hG hvc ihF hza hzb;go_enter func54,ntmps54;go_wp2_with (first
   | (go_at_call 34;have _t:=tok1;refine (hFi.out _ Aa ca (hrc.below (g1.alloc g1.size _)) ((ra1.alloc _).alloc _)).mono ?_;rintro e w2 ⟨L2,c2,rfl,rL2,hb2⟩;have g2:Bw w w2:=(g1.alloc g1.size (.cells #[] 32)).trans (hb2.mono (by have:=g1.size;simp;omega));clear tok1)
   | (go_at_call 45;refine (hH.out _ (((hr.alloc _).alloc _).alloc _)).mono ?_;rintro e w1 ⟨A3,c3,rfl,hl3,r3,hb1⟩;have hF1:Blk _ w.heap.size (Ro kf nf F sf.length cf):=((((aC w 32 (Ro kf nf F sf.length cf) rfl).alloc _).alloc _).keep hb1).alloc (.cells (Ro 3 nh A3 2 c3) 32);have hW1:Blk _ (w.heap.size+1+1) (Ro kw nw SW sw.length cw):=((aC _ 32 (Ro kw nw SW sw.length cw) Ag).keep hb1).alloc (.cells (Ro 3 nh A3 2 c3) 32);have hH1:Blk _ w1.heap.size (Ro 3 nh A3 2 c3):=aC w1 32 (Ro 3 nh A3 2 c3) rfl;have g1:Bw w (w1.alloc (.cells (Ro 3 nh A3 2 c3) 32)):=(bw3.trans (hb1.mono Al)).alloc (by have:=hb1.size;simp at this;omega) _;have s1:w.heap.size+1+1<w1.heap.size:=(by have:=hb1.size;simp at this;omega);obtain ⟨h0,h1,h2⟩:=hH1.three;obtain ⟨bk,ok,Aa,ca,rfl,a1,a2,a3,hla,ra1⟩:=mU r3;obtain ⟨Ab,cb,d1,d2,d3,hlb,rb1⟩:=sB r3;simp only [Nat.zero_mul,Nat.add_zero,Nat.one_mul,Nat.reduceMul] at a1 a2 a3 d1 d2 d3;have lbk:=kF _ _ a1;have tok1:=trivial))
  have hF2:Blk w2 w.heap.size (Ro kf nf F sf.length cf):=(hF1.alloc _).keep hb2;have hW2:Blk w2 (w.heap.size+1+1) (Ro kw nw SW sw.length cw):=(hW1.alloc _).keep hb2;have hH2:Blk w2 w1.heap.size (Ro 3 nh (some ⟨bk,ok,none⟩) 2 c3):=(hH1.alloc _).keep hb2;have dB1:=(cM hb2) _ _ (Keeps.alloc _ (.cells #[] 32) _ _ (Keeps.alloc _ (.cells (Ro 3 nh (some ⟨bk,ok,none⟩) 2 c3) 32) _ _ d1));have dB2:=(cM hb2) _ _ (Keeps.alloc _ (.cells #[] 32) _ _ (Keeps.alloc _ (.cells (Ro 3 nh (some ⟨bk,ok,none⟩) 2 c3) 32) _ _ d2));have dB3:=(cM hb2) _ _ (Keeps.alloc _ (.cells #[] 32) _ _ (Keeps.alloc _ (.cells (Ro 3 nh (some ⟨bk,ok,none⟩) 2 c3) 32) _ _ d3));have rb2:RdP (·<w1.heap.size) w2 Ab 0 sb:=((rb1.rdp.alloc (.cells (Ro 3 nh (some ⟨bk,ok,none⟩) 2 c3) 32)).alloc (.cells #[] 32)).below hb2;have hP2:PartR p (w1.heap.size+1) w2 (.slice (some ⟨w1.heap.size+1,0,none⟩) 0 0) []:=(PartR.start Ag Ag).below hb2;have s2:w1.heap.size+1+1<=w2.heap.size:=by have:=hb2.size;simp at this;omega
  have rA2:RdP (λb=>w1.heap.size+1+1<=b/\b<w2.heap.size) w2 L2 0 AR:=rL2.lt_.mono λb hb=>⟨hb.1.elim False.elim λh=>(by simpa using h),hb.2⟩
  have ow2:=aD (show ∀b,w1.heap.size+1+1<=b->b<w2.heap.size->(Value.slice (some ⟨w1.heap.size+1,0,none⟩) 0 0).ownBlock≠some b from λb h1 _ e=>by injection e with e;have e:w1.heap.size+1=b:=e;omega);clear hF1 hW1 hH1 h0 h1 h2 a1 a2 a3 d1 d2 d3 r3 ra1 rb1 rL2 hFi hH;go_loopw [15,17] (λs i wr=>∃(j:Nat) (out:List Tm) (L:Ba) (cl:Nat),j<=AR.length/\i = .int .i64 j/\s = .slice L out.length cl/\out.length<=200/\PartR p (w1.heap.size+1) wr (.slice L out.length cl) out/\RdP (λb=>w1.heap.size+1+1<=b/\b<w2.heap.size) wr L2 0 AR/\Hid (∀b,w1.heap.size+1+1<=b->b<w2.heap.size->(Value.slice L out.length cl).ownBlock≠some b)/\Hid (jF (λx=>gV (dZ d ctx) ts (.mk 5 0 [.mk kf nf sf,x])) out (AR.drop j)=R)/\Below (w1.heap.size+1) w2 wr)
   (λ_ i _=>AR.length - (intOf i).toNat)
  case atStart=>exact ⟨0,[],_,_,Nat.zero_le _,rfl,rfl,by simp,hP2,rA2,ow2,hR,eI _ _⟩
  case round=>
   clear hP2 ow2 hR rA2;obtain ⟨j,out,L,cl,hj,rfl,rfl,hol,hP,rA,ow,hR,hbr⟩:=hrel;have hgr:Bw w wr:=bN g2 hbr;by_cases hlt:j<AR.length;rotate_left
   ·have hje:j=AR.length:=by omega
    subst hje;have q1:¬((AR.length:Int)<(AR.length:Int)):=by omega
    go_wp2_with fail;go_ret;obtain rfl:out=R:=by have:=hR.out;rwa [List.drop_length,jF] at this
    exact ⟨L,cl,rfl,hP.gotP Ac,hgr⟩
   have q1:(j:Int)<(AR.length:Int):=by omega
   by_cases ho:out.length<12;rotate_left
   ·have q2:¬((out.length:Int)<12):=by omega
    have q3:decide (out.length<12)=false:=decide_eq_false ho;go_wp2_with fail;go_ret;obtain rfl:out=R:=by have:=hR.out;rwa [qQ Ac] at this
    exact ⟨L,cl,rfl,hP.gotP Ac,hgr⟩
   have q2:(out.length:Int)<12:=by omega
   have q3:decide (out.length<12)=true:=decide_eq_true ho;have hRn:=hR.out;rw [List.drop_eq_getElem_cons hlt,vT ho] at hRn;have hx:=hAH.out _ (gM hlt);obtain ⟨bx,ox,kx,nx,sx,Ax,cx,hLx,hxj,x1,x2,x3,hlx,rx⟩:=rA.at_ hlt;rw [hxj] at hx hRn;subst hLx;have hzx:=aH hx.valid;have hLl:=mZ (F:=dZ d ctx) (ts:=ts) (f:=.mk 5 0 [.mk kf nf sf,.mk kx nx sx]);have hI2:=aD (show ∀(A:Ba) (c:Nat) (F:Ba) (cf:Nat) (p:Nat->Prop) (w:Bb),(∀b,p b->b<w.heap.size)->Rd w C 0 ctx->RdP p w F 0 [.mk kf nf sf,.mk kx nx sx]->Rd w A 0 sd->Rd w SW 0 sw->Calls prog 54 #[.slice C ctx.length cc,.agg (Ro 5 0 F 2 cf),.agg (Ro kd nd A sd.length c),.agg (Ro kw nw SW sw.length cw),.int .i64 dd,.int .i64 (ts.length:Int)] w (kX p w (gV (dZ d ctx) ts (.mk 5 0 [.mk kf nf sf,.mk kx nx sx]))) from λA c F cf p w h1 h2 h3 h4 h5=>hIH.out _ hx A c [.mk kf nf sf,.mk kx nx sx] F cf p w (by simp only [aG,Tm.size];omega) h1 h2 h3 h4 h5);generalize gV (dZ d ctx) ts (.mk 5 0 [.mk kf nf sf,.mk kx nx sx])=LL at hRn hI2 hLl;have hRn:=aD hRn;clear hx hxj hR;have hFr:=hF2.below hbr Ac;have hWr:=hW2.below hbr Ac;have hHr:=hH2.below hbr Ac;have lbk2:bk<w1.heap.size+1:=by omega
   have dr1:=(hbr.cell (p:=⟨bk,ok+3,none⟩) lbk2).trans dB1;have dr2:=(hbr.cell (p:=⟨bk,ok+3+1,none⟩) lbk2).trans dB2;have dr3:=(hbr.cell (p:=⟨bk,ok+3+2,none⟩) lbk2).trans dB3;have rbr:RdP (·<w1.heap.size) wr Ab 0 sb:=rb2.blocks λb hb _=>hbr.block b (by have hb:b<w1.heap.size:=hb;omega)
   have hfr:=hf.below hgr;have szr:w2.heap.size<=wr.heap.size:=hbr.size;have hlfl:sf.length<=9223372036854775807:=by omega
   go_upto_region 13 with fail
   obtain ⟨v0,v1,v2⟩:=fW hFr;obtain ⟨u0,u1,u2⟩:=fW hWr;have t2:=aF hHr.three.2.2;obtain ⟨y1,y2,y3⟩:=pG dr1 dr2 dr3;obtain ⟨z1,z2,z3⟩:=pG x1 x2 x3;refine eK wr [19,20] [0,1,2,3,4,5,6,9,10,11,12,14,15,16,17] 21 6 (lT:=[_,_,_,_,_,_,_,_,_,_,_,_,_,_,_]) ?_;intro q0 bq0;refine bU (aD ?_);refine aZ 7 ?_
   ·go_wp2_with fail;refine aL ?_;intro q1 hn;have hbq1:Bw q0 q1:=by rw [hn];exact bw1
    have zq1:Blk q1 q0.heap.size #[.int .i64 kf,.int .i64 nf,.slice F sf.length cf,.int .i64 kx,.int .i64 nx,.slice Ax sx.length cx]:=by rw [hn];exact aC _ 32 _ rfl
    have seq1:q0.heap.size<q1.heap.size:=by rw [hn];simp
    clear hn;refine aV bq0 hbq1 ?_;intro bq1 lq1;refine aZ 8 ?_
    ·go_wp2_with (go_at_call 67;refine (oH (p:=(λb=>p b\/(w1.heap.size+1+1<=b/\b<w2.heap.size))) 5 (aO hlfl ((hfr.below bq1).mono λb hb=>.inl hb) (aO hlx ((rx.below bq1).mono λb hb=>.inr hb) bX)) (λb hb=>hb.elim (λhb=>by have:=hp b hb;have:=hgr.size;have:=bq1.size;omega) (λhb=>by have:=bq1.size;omega)) 2 rfl Ac _ _ zq1).mono ?_;rintro e q2 ⟨A8,c8,rfl,r8q2,hbq2⟩);have Bq2:=zq1.keep hbq2;refine aV bq1 hbq2 ?_;intro bq2 lq2;refine aZ 13 ?_
     ·go_wp2_with (go_at_call 29;refine (hSh.out _ Ab cb (rbr.rd.below bq2)).mono ?_;rintro e q3 ⟨A9,c9,rfl,hl9,hf9,hbq3⟩;have r9q3:=hf9.rd);have Bq3:=Bq2.keep hbq3;have Nq3:=r8q2.below hbq3;refine aV bq2 hbq3 ?_;intro bq3 lq3;refine aZ 18 ?_
      ·go_wp2_with (go_at_call 54;refine (hI2.out A9 c9 A8 c8 _ _ (λb hb=>hb.2) ((hrc.below hgr).below bq3) Nq3.lt_ r9q3 ((hrw.below hgr).below bq3)).mono ?_;rintro e q4 ⟨A10,c10,rfl,rLq4,hbq4⟩);have Bq4:=Bq3.keep hbq4;have Nq4:=Nq3.below hbq4;have Dq4:=r9q3.below hbq4;refine aV bq3 hbq4 ?_;intro bq4 lq4;refine cK [19,20] (lB:=[_,_]) ?_;refine gS (aD ?_);have hPw:=hP.below bq4;have szw:=bq4.size;have sz8:=bq1.size;have sz18:=bq3.size;refine dV (lo:=p) (B:=w1.heap.size+1) hPw Ac rLq4.lt_ (λb hb=>?_) rfl Ac rfl Ac rfl _ _ rfl rfl rfl ?_
       ·obtain ⟨hb1,hb2⟩:=hb;have hown:∀g,(Value.slice L out.length cl).ownBlock=some g->w1.heap.size+1<=g/\g<wr.heap.size:=λg hg=>⟨hP.ownB g hg,hP.ownL g hg⟩
        rcases hb1 with ⟨(hb1|hb1)|hb1,_⟩|hb1
        ·exact ⟨.inl hb1,hb2,λe=>by have:=(hown b e).1;have:=hp b hb1;omega⟩
        ·exact ⟨.inr Ac,hb2,ow.out b hb1.1 hb1.2⟩
        ·exact ⟨.inr Ac,hb2,λe=>by have:=(hown b e).2;omega⟩
        ·exact ⟨.inr Ac,hb2,λe=>by have:=(hown b e).2;omega⟩
       intro L4 c4 w4 hP4 hb4 hg4 hn4;have hl4:(out++LL).length=out.length+LL.length:=by simp
       have rA4:=(rA.below bq4).grown hg4 (λb hb e=>ow.out b hb.1 hb.2 e.symm);have ow4:=aD (show ∀b,w1.heap.size+1+1<=b->b<w2.heap.size->(Value.slice L4 (out.length+LL.length) c4).ownBlock≠some b from λb h1 h2=>hn4 b Ac (ow.out b h1 h2));have gx:=hbr.trans ((bq4.mono Ac).trans hb4);go_wp2_with fail;go_roundw
       case rel=>exact ⟨j+1,out++LL,L4,c4,by omega,by go_num,by rw [hl4],by rw [hl4];omega,by rw [hl4];exact hP4,rA4,by rw [hl4];exact ow4,hRn,gx⟩
       case measure=>simp [intOf];omega
theorem aVv {a b:Tm}(ha:aE a=true)(hb:aE b=true)(h:dJ 200 a b=1):(tR a b).cd=0:=by
 unfold tR;rw [Av ⟨ha,hb⟩,Av h];rfl
theorem aXn {a b:Tm}(ha:aE a=true)(hb:aE b=true)(h:dJ 200 a b≠1):∃co,co≠0/\(tR a b).cd=co:=by
 refine ⟨_,?_,rfl⟩;unfold tR;rw [Av ⟨ha,hb⟩,Aw h];split<;>decide
def aUx (ctx:List Tm)(h:Tm):Prop:=(h.k=3\/h.k=13)->SemW ctx (aI h.ks 0)/\SemW (ctx++[aI h.ks 0]) (aI h.ks 1)/\∀x,HasT ctx (aI h.ks 0) x->SemW ctx (bT x 0 0 (aI h.ks 1))
theorem tD {h:Tm}(hv:aE h=true)(hk:h.k=3\/h.k=13):∃k n ka na sa kb nb sb,h = .mk k n [.mk ka na sa,.mk kb nb sb]/\aE (.mk ka na sa)=true/\aE (.mk kb nb sb)=true:=by
 obtain ⟨k,n,s⟩:=h;obtain ⟨a,b,rfl⟩:=kP (l:=s) (by have:=(bD hv).1;have h3:aX k=2:=(by rcases hk with rfl|rfl<;>rfl);omega);obtain ⟨ka,na,sa⟩:=a;obtain ⟨kb,nb,sb⟩:=b;exact ⟨k,n,ka,na,sa,kb,nb,sb,rfl,aP hv (t:=.mk ka na sa) Ag,aP hv (t:=.mk kb nb sb) Ag⟩
theorem aJa {ctx:List Tm}(hG:SemG ctx){want h:Tm}(hw:SemW ctx want)(hh:jB want = .ok h):aUx ctx h:=λhk=>by
 obtain ⟨k,n,ka,na,sa,kb,nb,sb,rfl,hva,hvb⟩:=tD (cR hh).2.1 hk;obtain ⟨h1,h2,h3⟩:=hw.two hG (k:=k) hk (kS hh) (kI hva) (kI hvb);exact ⟨h1,h2,λx ⟨N,hx⟩=>h3 N x (kI (HasT.valid ⟨N,hx⟩)) hx⟩
theorem aRr (ctx:List Tm)(C:Ba)(cc:Nat)(n dd:Int)(ks:List Tm)(A:Ba)(c:Nat)(w:Bb) :
  Calls prog 56 #[.slice C ctx.length cc,.agg (Ro 6 n A ks.length c),.int .i64 dd] w (kX (λ_=>False) w [.mk 7 0 []]):=by
 go_enter func56,ntmps56;go_wp2_with (first
  | (at_builtin;have _t:=tok1;refine bP (k:=7) (n:=0) (ks:=[]) (q:=λ_=>False) hP1 Ai RdP.nil (λ_ h=>h.elim) Ag (m:=0) rfl Ac _ _ (aC w1 32 (Ro 7 0 none 0 0) rfl) rfl _ _ rfl rfl rfl ?_;intro L2 c2 w2 hP2 hb2 hg2 hn2;clear tok1)
  | (go_at_call 55;refine (cC 7 0 _).mono ?_;rintro e w1 ⟨rfl,hb1⟩;have hP1:PartR (λ_=>False) (w.heap.size+1) (w1.alloc (.cells (Ro 7 0 none 0 0) 32)) (.slice (some ⟨w.heap.size+1,0,none⟩) 0 0) []:=((PartR.start Ag Ag).below hb1).alloc _;have s1:=hb1.size;simp at s1;have g1:Bw w (w1.alloc (.cells (Ro 7 0 none 0 0) 32)):=(bw2.trans (hb1.mono Al)).alloc Ac _;have tok1:=trivial))
 go_ret;exact ⟨L2,c2,rfl,hP2.gotP Ac,g1.trans (hb2.mono Ac)⟩
theorem aGq (ctx:List Tm)(C:Ba)(cc:Nat)(k n dd:Int)(ks:List Tm)(A:Ba)(c:Nat)(w:Bb)(h6:k≠6)(h10:k≠10)(h3:k≠3)(h13:k≠13) :
  Calls prog 56 #[.slice C ctx.length cc,.agg (Ro k n A ks.length c),.int .i64 dd] w (kX (λ_=>False) w []):=by
 have q6:(k==6)=false:=by simpa using h6
 have q10:(k==10)=false:=by simpa using h10
 have q3:(k==3)=false:=by simpa using h3
 have q13:(k==13)=false:=by simpa using h13
 go_enter func56,ntmps56;go_wp2_with fail;go_ret;exact ⟨_,_,rfl,RdP.nil,bw2⟩
theorem aOp (ctx:List Tm)(C:Ba)(cc:Nat)(n dd:Int)(k0:Tm)(kx nx:Int)(sx:List Tm)(ky ny:Int)(sy:List Tm)(A:Ba)(c:Nat)(w:Bb)(hvx:aE (.mk kx nx sx)=true)(hvy:aE (.mk ky ny sy)=true)(hr:Rd w A 0 [k0,.mk kx nx sx,.mk ky ny sy]) :
  Calls prog 56 #[.slice C ctx.length cc,.agg (Ro 10 n A 3 c),.int .i64 dd] w (kX (λ_=>False) w (if dJ 200 (.mk kx nx sx) (.mk ky ny sy)=1 then [.mk 11 0 [.mk kx nx sx]] else [])):=by
 obtain ⟨bk,ok,x1,x2,x3,Ax,cx,rfl,hk1,x1,x2,x3,hlx,rx⟩:=hr.at_ (j:=1) Ag;injection hk1 with e1 e2 e3;subst e1 e2 e3;obtain ⟨Ay,cy,y1,y2,y3,hly,ry⟩:=kd2 hr;simp only [Nat.zero_mul,Nat.add_zero,Nat.one_mul,Nat.reduceMul] at x1 x2 x3 y1 y2 y3
 have lbp:=kF _ _ x1;have hzx:=aH hvx;have hzy:=aH hvy;by_cases hc:dJ 200 (.mk kx nx sx) (.mk ky ny sy)=1
 ·have hS:=aD (λ(w:Bb) (hr:Rd w Ax 0 sx) (hr2:Rd w Ay 0 sy)=>show Calls prog 46 _ w (λe w'=>e = .returned (.int .i64 0)/\Bw w w') by have:=jQ kx nx sx Ax cx ky ny sy Ay cy w hvx Ac hr hr2;rw [aVv hvx hvy hc] at this;exact this);rw [Av hc];clear hc hvx hvy;go_enter func56,ntmps56;go_upto_region 6 with fail
  refine aU ?_;intro wx hwx;have hX:Blk wx w.heap.size (Ro 10 n (some ⟨bk,ok,none⟩) 3 c):=by rw [hwx];exact (aC w 32 _ rfl).alloc _
  have hP:PartR (λ_=>False) (w.heap.size+1) wx (.slice (some ⟨w.heap.size+1,0,none⟩) 0 0) []:=by rw [hwx];exact PartR.start Ag Ag
  have gx:Bw w wx:=by rw [hwx];exact bw2
  have swx:w.heap.size+2<=wx.heap.size:=by rw [hwx];simp
  clear hwx;obtain ⟨v0,v1,v2⟩:=fW hX;obtain ⟨ux1,ux2,ux3⟩:=fR gx x1 x2 x3;obtain ⟨uy1,uy2,uy3⟩:=fR gx y1 y2 y3;go_cut [34] (λvb wy=>vb = .bool true/\Bw wx wy)
  case first=>
   refine eK wx [9] [0,1,2,3,4,5,6,7] 10 2 (lT:=[_,_,_,_,_,_,_,_]) ?_;intro q0 bq0;refine bU (aD ?_);refine aZ 8 ?_
   ·go_wp2_with (go_at_call 46;refine (hS.out _ ((rx.below gx).below bq0) ((ry.below gx).below bq0)).mono ?_;rintro e q1 ⟨rfl,hbq1⟩);refine aV bq0 hbq1 ?_;intro bq1 lq1;refine cK [9] (lB:=[_]) ?_;refine gS (aD ?_);go_wp2_with fail;go_meet
    exact ⟨rfl,bq1⟩
  case rest=>
   obtain ⟨rfl,hxy⟩:=hcut;clear v0 v1 v2 ux1 ux2 ux3 uy1 uy2 uy3;have hX:=hX.keep hxy;have hP:=hP.below hxy;have g2:=gx.trans (hxy.mono gx.size);have s2:=hxy.size;obtain ⟨v0,v1,v2⟩:=hX.three;obtain ⟨px1,px2,px3⟩:=xW g2 x1 x2 x3;have tok0:=trivial;go_wp2_with (first
    | (at_builtin;have _t:=tok2;refine bP (k:=11) (n:=0) (ks:=[.mk kx nx sx]) (q:=λb=>wx.heap.size<=b/\b<w4.heap.size) hP5 Ai r4 (λb hb=>⟨.inr Ac,by simp;omega,λe=>by injection e with e;have e:w.heap.size+1=b:=e;omega⟩) Ag (m:=0) rfl Ac _ _ (aC w4 32 (Ro 11 0 A4 1 c4) rfl) rfl _ _ rfl rfl rfl ?_;intro L6 c6 w6 hP6 hb6 hg6 hn6;clear tok2)
    | (go_at_call 67;have _t:=tok1;refine (oH (p:=λb=>wx.heap.size<=b/\b<w3.heap.size) 11 (aO hl3 (r3.alloc _) bX) (λb hb=>by simp;omega) 1 rfl Ac _ _ (aC w3 32 (Ro kx nx A3 sx.length c3) rfl)).mono ?_;rintro e w4 ⟨A4,c4,rfl,r4',hb4⟩;have s4:=hb4.size;simp at s4;have r4:=(r4'.lt_.mono (q:=λb=>wx.heap.size<=b/\b<w4.heap.size) (λb hb=>⟨hb.1.elim (λh=>h.1) (λh=>by simp at h;omega),hb.2⟩)).alloc (.cells (Ro 11 0 A4 1 c4) 32);have hP5:=((hP3.alloc (.cells (Ro kx nx A3 sx.length c3) 32)).below hb4).alloc (.cells (Ro 11 0 A4 1 c4) 32);have g5:Bw w (w4.alloc (.cells (Ro 11 0 A4 1 c4) 32)):=((g3.alloc g3.size (.cells (Ro kx nx A3 sx.length c3) 32)).trans (hb4.mono (by have:=g3.size;simp;omega))).alloc (by have:=g3.size;omega) _;clear tok1;have tok2:=trivial)
    | (go_at_call 35;have _t:=tok0;refine (dF _ kx nx sx Ax cx _ (mV _) Ac (rx.below g2)).mono ?_;rintro e w3 ⟨A3,c3,rfl,hl3,hf3,hb3⟩;have s3:=hb3.size;have r3:=hf3.rd'.lt_.mono (q:=λb=>wx.heap.size<=b/\b<w3.heap.size) (λb hb=>⟨by have:=hb.1;omega,hb.2⟩);have hP3:=hP.below hb3;have g3:=g2.trans (hb3.mono g2.size);clear tok0;have tok1:=trivial))
   go_ret;exact ⟨L6,c6,rfl,hP6.gotP Ac,g5.trans (hb6.mono Ac)⟩
 ·obtain ⟨co,hco,hS0⟩:=aXn hvx hvy hc;have hS:=aD (λ(w:Bb) (hr:Rd w Ax 0 sx) (hr2:Rd w Ay 0 sy)=>show Calls prog 46 _ w (λe w'=>e = .returned (.int .i64 co)/\Bw w w') by have:=jQ kx nx sx Ax cx ky ny sy Ay cy w hvx Ac hr hr2;rw [hS0] at this;exact this);have qc:(co==0)=false:=by simpa using hco
  rw [Aw hc];clear hc hvx hvy hco hS0;go_enter func56,ntmps56;go_upto_region 6 with fail
  refine aU ?_;intro wx hwx;have hX:Blk wx w.heap.size (Ro 10 n (some ⟨bk,ok,none⟩) 3 c):=by rw [hwx];exact (aC w 32 _ rfl).alloc _
  have hP:PartR (λ_=>False) (w.heap.size+1) wx (.slice (some ⟨w.heap.size+1,0,none⟩) 0 0) []:=by rw [hwx];exact PartR.start Ag Ag
  have gx:Bw w wx:=by rw [hwx];exact bw2
  have swx:w.heap.size+2<=wx.heap.size:=by rw [hwx];simp
  clear hwx;obtain ⟨v0,v1,v2⟩:=fW hX;obtain ⟨ux1,ux2,ux3⟩:=fR gx x1 x2 x3;obtain ⟨uy1,uy2,uy3⟩:=fR gx y1 y2 y3;refine eK wx [9] [0,1,2,3,4,5,6,7] 10 2 (lT:=[_,_,_,_,_,_,_,_]) ?_;intro q0 bq0;refine bU (aD ?_);refine aZ 8 ?_
  ·go_wp2_with (go_at_call 46;refine (hS.out _ ((rx.below gx).below bq0) ((ry.below gx).below bq0)).mono ?_;rintro e q1 ⟨rfl,hbq1⟩);refine aV bq0 hbq1 ?_;intro bq1 lq1;refine cK [9] (lB:=[_]) ?_;refine gS (aD ?_);go_wp2_with fail;go_ret;exact ⟨_,_,rfl,RdP.nil,gx.trans (bq1.mono gx.size)⟩
theorem aFa {f:Tm->Tm}{AR out:List Tm}{j:Nat}(hlt:j<AR.length){t:Tm}(ht:AR[j]=t)(h:out=(AR.take j).map f):out++[f t]=(AR.take (j+1)).map f:=by
 rw [tM hlt,List.map_append,<- h,ht];rfl
theorem aAw {f:Tm->Tm}{AR out o:List Tm}{j:Nat}(hlt:j<AR.length){t:Tm}(ht:AR[j]=t)(h:out=o++(AR.take j).map f):out++[f t]=o++(AR.take (j+1)).map f:=by
 rw [tM hlt,List.map_append,h,ht,List.append_assoc];rfl
theorem aSe (d:Nat)(ihF:aAe d)(hd3:d<=10)(dd:Int)(hdd:dd=(d:Int)+1)(ctx:List Tm)(C:Ba)(cc:Nat)(hG:SemG ctx)(hvc:∀u,u∈ctx->aE u=true)(hm:ctx.length<=8)(n:Int)(ka na:Int)(sa:List Tm)(kb nb:Int)(sb:List Tm)(A:Ba)(c:Nat)(w:Bb)(hva:aE (.mk ka na sa)=true)(hvb:aE (.mk kb nb sb)=true)(hw1:SemW ctx (.mk ka na sa))(hw2:SemW (ctx++[.mk ka na sa]) (.mk kb nb sb))(hrc:Rd w C 0 ctx)(hr:Rd w A 0 [.mk ka na sa,.mk kb nb sb]) :
  Calls prog 56 #[.slice C ctx.length cc,.agg (Ro 3 n A 2 c),.int .i64 dd] w (kX (λ_=>False) w ((dZ d (ctx++[.mk ka na sa]) (.mk kb nb sb)).map λt=>.mk 4 0 [.mk ka na sa,t])):=by
 obtain ⟨bk,ok,Aa,ca,rfl,a1,a2,a3,hla,ra⟩:=mU hr;obtain ⟨Ab,cb,b1,b2,b3,hlb,rb⟩:=sB hr;simp only [Nat.zero_mul,Nat.add_zero,Nat.one_mul,Nat.reduceMul] at a1 a2 a3 b1 b2 b3;have lbp:=kF _ _ a1;have hza:=aH hva;have hzb:=aH hvb;have hvc2:∀u,u∈ctx++[.mk ka na sa]->aE u=true:=λu hu=>by
  rcases List.mem_append.1 hu with h|h
  ·exact hvc u h
  ·rw [List.mem_singleton.1 h];exact hva
 have hG2:=hG.ext hw1;have hcl:(ctx++[Tm.mk ka na sa]).length<=9:=by simp;omega
 obtain ⟨cx,hcx⟩:∃cx,ctx++[Tm.mk ka na sa]=cx:=⟨_,rfl⟩;have hPu:=aD (show ∀(w:Bb) (hrc:Rd w C 0 ctx) (hra:Rd w Aa 0 sa),Calls prog 91 #[.slice C ctx.length cc,.agg (Ro ka na Aa sa.length ca)] w (aAg w cx) from λw hrc hra=>by rw [<- hcx];exact nF ctx C cc ka na sa Aa ca w Ac hla hrc hra);rw [hcx] at hvc2 hG2 hw2 hcl⊢;have hFi:=aD (λ(w:Bb) (D:Ba) (d':Nat) (hrD:Rd w D 0 cx) (hrb:Rd w Ab 0 sb)=>ihF cx D d' kb nb sb Ab cb w hG2 hvc2 hcl hw2 Ac hrD hrb);have hAL:=gX d cx (.mk kb nb sb);generalize dZ d cx (.mk kb nb sb)=AR at hFi hAL⊢;obtain ⟨R,hR⟩:∃R,(AR.map λt=>Tm.mk 4 0 [.mk ka na sa,t])=R:=⟨_,rfl⟩;rw [hR];have hR:=aD hR;have k3:IntKind.i64.wrap (dd - 1)=(d:Int):=by rw [IntWalk.i64_in _ Ac];omega
 have k4:wrap64 (dd - 1)=(d:Int):=by rw [IntWalk.wrap64_in _ Ac];omega
 clear hva hvb hw1 hw2 hG hvc hG2 hvc2 ihF hdd hcx hcl hr;go_enter func56,ntmps56;go_upto_region 9 with fail
 refine aU ?_;intro wx hwx;have hX:Blk wx w.heap.size (Ro 3 n (some ⟨bk,ok,none⟩) 2 c):=by rw [hwx];exact (aC w 32 _ rfl).alloc _
 have hP:PartR (λ_=>False) (w.heap.size+1) wx (.slice (some ⟨w.heap.size+1,0,none⟩) 0 0) []:=by rw [hwx];exact PartR.start Ag Ag
 have gx:Bw w wx:=by rw [hwx];exact bw2
 have swx:w.heap.size+2<=wx.heap.size:=by rw [hwx];simp
 clear hwx;obtain ⟨v0,v1,v2⟩:=fW hX;obtain ⟨ua1,ua2,ua3⟩:=fR gx a1 a2 a3;obtain ⟨ub1,ub2,ub3⟩:=fR gx b1 b2 b3;go_cut [8] (λv8 wy=>∃(L2:Ba) (c2:Nat) (W:Bb),W=wy/\v8 = .slice L2 AR.length c2/\RdP (λb=>wx.heap.size<=b) wy L2 0 AR/\Bw wx wy)
 case first=>
  refine eK wx [13] [0,1,2,3,4,6,7,8,9,10,11] 14 3 (lT:=[_,_,_,_,_,_,_,_,_,_,_]) ?_;intro q0 bq0;refine bU (aD ?_);refine aZ 5 ?_
  ·go_wp2_with (go_at_call 91;refine (hPu.out _ ((hrc.below gx).below bq0) ((ra.below gx).below bq0)).mono ?_;rintro e q1 ⟨D,d',rfl,rDq1,hbq1⟩);refine aV bq0 hbq1 ?_;intro bq1 lq1;refine aZ 12 ?_
   ·go_wp2_with (go_at_call 34;refine (hFi.out _ _ _ rDq1 ((rb.below gx).below bq1)).mono ?_;rintro e q2 ⟨L2,c2,rfl,rLq2,hbq2⟩);have Dq2:=rDq1.below hbq2;refine aV bq1 hbq2 ?_;intro bq2 lq2;refine cK [13] (lB:=[_]) ?_;refine gS (aD ?_);have sz12:=bq1.size;go_wp2_with fail;go_meet
    exact ⟨L2,c2,_,rfl,rfl,rLq2.mono λb hb=>hb.elim False.elim λh=>Nat.le_trans sz12 h,bq2⟩
 case rest=>
  obtain ⟨L2,c2,wy,rfl,rfl,rL2,hxy⟩:=hcut;have hX:=hX.keep hxy;have hP:=hP.below hxy;have g2:=gx.trans (hxy.mono gx.size);have s2:=hxy.size;have rL2:RdP (λb=>wx.heap.size<=b/\b<wy.heap.size) wy L2 0 AR:=rL2.lt_;have ow:=aD (show ∀b,wx.heap.size<=b->b<wy.heap.size->(Value.slice (some ⟨w.heap.size+1,0,none⟩) 0 0).ownBlock≠some b from λb h1 _ e=>by injection e with e;have e:w.heap.size+1=b:=e;omega);clear v0 v1 v2 ua1 ua2 ua3 ub1 ub2 ub3;go_wp2_with fail;go_loopw [7,9] (λs i wr=>∃(j:Nat) (out:List Tm) (L:Ba) (cl:Nat),j<=AR.length/\i = .int .i64 j/\s = .slice L out.length cl/\out.length<=j/\PartR (λ_=>False) (w.heap.size+1) wr (.slice L out.length cl) out/\RdP (λb=>wx.heap.size<=b/\b<wy.heap.size) wr L2 0 AR/\Hid (∀b,wx.heap.size<=b->b<wy.heap.size->(Value.slice L out.length cl).ownBlock≠some b)/\Hid (out=(AR.take j).map λt=>.mk 4 0 [.mk ka na sa,t])/\Below (w.heap.size+1) wy wr)
   (λ_ i _=>AR.length - (intOf i).toNat)
  case atStart=>exact ⟨0,[],_,_,Nat.zero_le _,rfl,rfl,mC _,hP,rL2,ow,aD Ag,eI _ _⟩
  case round=>
   clear hP ow rL2;obtain ⟨j,out,L,cl,hj,rfl,rfl,hol,hP,rA,ow,hO,hbr⟩:=hrel;have hgr:Bw w wr:=bN g2 hbr;have szr:wy.heap.size<=wr.heap.size:=hbr.size;by_cases hlt:j<AR.length;rotate_left
   ·have hje:j=AR.length:=by omega
    have q1:¬((j:Int)<(AR.length:Int)):=by omega
    have q2:decide (j<AR.length)=false:=decide_eq_false hlt;go_wp2_with fail;go_ret;have e:out=R:=by rw [hO.out,hje,List.take_length];exact hR.out
    subst e;exact ⟨L,cl,rfl,hP.gotP Ac,hgr⟩
   have q1:(j:Int)<(AR.length:Int):=by omega
   obtain ⟨bx,ox,kx,nx,sx,Ax,cx,hLx,hxj,x1,x2,x3,hlx,rx⟩:=rA.at_ hlt;have hO2:=aD (aFa hlt hxj hO.out);subst hLx;clear hO hxj;have hXr:=hX.below hbr Ac;have rar:Rd wr Aa 0 sa:=ra.below hgr;go_upto_region 13 with fail
   obtain ⟨v0,v1,v2⟩:=fW hXr;obtain ⟨ua1,ua2,ua3⟩:=fR hgr a1 a2 a3;obtain ⟨z1,z2,z3⟩:=pG x1 x2 x3;refine eK wr [13,14] [0,1,2,3,4,6,7,8,9] 15 6 (lT:=[_,_,_,_,_,_,_,_,_]) ?_;intro q0 bq0;refine bU (aD ?_);refine aZ 5 ?_
   ·go_wp2_with (go_at_call 35;refine (dF _ ka na sa Aa ca _ (mV _) Ac (rar.below bq0)).mono ?_;rintro e q1 ⟨A5,c5,rfl,hl5,hf5,hbq1⟩;have rKq1:=hf5.rd');refine aV bq0 hbq1 ?_;intro bq1 lq1;refine aZ 10 ?_
    ·go_wp2_with fail;refine aL ?_;intro q2 hn;have hbq2:Bw q1 q2:=by rw [hn];exact bw1
     have zq2:Blk q2 q1.heap.size #[.int .i64 ka,.int .i64 na,.slice A5 sa.length c5,.int .i64 kx,.int .i64 nx,.slice Ax sx.length cx]:=by rw [hn];exact aC _ 32 _ rfl
     have seq2:q1.heap.size<q2.heap.size:=by rw [hn];simp
     clear hn;have Kq2:=rKq1.below hbq2;refine aV bq1 hbq2 ?_;intro bq2 lq2;refine aZ 11 ?_
     ·go_wp2_with (go_at_call 67;refine (oH (p:=λb=>(λb=>wr.heap.size<=b\/(wx.heap.size<=b/\b<wy.heap.size)) b/\b<q2.heap.size) 4 (aO hl5 (Kq2.lt_.mono λb hb=>⟨.inl (Nat.le_trans bq0.size hb.1),hb.2⟩) (aO hlx ((rx.below bq2).lt_.mono λb hb=>⟨.inr hb.1,hb.2⟩) bX)) (λb hb=>hb.2) 2 rfl Ac _ _ zq2).mono ?_;rintro e q3 ⟨A8,c8,rfl,r8q3,hbq3⟩);have Kq3:=Kq2.below hbq3;have Bq3:=zq2.keep hbq3;refine aV bq2 hbq3 ?_;intro bq3 lq3;refine aZ 12 ?_
      ·go_wp2_with fail;refine aL ?_;intro q4 hn;have hbq4:Bw q3 q4:=by rw [hn];exact bw1
       have zq4:Blk q4 q3.heap.size (Ro 4 0 A8 2 c8):=by rw [hn];exact aC _ 32 _ rfl
       have seq4:q3.heap.size<q4.heap.size:=by rw [hn];simp
       clear hn;have Kq4:=Kq3.below hbq4;have Bq4:=Bq3.keep hbq4;have Nq4:=r8q3.below hbq4;refine aV bq3 hbq4 ?_;intro bq4 lq4;refine cK [13,14] (lB:=[_,_]) ?_;refine gS (aD ?_);have hPw:=hP.below bq4;have szw:=bq4.size;have sz11:=bq2.size;refine bP (lo:=(λ_=>False)) (B:=(w.heap.size+1)) (k:=4) (n:=0) (ks:=[.mk ka na sa,.mk kx nx sx]) (m:=out.length) hPw Ac Nq4.lt_ (λb hb=>?_) Ag rfl Ac _ _ zq4 rfl _ _ rfl rfl rfl ?_
       ·obtain ⟨hb1,hb2⟩:=hb;have hown:∀g,(Value.slice L out.length cl).ownBlock=some g->(w.heap.size+1)<=g/\g<wr.heap.size:=λg hg=>⟨hP.ownB g hg,hP.ownL g hg⟩
        rcases hb1 with ⟨hb1|hb1,_⟩|hb1
        ·exact ⟨.inr Ac,hb2,λe=>by have:=(hown b e).2;omega⟩
        ·exact ⟨.inr Ac,hb2,ow.out b hb1.1 hb1.2⟩
        ·exact ⟨.inr Ac,hb2,λe=>by have:=(hown b e).2;omega⟩
       intro L4 c4 w4 hP4 hb4 hg4 hn4;have hl4:(out++[Tm.mk 4 0 [.mk ka na sa,.mk kx nx sx]]).length=out.length+1:=by simp
       have rA4:=(rA.below bq4).grown hg4 (λb hb e=>ow.out b hb.1 hb.2 e.symm);have ow4:=aD (show ∀b,wx.heap.size<=b->b<wy.heap.size->(Value.slice L4 (out.length+1) c4).ownBlock≠some b from λb h1 h2=>hn4 b Ac (ow.out b h1 h2));have gx4:=hbr.trans ((bq4.mono Ac).trans hb4);go_wp2_with fail;go_roundw
       case rel=>exact ⟨j+1,_,L4,c4,by omega,by go_num,by rw [hl4],by rw [hl4];omega,by rw [hl4];exact hP4,rA4,by rw [hl4];exact ow4,hO2,gx4⟩
       case measure=>simp [intOf];omega
theorem kC {p:Nat->Prop}{w:Bb}{A:Ba}{k n:Int}{s:List Tm}{ts:List Tm}{j:Nat}(hr:RdP p w A 0 ts)(hj:j<ts.length)(h:ts[j] = .mk k n s):∃b off A' c,A=some ⟨b,off,none⟩/\w.cell? ⟨b,off+j*3,none⟩=some (.int .i64 k)/\w.cell? ⟨b,off+j*3+1,none⟩=some (.int .i64 n)/\w.cell? ⟨b,off+j*3+2,none⟩=some (.slice A' s.length c)/\s.length<=9223372036854775807/\RdP p w A' 0 s:=by
 obtain ⟨b,off,k',n',ks',A',c',h1,h2,h3,h4,h5,h6,h7⟩:=hr.at_ hj;rw [h] at h2;injection h2 with e1 e2 e3;subst e1 e2 e3;exact ⟨b,off,A',c',h1,h3,h4,h5,h6,h7⟩
theorem aQj (d:Nat)(ihF:aAe d)(hd3:d<=10)(dd:Int)(hdd:dd=(d:Int)+1)(ctx:List Tm)(C:Ba)(cc:Nat)(hG:SemG ctx)(hvc:∀u,u∈ctx->aE u=true)(hm:ctx.length<=8)(n:Int)(ka na:Int)(sa:List Tm)(kb nb:Int)(sb:List Tm)(A:Ba)(c:Nat)(w:Bb)(hva:aE (.mk ka na sa)=true)(hvb:aE (.mk kb nb sb)=true)(hw1:SemW ctx (.mk ka na sa))(hw3:∀x,HasT ctx (.mk ka na sa) x->SemW ctx (bT x 0 0 (.mk kb nb sb)))(hrc:Rd w C 0 ctx)(hr:Rd w A 0 [.mk ka na sa,.mk kb nb sb]) :
  Calls prog 56 #[.slice C ctx.length cc,.agg (Ro 13 n A 2 c),.int .i64 dd] w (kX (λ_=>False) w (jF (λx=>(dZ d ctx (bT x 0 0 (.mk kb nb sb))).map λy=>.mk 14 0 [.mk 13 n [.mk ka na sa,.mk kb nb sb],x,y]) [] (dZ d ctx (.mk ka na sa)))):=by
 obtain ⟨bk,ok,Aa,ca,rfl,a1,a2,a3,hla,ra⟩:=mU hr;obtain ⟨Ab,cb,b1,b2,b3,hlb,rb⟩:=sB hr;simp only [Nat.zero_mul,Nat.add_zero,Nat.one_mul,Nat.reduceMul] at a1 a2 a3 b1 b2 b3;have lbp:=kF _ _ a1;have hza:=aH hva;have hzb:=aH hvb;have hCp:=aD (show ∀(w:Bb) (hr:Rd w (some ⟨bk,ok,none⟩) 0 [.mk ka na sa,.mk kb nb sb]),Calls prog 35 #[.agg (Ro 13 n (some ⟨bk,ok,none⟩) 2 c)] w (λe w'=>∃A5 c5,e = .returned (.agg (Ro 13 n A5 2 c5))/\2<=9223372036854775807/\Fresh w.heap.size w' A5 [.mk ka na sa,.mk kb nb sb]/\Bw w w') from λw hr=>dF _ 13 n [.mk ka na sa,.mk kb nb sb] _ c w (mV _) (by simp only [aG,Tm.size];omega) hr);have hFi:=aD (λ(w:Bb) (hrc:Rd w C 0 ctx) (hra:Rd w Aa 0 sa)=>ihF ctx C cc ka na sa Aa ca w hG hvc Ac hw1 Ac hrc hra);have ihF:=aD (λ(ctx':List Tm) (C:Ba) (cc:Nat) (k n:Int) (ks:List Tm) (A:Ba) (c:Nat) (w:Bb)=>ihF ctx C cc k n ks A c w hG hvc Ac);have hAL:=gX d ctx (.mk ka na sa);have hAH:=aD (λ(t:Tm) (h:t∈dZ d ctx (.mk ka na sa))=>mE h);generalize dZ d ctx (.mk ka na sa)=AR at hFi hAL hAH⊢;obtain ⟨R,hR⟩:∃R,jF (λx=>(dZ d ctx (bT x 0 0 (.mk kb nb sb))).map λy=>Tm.mk 14 0 [.mk 13 n [.mk ka na sa,.mk kb nb sb],x,y]) [] AR=R:=⟨_,rfl⟩;rw [hR];have hR:=aD hR;have hw3:=aD hw3;have hvb:=aD hvb;have k3:IntKind.i64.wrap (dd - 1)=(d:Int):=by rw [IntWalk.i64_in _ Ac];omega
 have k4:wrap64 (dd - 1)=(d:Int):=by rw [IntWalk.wrap64_in _ Ac];omega
 clear hva hw1 hG hvc hdd;go_enter func56,ntmps56;go_wp2_with (go_at_call 34;refine (hFi.out _ ((hrc.alloc _).alloc _) ((ra.alloc _).alloc _)).mono ?_;rintro e wy ⟨L2,c2,rfl,rL2,hby⟩;have hX:Blk wy w.heap.size (Ro 13 n (some ⟨bk,ok,none⟩) 2 c):=((aC w 32 (Ro 13 n (some ⟨bk,ok,none⟩) 2 c) rfl).alloc _).keep hby;have hP:PartR (λ_=>False) (w.heap.size+1) wy (.slice (some ⟨w.heap.size+1,0,none⟩) 0 0) []:=(PartR.start Ag Ag).below hby;have g2:Bw w wy:=bN bw2 hby;have s2:w.heap.size+1+1<=wy.heap.size:=(by have:=hby.size;simpa using this);have rL2:RdP (λb=>w.heap.size+1+1<=b/\b<wy.heap.size) wy L2 0 AR:=rL2.lt_.mono λb hb=>⟨hb.1.elim False.elim λh=>(by simpa using h),hb.2⟩);have ow:=aD (show ∀b,w.heap.size+1+1<=b->b<wy.heap.size->(Value.slice (some ⟨w.heap.size+1,0,none⟩) 0 0).ownBlock≠some b from λb h1 _ e=>by injection e with e;have e:w.heap.size+1=b:=e;omega);go_loopw [7,11] (λs i wr=>∃(j:Nat) (out:List Tm) (L:Ba) (cl:Nat),j<=AR.length/\i = .int .i64 j/\s = .slice L out.length cl/\out.length<=30/\PartR (λ_=>False) (w.heap.size+1) wr (.slice L out.length cl) out/\RdP (λb=>w.heap.size+1+1<=b/\b<wy.heap.size) wr L2 0 AR/\Hid (∀b,w.heap.size+1+1<=b->b<wy.heap.size->(Value.slice L out.length cl).ownBlock≠some b)/\Hid (jF (λx=>(dZ d ctx (bT x 0 0 (.mk kb nb sb))).map λy=>.mk 14 0 [.mk 13 n [.mk ka na sa,.mk kb nb sb],x,y]) out (AR.drop j)=R)/\Below (w.heap.size+1) wy wr)
  (λ_ i _ => AR.length - (intOf i).toNat)
 case atStart=>exact ⟨0,[],_,_,Nat.zero_le _,rfl,rfl,by simp,hP,rL2,ow,hR,eI _ _⟩
 case round=>
  clear hP ow rL2 hR;obtain ⟨j,out,L,cl,hj,rfl,rfl,hol,hP,rA,ow,hR,hbr⟩:=hrel;have hgr:Bw w wr:=bN g2 hbr;have szr:wy.heap.size<=wr.heap.size:=hbr.size;by_cases hlt:j<AR.length;rotate_left
  ·have hje:j=AR.length:=by omega
   have q1:¬((j:Int)<(AR.length:Int)):=by omega
   have q2:decide (j<AR.length)=false:=decide_eq_false hlt;go_wp2_with fail;go_ret;have e:out=R:=by have:=hR.out;rwa [hje,List.drop_length,jF] at this
   subst e;exact ⟨L,cl,rfl,hP.gotP Ac,hgr⟩
  have q1:(j:Int)<(AR.length:Int):=by omega
  have q1':decide (j<AR.length)=true:=decide_eq_true hlt;by_cases ho:out.length<12;rotate_left
  ·have q2:¬((out.length:Int)<12):=by omega
   have q3:decide (out.length<12)=false:=decide_eq_false ho;go_wp2_with fail;go_ret;have e:out=R:=by have:=hR.out;rwa [qQ Ac] at this
   subst e;exact ⟨L,cl,rfl,hP.gotP Ac,hgr⟩
  have q2:(out.length:Int)<12:=by omega
  have q3:decide (out.length<12)=true:=decide_eq_true ho;have hRn:=hR.out;rw [List.drop_eq_getElem_cons hlt,vT ho] at hRn;have hx:=hAH.out _ (gM hlt);obtain ⟨kx,nx,sx,hxj⟩:∃kx nx sx,AR[j] = .mk kx nx sx:=by cases AR[j] with|mk a b l=>exact ⟨a,b,l,rfl⟩
  obtain ⟨bx,ox,Ax,cx,hLx,x1,x2,x3,hlx,rx⟩:=kC rA hlt hxj;rw [hxj] at hx hRn;have hzx:=aH hx.valid;obtain ⟨k2,n2,t2,hsb⟩:=gQ (bT (.mk kx nx sx) 0 0 (.mk kb nb sb));have hz2:aG t2<=1000000:=by
   have h1:=sQ (.mk kx nx sx) (m:=401) (by simp only [Tm.size];omega) Ac (.mk kb nb sb) 0 0;rw [hsb] at h1;simp only [Tm.size] at h1;have h2:(aG sb+1)*401<=401*401:=Nat.mul_le_mul_right _ Ac;omega
  have hSb:=aD (λ(w:Bb) (A:Ba) (c:Nat) (B:Ba) (cb:Nat) (hr:Rd w A 0 sb) (hru:Rd w B 0 sx)=>tV kb nb sb A c kx nx sx B cb w hvb.out (aY hx.valid) Ac hr hru k2 n2 t2 hsb);have hF2:=aD (λ(w:Bb) (A:Ba) (c:Nat) (hrc:Rd w C 0 ctx) (hr:Rd w A 0 t2)=>ihF.out ctx C cc k2 n2 t2 A c w (by rw [<- hsb];exact hw3.out _ hx) hz2 hrc hr);change jF _ (out++(dZ d ctx (bT (.mk kx nx sx) 0 0 (.mk kb nb sb))).map λy=>.mk 14 0 [.mk 13 n [.mk ka na sa,.mk kb nb sb],.mk kx nx sx,y]) _=R at hRn;rw [hsb] at hRn;have hBL:=gX d ctx (.mk k2 n2 t2);generalize dZ d ctx (.mk k2 n2 t2)=BR at hRn hF2 hBL;have hRn:=aD hRn;have hxj:=aD hxj;subst hLx;clear hx hR hsb hz2;have hXr:=hX.below hbr Ac;have rbr:Rd wr Ab 0 sb:=rb.below hgr;go_upto_region 19 with fail
  obtain ⟨v0,v1,v2⟩:=fW hXr;obtain ⟨ub1,ub2,ub3⟩:=fR hgr b1 b2 b3;obtain ⟨z1,z2,z3⟩:=pG x1 x2 x3;go_cut [12] (λv8 wy=>∃(L3:Ba) (c3:Nat) (W:Bb),W=wy/\v8 = .slice L3 BR.length c3/\RdP (λb=>wr.heap.size<=b) wy L3 0 BR/\Bw wr wy)
  case first=>
   refine eK wr [13] [0,1,2,3,4,5,6,7,8,10,11] 14 3 (lT:=[_,_,_,_,_,_,_,_,_,_,_]) ?_;intro q0 bq0;refine bU (aD ?_);refine aZ 9 ?_
   ·go_wp2_with (go_at_call 92;refine (hSb.out _ Ab cb Ax cx (rbr.below bq0) (rx.rd.below bq0)).mono ?_;rintro e q1 ⟨A9,c9,rfl,hl9,hf9,hbq1⟩;have r9q1:=hf9.rd);refine aV bq0 hbq1 ?_;intro bq1 lq1;refine aZ 12 ?_
    ·go_wp2_with (go_at_call 34;refine (hF2.out _ A9 c9 ((hrc.below hgr).below bq1) r9q1).mono ?_;rintro e q2 ⟨L3,c3,rfl,rLq2,hbq2⟩);have Dq2:=r9q1.below hbq2;refine aV bq1 hbq2 ?_;intro bq2 lq2;refine cK [13] (lB:=[_]) ?_;refine gS (aD ?_);have sz12:=bq1.size;go_wp2_with fail;go_meet
     exact ⟨L3,c3,_,rfl,rfl,rLq2.mono λb hb=>hb.elim False.elim λh=>Nat.le_trans sz12 h,bq2⟩
  case rest=>
   obtain ⟨L3,c3,wz,rfl,rfl,rL3,hrz⟩:=hcut;clear v0 v1 v2 ub1 ub2 ub3 z1 z2 z3 x1 x2 x3 rx;have szz:=hrz.size;have hXz:=hXr.keep hrz;have hPz:=hP.below hrz;have rAz:=rA.below hrz;have rL3:RdP (λb=>wr.heap.size<=b/\b<wz.heap.size) wz L3 0 BR:=rL3.lt_;have hgz:Bw w wz:=hgr.trans (hrz.mono hgr.size);have ow3:=aD (show ∀b,wr.heap.size<=b->b<wz.heap.size->(Value.slice L out.length cl).ownBlock≠some b from λb h1 _ e=>by have:=hP.ownL b e;omega);obtain ⟨wo,rfl⟩:∃wo,wo=wr:=⟨wr,rfl⟩;go_wp2_with fail;go_loopw [7,13] (λs i wq=>∃(m:Nat) (ou:List Tm) (L:Ba) (cl:Nat),m<=BR.length/\i = .int .i64 m/\s = .slice L ou.length cl/\ou.length<=12+m/\PartR (λ_=>False) (w.heap.size+1) wq (.slice L ou.length cl) ou/\RdP (λb=>w.heap.size+1+1<=b/\b<wy.heap.size) wq (some ⟨bx,ox,none⟩) 0 AR/\RdP (λb=>wo.heap.size<=b/\b<wz.heap.size) wq L3 0 BR/\Hid (∀b,w.heap.size+1+1<=b->b<wy.heap.size->(Value.slice L ou.length cl).ownBlock≠some b)/\Hid (∀b,wo.heap.size<=b->b<wz.heap.size->(Value.slice L ou.length cl).ownBlock≠some b)/\Hid (ou=out++(BR.take m).map λy=>.mk 14 0 [.mk 13 n [.mk ka na sa,.mk kb nb sb],.mk kx nx sx,y])/\Below (w.heap.size+1) wz wq)
    (λ_ i _=>BR.length - (intOf i).toNat)
   case atStart=>exact ⟨0,out,L,cl,Nat.zero_le _,rfl,rfl,by omega,hPz,rAz,rL3,ow,ow3,aD Ag,eI _ _⟩
   case round=>
    clear hPz rAz rL3 ow ow3 hP rA;obtain ⟨wq,rfl⟩:∃wq,wq=wr:=⟨wr,rfl⟩;obtain ⟨m,ou,L,cl,hm2,rfl,rfl,hol2,hP,rA,rB,ow,ow3,hO,hbq⟩:=hrel;have hgq:Bw w wq:=bN hgz hbq;have szq:wz.heap.size<=wq.heap.size:=hbq.size;by_cases hlt2:m<BR.length;rotate_left
    ·have hje:m=BR.length:=by omega
     have q4:¬((m:Int)<(BR.length:Int)):=by omega
     have q5:decide (m<BR.length)=false:=decide_eq_false hlt2;have hO2:=aD (show ou=out++BR.map λy=>Tm.mk 14 0 [.mk 13 n [.mk ka na sa,.mk kb nb sb],.mk kx nx sx,y] by have:=hO.out;rwa [hje,List.take_length] at this);have hRo:=aD (show jF (λx=>(dZ d ctx (bT x 0 0 (.mk kb nb sb))).map λy=>.mk 14 0 [.mk 13 n [.mk ka na sa,.mk kb nb sb],x,y]) ou (AR.drop (j+1))=R by rw [hO2.out];exact hRn.out);have gq:=hbr.trans ((hrz.mono Ac).trans hbq);clear hO hO2;go_wp2_with fail;go_roundw
     case rel=>exact ⟨j+1,ou,L,cl,by omega,by go_num,rfl,by omega,hP,rA,ow,hRo,gq⟩
     case measure=>simp [intOf];omega
    have q4:(m:Int)<(BR.length:Int):=by omega
    have q5:decide (m<BR.length)=true:=decide_eq_true hlt2;obtain ⟨bx2,ox2,Ax,cx,hLx,x1,x2,x3,hlx,rx⟩:=kC rA hlt hxj.out;injection hLx with hLx;injection hLx with e1 e2;subst e1 e2;obtain ⟨ky,ny,sy,hyj⟩:∃ky ny sy,BR[m] = .mk ky ny sy:=by cases BR[m] with|mk a b l=>exact ⟨a,b,l,rfl⟩
    obtain ⟨by_,oy,Ay,cy,hLy,y1,y2,y3,hly,ry⟩:=kC rB hlt2 hyj;subst hLy;have hO2:=aD (aAw (f:=λy=>Tm.mk 14 0 [.mk 13 n [.mk ka na sa,.mk kb nb sb],.mk kx nx sx,y]) hlt2 hyj hO.out);clear hO hyj;have hXq:=hXz.below hbq Ac;have rhq:Rd wq (some ⟨bk,ok,none⟩) 0 [.mk ka na sa,.mk kb nb sb]:=hr.below hgq;go_upto_region 23 with fail
    obtain ⟨v0,v1,v2⟩:=fW hXq;obtain ⟨z1,z2,z3⟩:=pG x1 x2 x3;have t1:=aF y1;have t2':=aF y2;have t3:=aF y3;refine eK wq [14,15] [0,1,3,4,5,6,7,8,9,10] 16 6 (lT:=[_,_,_,_,_,_,_,_,_,_]) ?_;intro q0 bq0;refine bU (aD ?_);refine aZ 2 ?_
    ·go_wp2_with (go_at_call 35;refine (hCp.out _ (rhq.below bq0)).mono ?_;rintro e q1 ⟨A5,c5,rfl,hl5,hf5,hbq1⟩;have rKq1:=hf5.rd');refine aV bq0 hbq1 ?_;intro bq1 lq1;refine aZ 11 ?_
     ·go_wp2_with fail;refine aL ?_;intro q2 hn;have hbq2:Bw q1 q2:=by rw [hn];exact bw1
      have zq2:Blk q2 q1.heap.size #[.int .i64 13,.int .i64 n,.slice A5 2 c5,.int .i64 kx,.int .i64 nx,.slice Ax sx.length cx,.int .i64 ky,.int .i64 ny,.slice Ay sy.length cy]:=by rw [hn];exact aC _ 32 _ rfl
      have seq2:q1.heap.size<q2.heap.size:=by rw [hn];simp
      clear hn;have Kq2:=rKq1.below hbq2;refine aV bq1 hbq2 ?_;intro bq2 lq2;refine aZ 12 ?_
      ·go_wp2_with (go_at_call 67;refine (oH (us:=[.mk 13 n [.mk ka na sa,.mk kb nb sb],.mk kx nx sx,.mk ky ny sy]) (p:=λb=>(λb=>wq.heap.size<=b\/(λb=>w.heap.size+1+1<=b/\b<wy.heap.size) b\/(λb=>wo.heap.size<=b/\b<wz.heap.size) b) b/\b<q2.heap.size) 14 (aO Ag (Kq2.lt_.mono λb hb=>⟨.inl (Nat.le_trans bq0.size hb.1),hb.2⟩) (aO hlx ((rx.below bq2).lt_.mono λb hb=>⟨.inr (.inl hb.1),hb.2⟩) (aO hly ((ry.below bq2).lt_.mono λb hb=>⟨.inr (.inr hb.1),hb.2⟩) bX))) (λb hb=>hb.2) 3 rfl Ac _ _ zq2).mono ?_;rintro e q3 ⟨A8,c8,rfl,r8q3,hbq3⟩);have Kq3:=Kq2.below hbq3;have Bq3:=zq2.keep hbq3;refine aV bq2 hbq3 ?_;intro bq3 lq3;refine aZ 13 ?_
       ·go_wp2_with fail;refine aL ?_;intro q4 hn;have hbq4:Bw q3 q4:=by rw [hn];exact bw1
        have zq4:Blk q4 q3.heap.size (Ro 14 0 A8 3 c8):=by rw [hn];exact aC _ 32 _ rfl
        have seq4:q3.heap.size<q4.heap.size:=by rw [hn];simp
        clear hn;have Kq4:=Kq3.below hbq4;have Bq4:=Bq3.keep hbq4;have Nq4:=r8q3.below hbq4;refine aV bq3 hbq4 ?_;intro bq4 lq4;refine cK [14,15] (lB:=[_,_]) ?_;refine gS (aD ?_);have hPw:=hP.below bq4;have szw:=bq4.size;have sz11:=bq2.size;refine bP (lo:=(λ_=>False)) (B:=(w.heap.size+1)) (k:=14) (n:=0) (ks:=[.mk 13 n [.mk ka na sa,.mk kb nb sb],.mk kx nx sx,.mk ky ny sy]) (m:=ou.length) hPw Ac Nq4.lt_ (λb hb=>?_) Ag rfl Ac _ _ zq4 rfl _ _ rfl rfl rfl ?_
        ·obtain ⟨hb1,hb2⟩:=hb;have hown:∀g,(Value.slice L ou.length cl).ownBlock=some g->(w.heap.size+1)<=g/\g<wq.heap.size:=λg hg=>⟨hP.ownB g hg,hP.ownL g hg⟩
         rcases hb1 with ⟨hb1|hb1|hb1,_⟩|hb1
         ·exact ⟨.inr Ac,hb2,λe=>by have:=(hown b e).2;omega⟩
         ·exact ⟨.inr Ac,hb2,ow.out b hb1.1 hb1.2⟩
         ·exact ⟨.inr Ac,hb2,ow3.out b hb1.1 hb1.2⟩
         ·exact ⟨.inr Ac,hb2,λe=>by have:=(hown b e).2;omega⟩
        intro L4 c4 w4 hP4 hb4 hg4 hn4;have hl4:(ou++[Tm.mk 14 0 [.mk 13 n [.mk ka na sa,.mk kb nb sb],.mk kx nx sx,.mk ky ny sy]]).length=ou.length+1:=by simp
        have rA4:=(rA.below bq4).grown hg4 (λb hb e=>ow.out b hb.1 hb.2 e.symm);have rB4:=(rB.below bq4).grown hg4 (λb hb e=>ow3.out b hb.1 hb.2 e.symm);have ow4:=aD (show ∀b,w.heap.size+1+1<=b->b<wy.heap.size->(Value.slice L4 (ou.length+1) c4).ownBlock≠some b from λb h1 h2=>hn4 b Ac (ow.out b h1 h2));have ow5:=aD (show ∀b,wo.heap.size<=b->b<wz.heap.size->(Value.slice L4 (ou.length+1) c4).ownBlock≠some b from λb h1 h2=>hn4 b Ac (ow3.out b h1 h2));have gx4:=hbq.trans ((bq4.mono Ac).trans hb4);go_wp2_with fail;go_roundw
        case rel=>exact ⟨m+1,_,L4,c4,by omega,by go_num,by rw [hl4],by rw [hl4];omega,by rw [hl4];exact hP4,rA4,rB4,by rw [hl4];exact ow4,by rw [hl4];exact ow5,hO2,gx4⟩
        case measure=>simp [intOf];omega
theorem aOn (r:Rs Tm)(want:Tm):∃q:Rs Unit,bd (some r) (λs=>some (tR s want))=some q:=by
 cases r with
 | no b=>exact ⟨_,rfl⟩
 | ok s=>exact ⟨_,rfl⟩
theorem aOe {N M:Nat}(h:N<=M){ctx:List Tm}{t want:Tm}:Le (gP (bE N) ctx t want) (gP (bE M) ctx t want):=cB (iQ h ctx t) λ_=>Le.refl _
theorem aIn {ctx:List Tm}(hG:SemG ctx)(t want:Tm):∃N q,gP (bE N) ctx t want=some q/\(xB ctx want t=true↔q = .ok ()):=by
 obtain ⟨N,r,hr⟩:=aOa t ctx hG;obtain ⟨q,hq⟩:=aOn r want;have h1:gP (bE N) ctx t want=some q:=by unfold gP;rw [hr];exact hq
 refine ⟨N,q,h1,λh=>?_,λh=>ckB_iff.2 ⟨N,by rw [h1,h]⟩⟩;obtain ⟨M,h2⟩:=ckB_iff.1 h;have a:=aOe (Nat.le_max_left N M) q h1;have b:=aOe (Nat.le_max_right N M) _ h2;rw [a] at b;exact Option.some.inj b
theorem aSv (q:Rs Unit){b:Bool}(h:b=true↔q = .ok ()):(q.cd==0)=b:=by
 cases q with
 | ok u=>cases u;rw [h.2 rfl];rfl
 | no x=>
  cases b with
  | false=>cases x<;>rfl
  | true=>cases h.1 rfl
theorem aGg (ctx:List Tm)(C:Ba)(cc:Nat)(k n:Int)(ks:List Tm)(A:Ba)(c:Nat)(w:Bb)(hz:aG ks<=1000000)(hv:aE (.mk k n ks)=false)(hra:Rd w A 0 ks) :
  Calls prog 74 #[.slice C ctx.length cc,.agg (Ro k n A ks.length c)] w λe w'=>e = .returned (.tuple #[.agg Zr,.int .i64 2])/\Bw w w':=by
 have hT:=aD (λ(w:Bb) (hra:Rd w A 0 ks)=>aR k n ks A c w Ac hra);rw [hv] at hT;clear hv;go_enter func74,ntmps74;go_wp2_with (go_at_call 41;refine (hT.out _ ((hra.alloc _).alloc _)).mono ?_;rintro e w1 ⟨rfl,hb1⟩;have hZ1:Blk w1 (w.heap.size+1) Zr:=(aC (n:=w.heap.size+1) (w.alloc (.cells (Ro k n A ks.length c) 32)) 32 Zr Ag).keep hb1;have g1:Bw w w1:=bN bw2 hb1;obtain ⟨d0,d1,d2,f0,f1,f2⟩:=bZ hZ1;have lz:=hZ1.lt);refine bodyPost_ret (v:=.tuple #[.agg Zr,.int .i64 2]) (by simp [results,results74,go_sem,d0,d1,d2]) rfl ⟨rfl,?_⟩;exact bV g1
theorem aGc (ctx:List Tm)(C:Ba)(cc:Nat)(k n:Int)(ks:List Tm)(A:Ba)(c:Nat)(k2 n2:Int)(s2:List Tm)(A2:Ba)(c2:Nat)(w:Bb)(hz:aG ks<=1000000)(hv:aE (.mk k n ks)=false)(hra:Rd w A 0 ks) :
  Calls prog 57 #[.slice C ctx.length cc,.agg (Ro k n A ks.length c),.agg (Ro k2 n2 A2 s2.length c2)] w λe w'=>e = .returned (.int .i64 2)/\Bw w w':=by
 have hI:=aD (λ(w:Bb) (hra:Rd w A 0 ks)=>aGg ctx C cc k n ks A c w hz hv hra);clear hv;go_enter func57,ntmps57;go_wp2_with (go_at_call 74;refine (hI.out _ ((hra.alloc _).alloc _)).mono ?_;rintro e w1 ⟨rfl,hb1⟩;have g1:Bw w w1:=bN bw2 hb1);go_ret;exact ⟨rfl,g1.alloc g1.size _⟩
theorem aGz (ctx:List Tm)(C:Ba)(cc:Nat)(k n:Int)(ks:List Tm)(A:Ba)(c:Nat)(k2 n2:Int)(s2:List Tm)(A2:Ba)(c2:Nat)(b:Bool)(w:Bb)(hb:xB ctx (.mk k2 n2 s2) (.mk k n ks)=b)(hG:SemG ctx)(hvc:∀u,u∈ctx->aE u=true)(hm:ctx.length<=21)(hz:aG ks<=1000000)(hs2:aG s2<=1000000)(hrc:Rd w C 0 ctx)(hra:Rd w A 0 ks)(hr2:Rd w A2 0 s2) :
  Calls prog 57 #[.slice C ctx.length cc,.agg (Ro k n A ks.length c),.agg (Ro k2 n2 A2 s2.length c2)] w λe w'=>∃co:Int,e = .returned (.int .i64 co)/\(co==0)=b/\Bw w w':=by
 cases hv:aE (.mk k n ks) with
 | false=>
  have:b=false:=by
   cases b with
   | false=>rfl
   | true=>rw [(ckB_iff.1 hb).valid] at hv;cases hv
  subst this;exact (aGc ctx C cc k n ks A c k2 n2 s2 A2 c2 w hz hv hra).mono λe w' h=>⟨2,h.1,rfl,h.2⟩
 | true=>
  obtain ⟨N,q,h1,h2⟩:=aIn hG (.mk k n ks) (.mk k2 n2 s2);rw [hb] at h2;exact (cI (sG N) ctx C cc k n ks A c k2 n2 s2 A2 c2 q w h1 hv hvc hm hrc hra hs2 hr2).mono λe w' h=>⟨q.cd,h.1,aSv q h2,h.2⟩
theorem aMj (d:Nat)(ihF:aAe d)(hd3:d<=10)(dd:Int)(hdd:dd=(d:Int)+1)(ctx:List Tm)(C:Ba)(cc:Nat)(hG:SemG ctx)(hvc:∀u,u∈ctx->aE u=true)(hm:ctx.length<=8)(k n:Int)(ks:List Tm)(A:Ba)(c:Nat)(w:Bb)(hv:aE (.mk k n ks)=true)(hok:aUx ctx (.mk k n ks))(hrc:Rd w C 0 ctx)(hr:Rd w A 0 ks) :
  Calls prog 56 #[.slice C ctx.length cc,.agg (Ro k n A ks.length c),.int .i64 dd] w (kX (λ_=>False) w (nJ (dZ d) ctx (.mk k n ks))):=by
 by_cases h6:k=6
 ·subst h6;exact aRr ctx C cc n dd ks A c w
 by_cases h10:k=10
 ·subst h10;obtain ⟨k0,x,y,rfl⟩:=gA (l:=ks) (by have:=(bD hv).1;have h3:aX 10=3:=rfl;omega);obtain ⟨kx,nx,sx⟩:=x;obtain ⟨ky,ny,sy⟩:=y;exact aOp ctx C cc n dd k0 kx nx sx ky ny sy A c w (aP hv (t:=.mk kx nx sx) Ag) (aP hv (t:=.mk ky ny sy) Ag) hr
 by_cases h3:k=3
 ·subst h3;obtain ⟨k',n',ka,na,sa,kb,nb,sb,e,hva,hvb⟩:=tD hv (.inl rfl);injection e with e1 e2 e3;subst e1 e2 e3;obtain ⟨h1,h2,_⟩:=hok (.inl rfl);exact aSe d ihF hd3 dd hdd ctx C cc hG hvc hm n ka na sa kb nb sb A c w hva hvb h1 h2 hrc hr
 by_cases h13:k=13
 ·subst h13;obtain ⟨k',n',ka,na,sa,kb,nb,sb,e,hva,hvb⟩:=tD hv (.inr rfl);injection e with e1 e2 e3;subst e1 e2 e3;obtain ⟨h1,_,h2⟩:=hok (.inr rfl);exact aQj d ihF hd3 dd hdd ctx C cc hG hvc hm n ka na sa kb nb sb A c w hva hvb h1 h2 hrc hr
 have e:nJ (dZ d) ctx (.mk k n ks)=[]:=by
  unfold nJ;rw [Aw (show ¬(Tm.mk k n ks).k=6 from h6),Aw (show ¬(Tm.mk k n ks).k=10 from h10),Aw (show ¬(Tm.mk k n ks).k=3 from h3),Aw (show ¬(Tm.mk k n ks).k=13 from h13)]
 rw [e];exact aGq ctx C cc k n dd ks A c w h6 h10 h3 h13
theorem aEz (F:List Tm->Tm->List Tm)(hF:∀c t,(F c t).length<=12)(ctx:List Tm)(h:Tm):(nJ F ctx h).length<=23:=by
 unfold nJ;split
 ·simp
 split
 ·split<;>simp
 split
 ·have:=hF (ctx++[aI h.ks 0]) (aI h.ks 1);simp;omega
 split
 ·exact yF (m:=12) (λx=>by have:=hF ctx (bT x 0 0 (aI h.ks 1));simpa using this) Ag
 ·simp
theorem aAl {F:List Tm->Tm->List Tm}(hF:∀{c t x},x∈F c t->aE x=true){ctx:List Tm}{h:Tm}(hv:aE h=true){t:Tm}(ht:t∈nJ F ctx h):t.size<=2000:=by
 have hs:=cL hv;have hk:∀i,(aI h.ks i).size<=400:=λi=>by
  obtain ⟨k,n,ks⟩:=h;by_cases hi:i<ks.length
  ·exact cL (aP hv (fG hi))
  ·show (aI ks i).size<=400;rw [fP (show ks.length<=i by omega)];decide
 unfold nJ at ht;split at ht
 ·rw [List.mem_singleton.1 ht];decide
 split at ht
 ·split at ht
  ·rw [List.mem_singleton.1 ht];have:=hk 1;simp only [Tm.size,aG];omega
  ·cases ht
 split at ht
 ·obtain ⟨x,hx,rfl⟩:=List.mem_map.1 ht;have:=cL (hF hx);have:=hk 0;simp only [Tm.size,aG];omega
 split at ht
 ·rcases yD ht with h1|⟨x,hx,h1⟩
  ·cases h1
  ·obtain ⟨y,hy,rfl⟩:=List.mem_map.1 h1;have:=cL (hF hx);have:=cL (hF hy);simp only [Tm.size,aG];omega
 ·cases ht
theorem zX {F:Tm->List Tm}{ctx:List Tm}{want t:Tm}{m:Nat}(ht:t∈kK F ctx want m):t.size<=2000:=by
 obtain ⟨j,_,hj⟩:=List.mem_flatMap.1 ht;unfold aGd at hj;split at hj
 ·have:=cL (xC hj);omega
 ·cases hj
end Go.Proofs.YtjlaenhcemacdaaGreat
