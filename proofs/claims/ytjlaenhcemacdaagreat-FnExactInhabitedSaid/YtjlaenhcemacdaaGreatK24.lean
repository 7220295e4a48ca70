/- Parts of the proof. No condition. -/
import Derived.Test.YtjlaenhcemacdaaGreatK21
import Derived.Test.YtjlaenhcemacdaaGreatK23
open Go.Proofs.Tryz
namespace Go.Proofs.YtjlaenhcemacdaaGreat
open Go.RowKit
set_option maxHeartbeats 8000000
set_option maxRecDepth 100000
set_option linter.unusedSimpArgs false
set_option linter.unusedVariables false
variable {T:List Tm->Tm->Prop}
theorem An.app_inv {σ ρ:Nat->Tm}{n:Int}{f u r:Tm}(h:An σ ρ (.mk 5 n [f,u]) r):∃rf m A B,An σ ρ f rf/\Hs rf (.mk 3 m [A,B])/\r=bT (ins σ u) 0 0 B:=by
 cases h with
 | app h1 h2=>exact ⟨_,_,_,_,h1,h2,rfl⟩
 | bnd hk=>rcases hk with hk|hk<;>cases hk
theorem An.lam_inv {σ ρ:Nat->Tm}{n:Int}{A b r:Tm}(h:An σ ρ (.mk 4 n [A,b]) r):∃u,An (lft σ) (lfa (ins σ A) ρ) b u/\r = .mk 3 0 [ins σ A,u]:=by
 cases h with
 | lam h1=>exact ⟨_,h1,rfl⟩
 | bnd hk=>rcases hk with hk|hk<;>cases hk
theorem ST.lam_inv {p:Nat->Tm}{n:Int}{A b r:Tm}(h:ST p (.mk 4 n [A,b]) r):∃u,ST (lfa A p) b u/\r = .mk 3 0 [A,u]:=by
 cases h with
 | lam h1=>exact ⟨_,h1,rfl⟩
 | bnd hk=>rcases hk with hk|hk<;>cases hk
theorem aVb (hT:TC T){G:List Tm}{m:Int}{f u sf su A B:Tm}(hf:Val T G f sf)(hh:Hs sf (.mk 3 m [A,B]))(hu:Val T G u su)(hM:Mt su A)(wf:cX f=true)(wu:cX u=true)(wsf:cX sf=true)(wsu:cX su=true):Val T G (.mk 5 0 [f,u]) (bT u 0 0 B):=λD σ ρ hS=>by
 obtain ⟨PF,h1,⟨rf,h2,h3⟩,h4,h5,h6⟩:=hf.get wf hS;obtain ⟨hs,wA,wB⟩:=nU (σ:=σ) (.inl rfl) hh wsf;obtain ⟨P1,P2,rfl,q1,q2⟩:=h1.pi_inv hs;obtain ⟨PU,g1,⟨ru,g2,g3⟩,g4,g5,g6⟩:=hu.get wu hS;obtain rfl:=g1.irr q1 (hM.ins σ wsu wA);have q3:=q2 [] _ _ g3 g5;rw [List.append_nil,kD] at q3;have e:ins σ (.mk 5 0 [f,u])=eH (ins σ f) (ins σ u):=by rw [dT Ah (by rfl)];rfl
 obtain ⟨m',X,Y,h7⟩:=h3.hs;refine ⟨P2 [] (ins σ u),by rw [vU σ wu wB];exact q3,⟨_,.app h2 h7⟩,λr hr=>?_,by rw [e];exact (TK.ap hT h5.tk g5.tk).at⟩;obtain ⟨rf',m2,X2,Y2,c1,c2,rfl⟩:=hr.app_inv;rw [e];exact (h4 _ c1).app c2 g3 g5
theorem aUo (hT:TC T){G:List Tm}{l:Int}{A a b ub:Tm}{ka:List Tm}(hA:Val T G A a)(ha:Hs a (.mk 2 l ka))(hb:Val T (G++[A]) b ub)(wA:cX A=true)(wa:cX a=true)(wb:cX b=true)(wu:cX ub=true):Val T G (.mk 4 0 [A,b]) (.mk 3 0 [A,ub]):=λD σ ρ hS=>by
 obtain ⟨P1,hR1⟩:=hA.rt wa ha hS;obtain ⟨PA,hA1,_,_,hA5,_⟩:=hA.get wA hS;have hl:=hS.lift hT hR1 wA;obtain ⟨P2,hP2⟩:=aOc (R:=λH u Q=>RT T (D++H) (bT u 0 0 (up1 H (ins (lft σ) ub))) Q) (λH u=>(∃q,P1 H u q)/\El T D P1 H u) λH u ⟨⟨q,hq⟩,he⟩=>by
  obtain ⟨Q,hQ,_⟩:=hb _ _ _ (aCs hS hR1 wA hq he);rw [pO H u σ wu];exact ⟨Q,hQ⟩
 have e1:ins σ (.mk 4 0 [A,b]) = .mk 4 0 [ins σ A,ins (lft σ) b]:=xG Ah;have e2:ins σ (.mk 3 0 [A,ub]) = .mk 3 0 [ins σ A,ins (lft σ) ub]:=xG Ah
 -- bodies in longer contexts
 have hbH:∀H,∃Q,RT T (D++H++[ins (λn=>up H (σ n)) A]) (ins (lft λn=>up H (σ n)) ub) Q/\(∃r,An (lft λn=>up H (σ n)) (lfa (ins (λn=>up H (σ n)) A) λn=>up H (ρ n)) b r/\Q [] (ins (lft λn=>up H (σ n)) b) r)/\
   (∀r,An (lft λn=>up H (σ n)) (lfa (ins (λn=>up H (σ n)) A) λn=>up H (ρ n)) b r->Q [] (ins (lft λn=>up H (σ n)) b) r)/\El T (D++H++[ins (λn=>up H (σ n)) A]) Q [] (ins (lft λn=>up H (σ n)) b)/\T (D++H++[ins (λn=>up H (σ n)) A]) (ins (lft λn=>up H (σ n)) b):=λH=>by
  have h7:=hR1.mono H;rw [gR H σ wA] at h7;exact hb.get wb ((hS.up H).lift hT h7 wA)
 have htk:TK T D (.mk 3 0 [ins σ A,ins (lft σ) ub]):=aGl hT (.inl rfl) hA5.tk λH=>by
  rw [gR H σ wA,sN H σ wu];obtain ⟨Q,h8,_⟩:=hbH H;exact h8.tk.at
 have hR:RT T D (.mk 3 0 [ins σ A,ins (lft σ) ub]) (PiP T D P1 P2):=.pi htk (.refl _) hR1 λH u q hq he=>hP2 H u ⟨⟨q,hq⟩,he⟩
 have hlam:TK T D (.mk 4 0 [ins σ A,ins (lft σ) b]):=λH=>by
  rw [aEw Ah,gR H σ wA,sN H σ wb];obtain ⟨Q,h8,_,_,h9,h10⟩:=hbH H;refine hT.lam _ _ _ _ ?_ h10 λu hu=>?_
  ·rw [<- gR H σ wA];exact hA5.tk H
  ·have:=h8.ptk (h9.st hu);rw [List.append_nil] at this;exact this.at
 have hmain:∀u1,An (lft σ) (lfa (ins σ A) ρ) b u1->PiP T D P1 P2 [] (.mk 4 0 [ins σ A,ins (lft σ) b]) (.mk 3 0 [ins σ A,u1]):=λu1 hu1=>by
  have htk1:TK T D (.mk 3 0 [ins σ A,u1]):=aGl hT (.inl rfl) hA5.tk λH=>by
   obtain ⟨Q,h8,_,h9,_⟩:=hbH H;have h10:=hu1.shb wb (m:=(H.length:Int)) Ac;have e3:bR (H.length:Int) 0 (ins σ A)=ins (λn=>up H (σ n)) A:=gR H σ wA;rw [e3] at h10;have:=h8.ptk (h9 _ h10);rw [List.append_nil] at this;rw [gR H σ wA];exact this.at
  refine ⟨by rw [List.append_nil];exact htk1,⟨0,_,_,.refl _,λH' u q hu he=>?_⟩,.inr ⟨_,_,.refl _⟩⟩;rw [List.nil_append] at hu he⊢
  -- the argument with the domain as its type
  have h7:=hR1.mono H';have hu0:=hu;have hua:P1 H' u (up H' (ins σ A)):=by
   have:=h7.ann h7 (.refl _) ((rJ _ _ _ _).2 hu);rwa [List.append_nil] at this
  have hSb:=aCs hS hR1 wA hua he;obtain ⟨Q,c1,_,c3,c4⟩:=hb _ _ _ hSb;have hPQ:Q=P2 H' u:=by
   have:=hP2 H' u ⟨⟨q,hu⟩,he⟩;rw [pO H' u σ wu] at this;exact c1.irr this (.refl _)
  subst hPQ;have e3:bR (H'.length:Int) 0 (ins σ A)=ins (λn=>up H' (σ n)) A:=gR H' σ wA
  -- the reduct
  have hst:cH (eH (up H' (.mk 4 0 [ins σ A,ins (lft σ) b])) u)=some (ins (sO u λn=>up H' (σ n)) b):=by
   rw [aEw Ah,<- pO H' u σ wb];exact fY (k:=5) (ks:=[.mk 4 0 [up H' (ins σ A),up1 H' (ins (lft σ) b)],u]) (show (1:Int)≠0 by decide)
  have hred:P2 H' u [] (ins (sO u λn=>up H' (σ n)) b) (bT u 0 0 (up1 H' u1)):=by
   have h10:=hu1.shb wb (m:=(H'.length:Int)) Ac;rw [e3] at h10;have h11:=h10.sub wb u;rw [<- gR H' σ wA] at h11;exact c3 _ h11
  refine c1.hed hT (.one hst) (TK.ap hT (hlam.up) he.1) (λs hs=>?_) hred;obtain ⟨r,m,X,Y,d1,d2,rfl⟩:=hs.ap_inv;rw [aEw Ah] at d1;obtain ⟨u2,d3,rfl⟩:=d1.lam_inv;have:=(Hs.refl (Tm.mk 3 0 [up H' (ins σ A),u2])).one_of d2 Ah Ah;injection this with _ _ x;injection x with _ x;injection x with x _;subst x;rw [sN H' σ wb,gR H' σ wA] at d3;obtain ⟨ρ',r1,r2⟩:=aIi (mX (D++H')) (λn=>up H' (σ n)) (λn=>up H' (ρ n));have d4:=(d3.an wb rfl (r1.lft _)).sub wb u;have h8:=hR1.mono H';rw [gR H' σ wA] at h8;rw [gR H' σ wA] at hua;have hS3:=((hS.up H').real r2).push h8 ((rJ _ _ _ _).2 hua) ((zW _ _ _ _).2 he) wA;obtain ⟨Q3,c5,_,c6,_⟩:=hb _ _ _ hS3;rw [c1.irr c5 (.refl _)];exact c6 _ d4
 refine ⟨PiP T D P1 P2,by rw [e2];exact hR,?_,λr hr=>?_,by rw [e1];exact hlam.at⟩
 ·obtain ⟨Q,h8,⟨r,h9,_⟩,_⟩:=hb.get wb hl;exact ⟨_,.lam h9⟩
 ·obtain ⟨u1,h8,rfl⟩:=hr.lam_inv;rw [e1];exact hmain u1 h8
variable {T:List Tm->Tm->Prop}
theorem An.idt_inv {σ ρ:Nat->Tm}{n:Int}{A x y r:Tm}(h:An σ ρ (.mk 10 n [A,x,y]) r):∃a i ka,An σ ρ A a/\Hs a (.mk 2 i ka)/\r = .mk 2 i []:=by
 cases h with
 | idt h1 h2=>exact ⟨_,_,_,h1,h2,rfl⟩
theorem An.rfx_inv {σ ρ:Nat->Tm}{n:Int}{b r:Tm}(h:An σ ρ (.mk 11 n [b]) r):∃rb,An σ ρ b rb/\r = .mk 10 0 [rb,ins σ b,ins σ b]:=by
 cases h with
 | rfx h1=>exact ⟨_,h1,rfl⟩
theorem An.elm_inv {σ ρ:Nat->Tm}{n:Int}{P z q m r:Tm}(h:An σ ρ (.mk 9 n [P,z,q,m]) r):r=eH (ins σ P) (ins σ m):=by
 cases h with
 | elm=>rfl
theorem An.mov_inv {σ ρ:Nat->Tm}{n:Int}{P e y r:Tm}(h:An σ ρ (.mk 12 n [P,e,y]) r):∃re m A x x',An σ ρ e re/\Hs re (.mk 10 m [A,x,x'])/\r=eH (ins σ P) x':=by
 cases h with
 | mov h1 h2=>exact ⟨_,_,_,_,_,h1,h2,rfl⟩
theorem ST.elm_inv {p:Nat->Tm}{n:Int}{P z q m r:Tm}(h:ST p (.mk 9 n [P,z,q,m]) r):r=eH P m:=by
 cases h with
 | elm=>rfl
theorem ST.mov_inv {p:Nat->Tm}{n:Int}{P e y r:Tm}(h:ST p (.mk 12 n [P,e,y]) r):∃re m A x x',ST p e re/\Hs re (.mk 10 m [A,x,x'])/\r=eH P x':=by
 cases h with
 | mov h1 h2=>exact ⟨_,_,_,_,_,h1,h2,rfl⟩
theorem tk3 (hT:TC T){D:List Tm}{k n:Int}{a b c:Tm}(hb:binds k=false)(hk:k≠11)(h1:TK T D a)(h2:TK T D b)(h3:TK T D c):TK T D (.mk k n [a,b,c]):=TK.node hT hb hk λi hi=>by
 have:i=0\/i=1\/i=2:=by have:i<3:=hi;omega
 rcases this with rfl|rfl|rfl
 ·exact h1
 ·exact h2
 ·exact h3
theorem tk4 (hT:TC T){D:List Tm}{k n:Int}{a b c d:Tm}(hb:binds k=false)(hk:k≠11)(h1:TK T D a)(h2:TK T D b)(h3:TK T D c)(h4:TK T D d):TK T D (.mk k n [a,b,c,d]):=TK.node hT hb hk λi hi=>by
 have:i=0\/i=1\/i=2\/i=3:=by have:i<4:=hi;omega
 rcases this with rfl|rfl|rfl|rfl
 ·exact h1
 ·exact h2
 ·exact h3
 ·exact h4
theorem Mt.ap {a a' b b':Tm}(h1:Mt a a')(h2:Mt b b'):Mt (eH a b) (eH a' b'):=Mt.kids rfl λi hi=>by
 have:i=0\/i=1:=by have:i<2:=hi;omega
 rcases this with rfl|rfl
 ·exact h1
 ·exact h2
theorem aUy (hT:TC T){G:List Tm}{i:Int}{A a x sx y sy:Tm}{ka:List Tm}(hA:Val T G A a)(ha:Hs a (.mk 2 i ka))(hx:Val T G x sx)(mx:Mt sx A)(hy:Val T G y sy)(my:Mt sy A)(wA:cX A=true)(wa:cX a=true)(wx:cX x=true)(wy:cX y=true)(wsx:cX sx=true)(wsy:cX sy=true):Val T G (.mk 10 0 [A,x,y]) (.mk 2 i []):=λD σ ρ hS=>by
 obtain ⟨i',rfl,hi,Q1,hQ1⟩:=hA.ty wa ha hS;have hR1:RT T D (ins σ A) Q1:=hQ1.lift Ac;obtain ⟨PA,h1,⟨ra,h2,h3⟩,h4,h5,h6⟩:=hA.get wA hS;obtain ⟨PX,x1,⟨rx,x2,x3⟩,x4,x5,x6⟩:=hx.get wx hS;obtain ⟨PY,y1,⟨ry,y2,y3⟩,y4,y5,y6⟩:=hy.get wy hS;obtain rfl:=x1.irr hR1 (mx.ins σ wsx wA);obtain rfl:=y1.irr hR1 (my.ins σ wsy wA);have hsA:∀{r:Tm},An σ ρ A r->∃ks,Hs r (.mk 2 (i':Int) ks):=λhr=>by
  obtain ⟨ka',h7⟩:=pV (σ:=σ) ha wa;obtain ⟨l,h8,h9,rfl⟩:=lE h1 h7;rw [h8];exact (h4 _ hr).2.1
 have e:ins σ (.mk 10 0 [A,x,y]) = .mk 10 0 [ins σ A,ins σ x,ins σ y]:=by rw [dT Ah (by rfl)];rfl
 have htk:TK T D (.mk 10 0 [ins σ A,ins σ x,ins σ y]):=tk3 hT (by rfl) Ah h5.tk x5.tk y5.tk;refine ⟨_,by rw [dT Ah (by rfl)];exact vX hT D hi,?_,λr hr=>?_,by rw [e];exact htk.at⟩
 ·obtain ⟨k1,h7⟩:=hsA h2;exact ⟨_,.idt h2 h7⟩
 ·obtain ⟨a2,i2,k2,c1,c2,rfl⟩:=hr.idt_inv;obtain ⟨k1,h7⟩:=hsA c1;have:=c2.one_of h7 (.inl rfl) (.inl rfl);injection this with _ this;subst this;rw [e];exact aIu hT hi (nP hT D _) (.refl _) (.idt htk (.refl _) hQ1 x3 x5 y3 y5)
theorem aVc (hT:TC T){G:List Tm}{b sb:Tm}(hb:Val T G b sb)(wb:cX b=true):Val T G (.mk 11 0 [b]) (.mk 10 0 [sb,b,b]):=λD σ ρ hS=>by
 obtain ⟨P,h1,⟨rb,h2,h3⟩,h4,h5,h6⟩:=hb.get wb hS;have e1:ins σ (.mk 11 0 [b]) = .mk 11 0 [ins σ b]:=by rw [dT Ah (by rfl)];rfl
 have e2:ins σ (.mk 10 0 [sb,b,b]) = .mk 10 0 [ins σ sb,ins σ b,ins σ b]:=by rw [dT Ah (by rfl)];rfl
 have htk:∀{r:Tm},TK T D r->TK T D (.mk 10 0 [r,ins σ b,ins σ b]):=λh=>tk3 hT (by rfl) Ah h h5.tk h5.tk
 refine ⟨_,by rw [e2];exact .idt (htk h1.tk) (.refl _) h1 h3 h5 h3 h5,⟨_,.rfx h2⟩,λr hr=>?_,?_⟩
 ·obtain ⟨rb',c1,rfl⟩:=hr.rfx_inv;rw [e1];have c2:=h1.ptk (h4 _ c1);rw [List.append_nil] at c2;refine ⟨by rw [List.append_nil];exact htk c2,⟨0,_,_,_,.refl _,by rw [fF];exact .refl _,by rw [fF];exact .refl _,λH'=>⟨⟨_,h1.pmono H' h3⟩,h1.emono H' h5⟩⟩,.inr ⟨0,_,.refl _,by rw [fF];exact .refl _,by rw [fF];exact .refl _⟩⟩
 ·rw [e1];refine hT.rfx _ _ _ h6 λs hs=>?_
  have:=h1.ptk (h5.st hs);rw [List.append_nil] at this;exact this.at
theorem Val.fam (hT:TC T){G:List Tm}{P sP A B:Tm}{m j:Int}{kb:List Tm}(hP:Val T G P sP)(hh:Hs sP (.mk 3 m [A,B]))(hB:Hs B (.mk 2 j kb))(wP:cX P=true)(wsP:cX sP=true){D:List Tm}{σ ρ:Nat->Tm}(hS:SS T D G σ ρ) :
  ∃P1,RT T D (ins σ A) P1/\TK T D (ins σ P)/\∀v q,P1 [] v q->El T D P1 [] v->∃Q,RT T D (eH (ins σ P) v) Q:=by
 obtain ⟨PF,h1,⟨rf,h2,h3⟩,h4,h5,h6⟩:=hP.get wP hS;obtain ⟨hs,wA,wB⟩:=nU (σ:=σ) (.inl rfl) hh wsP;obtain ⟨P1,P2,rfl,q1,q2⟩:=h1.pi_inv hs;refine ⟨P1,q1,h5.tk,λv q hv he=>?_⟩;have q3:=q2 [] _ _ hv he;rw [List.append_nil,kD] at q3;obtain ⟨kb',h7⟩:=pV (σ:=lft σ) hB wB;have h8:=(aOf v (x:=0) (d:=0) Ah Ah).hss 0 h7;simp only [Int.natCast_zero,Int.add_zero] at h8;rw [mN Ah] at h8;obtain ⟨m',X,Y,h9⟩:=h3.hs;obtain ⟨l,_,hl,Q,hQ⟩:=RT.ty q3 h8 (h3.app h9 hv he);exact ⟨Q,hQ.lift Ac⟩
theorem aMp {a b:Tm}(ha:cX a=true)(hb:cX b=true):cX (eH a b)=true:=by rw [eH];simp [cX,pI,ha,hb]
theorem aTb:cX (.mk 8 0 [.mk 1 1 []])=true:=rfl
theorem aVj (hT:TC T){G:List Tm}{P sP A B z sz q sq m sm:Tm}{mm j:Int}{kb:List Tm}(hP:Val T G P sP)(hh:Hs sP (.mk 3 mm [A,B]))(hA:Mt A nT)(hB:Hs B (.mk 2 j kb))
  (hz : Val T G z sz) (mz : Mt sz (eH P (.mk 7 0 []))) (hq : Val T G q sq) (mq : Mt sq (nM P)) (hm : Val T G m sm) (mm2 : Mt sm nT)
  (wP : cX P = true) (wsP : cX sP = true) (wz : cX z = true) (wsz : cX sz = true) (wq : cX q = true) (wsq : cX sq = true) (wm : cX m = true) (wsm : cX sm = true) : Val T G (.mk 9 0 [P, z, q, m]) (eH P m) := λD σ ρ hS => by
 obtain ⟨P1,f1,f2,f3⟩:=hP.fam hT hh hB wP wsP hS;obtain ⟨hs,wA,wB⟩:=nU (σ:=σ) (.inl rfl) hh wsP;have hAm:=hA.ins σ wA aNg;rw [aDb] at hAm;obtain rfl:=f1.irr (xA hT D) hAm;obtain ⟨PZ,z1,⟨rz,z2,z3⟩,z4,z5,z6⟩:=hz.get wz hS;obtain ⟨PQ,q1,⟨rq,q2,q3⟩,q4,q5,q6⟩:=hq.get wq hS;obtain ⟨⟨rm,m1,m2⟩,m3,m4⟩:=hm.num hT wm wsm mm2 hS;have eAp:∀t,ins σ (eH P t)=eH (ins σ P) (ins σ t):=λt=>by rw [eH,dT Ah (by rfl)];rfl
 have hzM:=mz.ins σ wsz (wf_iff.2 ⟨λe=>absurd e Ah,by simp [pI,wP,cX]⟩);rw [eAp] at hzM;have e0:ins σ (.mk 7 0 []) = .mk 7 0 []:=by rw [dT Ah (by rfl)];rfl
 rw [e0] at hzM;have wst:cX (.mk 3 0 [eH (bR 1 0 P) (.mk 1 0 []),eH (bR 2 0 P) (.mk 8 0 [.mk 1 1 []])])=true:=by
  have a1:=wf_sh.1 P 1 0 wP Ah;have a2:=wf_sh.1 P 2 0 wP Ah;have a3:=aMp a1 (show cX (.mk 1 0 [])=true from rfl);have a4:=aMp a2 aTb;exact wf_iff.2 ⟨λe=>absurd e Ah,by rw [pI,a3,pI,a4];rfl⟩
 have wS:cX (nM P)=true:=wf_iff.2 ⟨λe=>absurd e Ah,by rw [pI,aNg,pI,wst];rfl⟩;have hqM:=mq.ins σ wsq wS;have eS:ins σ (nM P) = .mk 3 0 [nT,ins (lft σ) (.mk 3 0 [eH (bR 1 0 P) (.mk 1 0 []),eH (bR 2 0 P) (.mk 8 0 [.mk 1 1 []])])]:=by
  rw [nM,xG Ah,aDb]
 rw [eS] at hqM
 -- the elimination of any number
 have htk:∀{v:Tm},TK T D v->TK T D (.mk 9 0 [ins σ P,ins σ z,ins σ q,v]):=λh=>tk4 hT (by rfl) Ah f2 z5.tk q5.tk h
 have hsE:∀{v v':Tm},Hs v v'->Hs (.mk 9 0 [ins σ P,ins σ z,ins σ q,v]) (.mk 9 0 [ins σ P,ins σ z,ins σ q,v']):=λh=>Hs.at (k:=9) (n:=0) Ah h (ks:=[ins σ P,ins σ z,ins σ q,_]) (mV _) rfl
 have key:∀v,Nt T D v->TK T D v->(∀s,ST (mX D) v s->NP T D [] v s)->∀Q,RT T D (eH (ins σ P) v) Q->Q [] (.mk 9 0 [ins σ P,ins σ z,ins σ q,v]) (eH (ins σ P) v):=by
  intro v hv;induction hv with
  | @zer v h=>
   intro tv _ Q hQ;have hM:Mt (eH (ins σ P) v) (eH (ins σ P) (.mk 7 0 [])):=Mt.ap (.refl _) h.ps.mt;have e2:PZ=Q:=z1.irr hQ (hzM.trans hM.symm);subst e2;have hgo:PZ [] (ins σ z) (eH (ins σ P) v):=z1.ann hQ (hzM.trans hM.symm) z3;refine hQ.hed hT ((hsE h).trans (.one (fY (k:=9) (ks:=[ins σ P,ins σ z,ins σ q,.mk 7 0 []]) (show (2:Int)≠0 by decide)))) (htk tv) (λs hs=>?_) hgo;rw [hs.elm_inv];exact hgo
  | @suc v m' h1 h2 h3 h4 ih=>
   intro tv _ Q hQ;have hNm:NP T D [] m' nT:=aJq (uG hT D 0) (.refl _) h4;have hEm:El T D (NP T D) [] m':=.mk h2 λs hs=>by
    obtain ⟨a1,n',ks',a2⟩:=h3 s hs;exact aJq a1 a2 h4
   obtain ⟨Qm,hQm⟩:=f3 m' _ hNm hEm;have hrec:=ih h2 (λs hs=>hEm.st hs) Qm hQm;have hErec:El T D Qm [] (.mk 9 0 [ins σ P,ins σ z,ins σ q,m']):=.mk (htk h2) λs hs=>by rw [hs.elm_inv];exact hrec
   obtain ⟨A1,B1,R1,R2,a1,rfl,a2,a3,a4,a5⟩:=q1.pi_of hqM;obtain rfl:=a2.irr (xA hT D) a4;have b1:=a3 [] m' _ hNm hEm;rw [List.append_nil,kD] at b1;have eY:bT m' 0 0 (ins (lft σ) (.mk 3 0 [eH (bR 1 0 P) (.mk 1 0 []),eH (bR 2 0 P) (.mk 8 0 [.mk 1 1 []])])) = .mk 3 0 [eH (ins σ P) m',ins (lft (sO m' σ)) (eH (bR 2 0 P) (.mk 8 0 [.mk 1 1 []]))]:=by
    rw [aBj _ _ wst,xG Ah];congr 2;rw [eH,dT Ah (by rfl)];simp only [List.map_cons,List.map_nil,eL];have:=tC 1 (sO m' σ) wP;rw [show ((1:Nat):Int)=1 from rfl] at this;rw [this];rfl
   have b2:Mt (bT m' 0 0 B1) (.mk 3 0 [eH (ins σ P) m',ins (lft (sO m' σ)) (eH (bR 2 0 P) (.mk 8 0 [.mk 1 1 []]))]):=by
    rw [<- eY];exact a5.sb m'
   obtain ⟨A2,B2,S1,S2,c1,c2,c3,c4,c5,c6⟩:=RT.pi_of b1 b2;obtain rfl:=c3.irr hQm c5;obtain ⟨k1,X1,Y1,d1⟩:=q3.hs;have d2:=q3.app d1 hNm hEm;rw [c2] at d2;obtain ⟨k2,X2,Y2,d3⟩:=d2.hs;have d4:=d2.app d3 hrec hErec;have g1:=c4 [] _ _ hrec hErec;rw [List.append_nil,kD] at g1;have wz2:cX (eH (bR 2 0 P) (.mk 8 0 [.mk 1 1 []]))=true:=by
    exact aMp (wf_sh.1 P 2 0 wP Ah) aTb
   have eZ:bT (.mk 9 0 [ins σ P,ins σ z,ins σ q,m']) 0 0 (ins (lft (sO m' σ)) (eH (bR 2 0 P) (.mk 8 0 [.mk 1 1 []])))=eH (ins σ P) (.mk 8 0 [m']):=by
    rw [aBj _ _ wz2,eH,dT Ah (by rfl)];simp only [List.map_cons,List.map_nil];have:=tC 2 (sO (.mk 9 0 [ins σ P,ins σ z,ins σ q,m']) (sO m' σ)) wP;rw [show ((2:Nat):Int)=2 from rfl] at this;rw [this,dT (k:=8) Ah (by rfl)];simp only [List.map_cons,List.map_nil,eL];rfl
   have g2:Mt (bT (.mk 9 0 [ins σ P,ins σ z,ins σ q,m']) 0 0 B2) (eH (ins σ P) v):=by
    have:=c6.sb (.mk 9 0 [ins σ P,ins σ z,ins σ q,m']);rw [eZ] at this;exact this.trans (Mt.ap (.refl _) h1.ps.mt.symm)
   have e2:S2 [] (.mk 9 0 [ins σ P,ins σ z,ins σ q,m'])=Q:=LR.irr g1 hQ g2;rw [e2] at d4;have hgo:Q [] (eH (eH (ins σ q) m') (.mk 9 0 [ins σ P,ins σ z,ins σ q,m'])) (eH (ins σ P) v):=hQ.ann hQ (.refl _) d4;refine hQ.hed hT ((hsE h1).trans (.one (fY (k:=9) (ks:=[ins σ P,ins σ z,ins σ q,.mk 8 0 [m']]) (show (3:Int)≠0 by decide)))) (htk tv) (λs hs=>?_) hgo;rw [hs.elm_inv];exact hgo
  | @ne v h=>
   intro tv _ Q hQ;obtain ⟨v0,n1,n2⟩:=h;refine hQ.ref hT hQ (.refl _) ⟨⟨_,hsE n1,.node (k:=9) Ah (mV _) n2⟩,htk tv,λs hs=>?_⟩;rw [hs.elm_inv];exact ⟨⟨Q,hQ⟩,.refl _⟩
 obtain ⟨Q,hQ⟩:=f3 _ _ m2 m3;have e:ins σ (.mk 9 0 [P,z,q,m]) = .mk 9 0 [ins σ P,ins σ z,ins σ q,ins σ m]:=by rw [dT Ah (by rfl)];rfl
 refine ⟨Q,by rw [eAp];exact hQ,⟨_,.elm⟩,λr hr=>?_,by rw [e];exact (htk m3.tk).at⟩;rw [hr.elm_inv,e];exact key _ (aGs m2).2.2 m3.tk (λs hs=>m3.st hs) Q hQ
theorem aVp (hT:TC T){G:List Tm}{P sP A2 B z sz e se A x y:Tm}{mm j me:Int}{kb:List Tm}(he:Val T G e se)(hhe:Hs se (.mk 10 me [A,x,y]))(hP:Val T G P sP)(hh:Hs sP (.mk 3 mm [A2,B]))(hA:Mt A2 A)(hB:Hs B (.mk 2 j kb))
  (hz : Val T G z sz) (mz : Mt sz (eH P x)) (wP : cX P = true) (wsP : cX sP = true) (wz : cX z = true) (wsz : cX sz = true) (we : cX e = true) (wse : cX se = true) : Val T G (.mk 12 0 [P, e, z]) (eH P y) := λD σ ρ hS => by
 obtain ⟨P1,f1,f2,f3⟩:=hP.fam hT hh hB wP wsP hS;obtain ⟨hs,wA2,wB⟩:=nU (σ:=σ) (.inl rfl) hh wsP;obtain ⟨hse,wA,wx,wy⟩:=aLn (σ:=σ) hhe wse;obtain ⟨PE,e1,⟨re,e2,e3⟩,e4,e5,e6⟩:=he.get we hS;obtain ⟨P1',rfl,i1,⟨qa,i2⟩,i3,⟨qb,i4⟩,i5⟩:=e1.id_inv hse;obtain rfl:=f1.irr i1 (hA.ins σ wA2 wA);obtain ⟨PZ,z1,⟨rz,z2,z3⟩,z4,z5,z6⟩:=hz.get wz hS;have eAp:∀t,ins σ (eH P t)=eH (ins σ P) (ins σ t):=λt=>by rw [eH,dT Ah (by rfl)];rfl
 have hzM:=mz.ins σ wsz (wf_iff.2 ⟨λe=>absurd e Ah,by simp [pI,wP,wx]⟩);rw [eAp] at hzM;obtain ⟨Q,hQ⟩:=f3 _ _ i4 i5;have e0:ins σ (.mk 12 0 [P,e,z]) = .mk 12 0 [ins σ P,ins σ e,ins σ z]:=by rw [dT Ah (by rfl)];rfl
 have htk:TK T D (.mk 12 0 [ins σ P,ins σ e,ins σ z]):=tk3 hT (by rfl) Ah f2 e5.tk z5.tk
 -- types that may be given
 have hty:∀{r:Tm} {m:Int} {X u u':Tm},IdP T D P1 (ins σ x) (ins σ y) [] (ins σ e) r->Hs r (.mk 10 m [X,u,u'])->∃Q',RT T D (eH (ins σ P) u') Q'/\Mt (eH (ins σ P) (ins σ y)) (eH (ins σ P) u'):=λhp hr=>by
  obtain ⟨_,⟨n1,X1,u1,u1',a1,a2,a3,a4⟩,_⟩:=hp;have:=a1.one_of hr Ah Ah;injection this with _ _ w;injection w with _ w;injection w with _ w;injection w with w _;subst w;obtain ⟨⟨q',a5⟩,a6⟩:=a4 [];rw [List.append_nil,fF] at a5 a6;obtain ⟨Q',hQ'⟩:=f3 _ _ a5 a6;rw [fF] at a3;exact ⟨Q',hQ',Mt.ap (.refl _) a3.symm⟩
 have hgood:∀{r:Tm} {m:Int} {X u u':Tm},IdP T D P1 (ins σ x) (ins σ y) [] (ins σ e) r->Hs r (.mk 10 m [X,u,u'])->Q [] (.mk 12 0 [ins σ P,ins σ e,ins σ z]) (eH (ins σ P) u'):=λhp hr=>by
  obtain ⟨Q',hQ',hM'⟩:=hty hp hr;rcases e3.2.2 with ⟨v0,n1,n2⟩|⟨n0,c,n1,n2,n3⟩
  ·refine hQ.ref hT hQ' hM' ⟨⟨_,Hs.at (k:=12) (n:=0) Ah n1 (ks:=[ins σ P,ins σ e,ins σ z]) (by show 1<3;omega) rfl,.node (k:=12) Ah (by show 1<3;omega) n2⟩,htk,λs hs=>?_⟩;obtain ⟨r2,m2,X2,u2,u2',b1,b2,rfl⟩:=hs.mov_inv;obtain ⟨Q2,hQ2,hM2⟩:=hty (e5.st b1) b2;exact ⟨⟨Q2,hQ2⟩,hM2.symm⟩
  ·rw [fF] at n2 n3;have hxy:Mt (eH (ins σ P) (ins σ x)) (eH (ins σ P) (ins σ y)):=Mt.ap (.refl _) (n2.symm.trans n3);have e7:PZ=Q:=z1.irr hQ (hzM.trans hxy);subst e7;have hh2:Hs (.mk 12 0 [ins σ P,ins σ e,ins σ z]) (ins σ z):=(Hs.at (k:=12) (n:=0) Ah n1 (ks:=[ins σ P,ins σ e,ins σ z]) (by show 1<3;omega) rfl).trans (.one (fY (k:=12) (ks:=[ins σ P,.mk 11 n0 [c],ins σ z]) (show (4:Int)≠0 by decide)));refine hQ.hed hT hh2 htk (λs hs=>?_) (hQ.ann hQ' hM' z3);obtain ⟨r2,m2,X2,u2,u2',b1,b2,rfl⟩:=hs.mov_inv;obtain ⟨Q2,hQ2,hM2⟩:=hty (e5.st b1) b2;exact hQ.ann hQ2 hM2 z3
 refine ⟨Q,by rw [eAp];exact hQ,?_,λr hr=>?_,by rw [e0];exact htk.at⟩
 ·obtain ⟨_,⟨n1,X1,u1,u1',a1,_⟩,_⟩:=e3;exact ⟨_,.mov e2 a1⟩
 ·obtain ⟨r2,m2,X2,u2,u2',b1,b2,rfl⟩:=hr.mov_inv;rw [e0];exact hgood (e4 _ b1) b2
variable {T:List Tm->Tm->Prop}
theorem An.pai_inv {σ ρ:Nat->Tm}{n:Int}{S a b r:Tm}(h:An σ ρ (.mk 14 n [S,a,b]) r):r=ins σ S:=by
 cases h with
 | pai=>rfl
theorem ST.pai_inv {p:Nat->Tm}{n:Int}{S a b r:Tm}(h:ST p (.mk 14 n [S,a,b]) r):r=S:=by
 cases h with
 | pai=>rfl
theorem An.fst_inv {σ ρ:Nat->Tm}{n:Int}{q r:Tm}(h:An σ ρ (.mk 15 n [q]) r):∃rq m A B,An σ ρ q rq/\Hs rq (.mk 13 m [A,B])/\r=A:=by
 cases h with
 | fst h1 h2=>exact ⟨_,_,_,_,h1,h2,rfl⟩
theorem An.snd_inv {σ ρ:Nat->Tm}{n:Int}{q r:Tm}(h:An σ ρ (.mk 16 n [q]) r):∃rq m A B,An σ ρ q rq/\Hs rq (.mk 13 m [A,B])/\r=bT (.mk 15 0 [ins σ q]) 0 0 B:=by
 cases h with
 | snd h1 h2=>exact ⟨_,_,_,_,h1,h2,rfl⟩
theorem SgP.hs {D:List Tm}{P1:Pd}{P2:List Tm->Tm->Pd}{f r:Tm}(h:SgP T D P1 P2 [] f r):∃m A B,Hs r (.mk 13 m [A,B]):=by
 obtain ⟨_,⟨n,A',B',h2,_⟩,_⟩:=h;exact ⟨n,A',B',h2⟩
theorem SgP.parts {D:List Tm}{P1:Pd}{P2:List Tm->Tm->Pd}{v r A B:Tm}{m:Int}(h:SgP T D P1 P2 [] v r)(hr:Hs r (.mk 13 m [A,B])):P1 [] (fs v) A/\El T D P1 [] (fs v)/\P2 [] (fs v) [] (sn v) (bT (fs v) 0 0 B):=by
 obtain ⟨_,⟨n,A',B',h2,h3⟩,_⟩:=h;have:=h2.one_of hr Ah Ah;injection this with _ _ e;injection e with e0 e;injection e with e _;subst e e0;obtain ⟨a1,a2,a3⟩:=h3 [];rw [List.append_nil,fF,fF,kD] at *;exact ⟨a1,a2,a3 _ _ a1 a2 (.refl _)⟩
theorem aTv (hT:TC T){G:List Tm}{m:Int}{p sp A B:Tm}(hp:Val T G p sp)(hh:Hs sp (.mk 13 m [A,B]))(wp:cX p=true)(wsp:cX sp=true):Val T G (.mk 15 0 [p]) A:=λD σ ρ hS=>by
 obtain ⟨P,h1,⟨rp,h2,h3⟩,h4,h5,h6⟩:=hp.get wp hS;obtain ⟨hs,wA,wB⟩:=nU (σ:=σ) (.inr rfl) hh wsp;obtain ⟨P1,P2,rfl,q1,q2⟩:=h1.sig_inv hs;have e:ins σ (.mk 15 0 [p])=fs (ins σ p):=by rw [dT Ah (by rfl)];rfl
 obtain ⟨m',X,Y,h7⟩:=h3.hs;refine ⟨P1,q1,⟨_,.fst h2 h7⟩,λr hr=>?_,by rw [e];exact (TK.fs hT h5.tk).at⟩;obtain ⟨rq,m2,X2,Y2,c1,c2,rfl⟩:=hr.fst_inv;rw [e];exact ((h4 _ c1).parts c2).1
theorem aUa (hT:TC T){G:List Tm}{m:Int}{p sp A B:Tm}(hp:Val T G p sp)(hh:Hs sp (.mk 13 m [A,B]))(wp:cX p=true)(wsp:cX sp=true):Val T G (.mk 16 0 [p]) (bT (.mk 15 0 [p]) 0 0 B):=λD σ ρ hS=>by
 obtain ⟨P,h1,⟨rp,h2,h3⟩,h4,h5,h6⟩:=hp.get wp hS;obtain ⟨hs,wA,wB⟩:=nU (σ:=σ) (.inr rfl) hh wsp;obtain ⟨P1,P2,rfl,q1,q2⟩:=h1.sig_inv hs;have e:ins σ (.mk 16 0 [p])=sn (ins σ p):=by rw [dT Ah (by rfl)];rfl
 have e1:ins σ (.mk 15 0 [p])=fs (ins σ p):=by rw [dT Ah (by rfl)];rfl
 obtain ⟨m',X,Y,h7⟩:=h3.hs;obtain ⟨a1,a2,a3⟩:=h3.parts h7;have q3:=q2 [] _ _ a1 a2;rw [List.append_nil,kD] at q3;have w15:cX (.mk 15 0 [p])=true:=wf_iff.2 ⟨λe=>absurd e Ah,by rw [pI,wp];rfl⟩;refine ⟨P2 [] (fs (ins σ p)),by rw [vU σ w15 wB,e1];exact q3,⟨_,.snd h2 h7⟩,λr hr=>?_,by rw [e];exact (vP hT h5.tk).at⟩;obtain ⟨rq,m2,X2,Y2,c1,c2,rfl⟩:=hr.snd_inv;rw [e];exact ((h4 _ c1).parts c2).2.2
theorem aTw (hT:TC T){G:List Tm}{m l:Int}{S s0 a sa b sb A B:Tm}{ka:List Tm}(hS0:Val T G S s0)(hs0:Hs s0 (.mk 2 l ka))(hh:Hs S (.mk 13 m [A,B]))(ha:Val T G a sa)(ma:Mt sa A)(hb:Val T G b sb)(mb:Mt sb (bT a 0 0 B))
  (wS : cX S = true) (ws0 : cX s0 = true) (wa : cX a = true) (wsa : cX sa = true) (wb : cX b = true) (wsb : cX sb = true) : Val T G (.mk 14 0 [S, a, b]) S := λD σ ρ hS => by
 obtain ⟨P,hR⟩:=hS0.rt ws0 hs0 hS;obtain ⟨PS,_,_,_,hS5,_⟩:=hS0.get wS hS;obtain ⟨hs,wA,wB⟩:=nU (σ:=σ) (.inr rfl) hh wS;obtain ⟨P1,P2,rfl,q1,q2⟩:=hR.sig_inv hs;obtain ⟨PA,a1,⟨ra,a2,a3⟩,a4,a5,a6⟩:=ha.get wa hS;obtain rfl:=a1.irr q1 (ma.ins σ wsa wA);obtain ⟨PB,b1,⟨rb,b2,b3⟩,b4,b5,b6⟩:=hb.get wb hS;have mb2:=mb.ins σ wsb (wf_sb.1 _ _ 0 0 wB wa Ah Ah);rw [vU σ wa wB] at mb2;have e:ins σ (.mk 14 0 [S,a,b]) = .mk 14 0 [ins σ S,ins σ a,ins σ b]:=by rw [dT Ah (by rfl)];rfl
 have htk:TK T D (.mk 14 0 [ins σ S,ins σ a,ins σ b]):=tk3 hT (by rfl) Ah hS5.tk a5.tk b5.tk;refine ⟨_,hR,⟨_,.pai⟩,λr hr=>?_,by rw [e];exact htk.at⟩;rw [hr.pai_inv,e];refine ⟨by rw [List.append_nil];exact hR.tk,⟨m,_,_,hs,λH'=>?_⟩,.inr ⟨_,_,.refl _⟩⟩;rw [List.nil_append];have hu:up H' (.mk 14 0 [ins σ S,ins σ a,ins σ b]) = .mk 14 0 [up H' (ins σ S),up H' (ins σ a),up H' (ins σ b)]:=aTj Ah (by rfl);have htk':=htk.up (H:=H');rw [hu] at htk'⊢;have hsS:=gZ (.inr (.inr rfl)) H' hs;have q1':=RT.mono q1 H'
 -- the first part
 have hf:Hs (fs (.mk 14 0 [up H' (ins σ S),up H' (ins σ a),up H' (ins σ b)])) (up H' (ins σ a)):=.one (fY (k:=15) (ks:=[.mk 14 0 [up H' (ins σ S),up H' (ins σ a),up H' (ins σ b)]]) (show (5:Int)≠0 by decide));have ha0:PA H' (up H' (ins σ a)) (up H' (ins σ A)):=by
  have h7:=a1.pmono H' a3;rw [List.nil_append] at h7;have h8:=RT.ann q1' q1' (.refl _) ((rJ PA H' _ _).2 h7);rwa [List.append_nil] at h8
 have hsf:∀s,ST (mX (D++H')) (fs (.mk 14 0 [up H' (ins σ S),up H' (ins σ a),up H' (ins σ b)])) s->s=up H' (ins σ A):=λs hs=>by
  obtain ⟨r,m2,X,Y,d1,d2,rfl⟩:=hs.fs_inv;rw [d1.pai_inv] at d2;have:=hsS.one_of d2 Ah Ah;injection this with _ _ w;injection w with w _;exact w.symm
 have hp1:PA H' (fs (.mk 14 0 [up H' (ins σ S),up H' (ins σ a),up H' (ins σ b)])) (up H' (ins σ A)):=by
  have:=RT.hed (h:=q1') hT hf (TK.fs hT htk') (λs hs=>by rw [hsf s hs];exact (rJ PA H' _ _).2 ha0) ((rJ PA H' _ _).2 ha0);rwa [List.append_nil] at this
 have he1:El T D PA H' (fs (.mk 14 0 [up H' (ins σ S),up H' (ins σ a),up H' (ins σ b)])):=⟨TK.fs hT htk',λs hs=>by rw [hsf s hs];exact hp1⟩;refine ⟨hp1,he1,λw q hw hew hmw=>?_⟩;have g1:=q2 H' _ _ hp1 he1;have g2:=q2 H' w q hw hew;have hmf:Mt (fs (.mk 14 0 [up H' (ins σ S),up H' (ins σ a),up H' (ins σ b)])) (up H' (ins σ a)):=hf.ps.mt;have b1':=b1.mono H';have hmB:Mt (up H' (ins σ sb)) (bT (fs (.mk 14 0 [up H' (ins σ S),up H' (ins σ a),up H' (ins σ b)])) 0 0 (up1 H' (ins (lft σ) B))):=by
  have:=mb2.up H';rw [aWu] at this;exact this.trans (hmf.symm.sbu _)
 have e2:(λH=>PB (H'++H))=P2 H' (fs (.mk 14 0 [up H' (ins σ S),up H' (ins σ a),up H' (ins σ b)])):=b1'.irr g1 hmB;have hb0:∀{w:Tm} {Q:Pd},RT T (D++H') (bT w 0 0 (up1 H' (ins (lft σ) B))) Q->Mt w (fs (.mk 14 0 [up H' (ins σ S),up H' (ins σ a),up H' (ins σ b)]))->P2 H' (fs (.mk 14 0 [up H' (ins σ S),up H' (ins σ a),up H' (ins σ b)])) [] (up H' (ins σ b)) (bT w 0 0 (up1 H' (ins (lft σ) B))):=λ{w Q} hQ hm=>by
  rw [<- e2];have h7:=b1.pmono H' b3;rw [List.nil_append] at h7;exact b1'.ann hQ (hmB.trans (hm.symm.sbu _)) ((rJ PB H' _ _).2 h7)
 have hs2:Hs (sn (.mk 14 0 [up H' (ins σ S),up H' (ins σ a),up H' (ins σ b)])) (up H' (ins σ b)):=.one (fY (k:=16) (ks:=[.mk 14 0 [up H' (ins σ S),up H' (ins σ a),up H' (ins σ b)]]) (show (6:Int)≠0 by decide));refine RT.hed hT g1 hs2 (vP hT htk') (λs hs=>?_) (hb0 g2 hmw);obtain ⟨r,m2,X,Y,d1,d2,rfl⟩:=hs.sn_inv;rw [d1.pai_inv] at d2;have:=hsS.one_of d2 Ah Ah;injection this with _ _ w;injection w with _ w;injection w with w _;subst w;exact hb0 g1 (.refl _)
theorem bI {N:Nat}{G:List Tm}{t s:Tm}(h:bE N G t=some (.ok s)):cX t=true/\cX s=true:=by
 obtain ⟨M,_,hv,_,hvs⟩:=pY h;exact ⟨kI hv,kI hvs⟩
theorem oN {N:Nat}{G:List Tm}{t:Tm}{l:Int}(h:iT (bE N) G t=some (.ok l)):∃a ka,bE N G t=some (.ok a)/\Hs a (.mk 2 l ka):=by
 obtain ⟨a,ka,h1,h2,_⟩:=tG h;exact ⟨a,ka,h1,h2⟩
theorem aDy {N:Nat}{G:List Tm}{P from_:Tm}(h:aFt (bE N) G P from_=some (.ok ())):∃sP m A B j kb,bE N G P=some (.ok sP)/\Hs sP (.mk 3 m [A,B])/\Mt A from_/\Hs B (.mk 2 j kb):=by
 obtain ⟨f,h1,h2⟩:=bM h;obtain ⟨_,h3,h4⟩:=bM h2;obtain ⟨o,h5,h6⟩:=bM h4;obtain ⟨sP,h7,h8,h9⟩:=oL h1;obtain ⟨m,hm⟩:=uC h8 h9 rfl;have hh:=kS h8;rw [hm] at hh;unfold aKg at h6;split at h6
 ·rename_i hk;obtain ⟨k,j,kb⟩:=o;have hk2:k=2:=hk;subst hk2;exact ⟨sP,m,_,_,j,kb,h7,hh,(aMo (Option.some.inj h3)).1,kS (Option.some.inj h5)⟩
 ·cases h6
theorem aOd (hT:TC T):∀(N:Nat) (G:List Tm) (t s:Tm),bE N G t=some (.ok s)->Val T G t s
 | 0,G,t,s,h=>by cases h
 | N+1,G,.mk k n ks,s,h=>by
  obtain ⟨M,hM,hv,hk,hvs⟩:=pY h;obtain rfl:N=M:=Nat.succ.inj hM;have ih:=aOd hT N;have h0:0<=n:=(bD hv).2.1;have hn:=(bD hv).2.2;rw [dU] at hk;by_cases h3:k=3\/k=13
  ·rw [Av h3] at hk;obtain ⟨a,b,rfl⟩:=kP (fI hv (m:=2) (by rcases h3 with rfl|rfl<;>rfl));obtain ⟨i,h1,hk⟩:=bM hk;obtain ⟨j,h2,hk⟩:=bM hk;obtain ⟨x,kx,h5,h6⟩:=oN h1;obtain ⟨y,ky,h7,h8⟩:=oN h2;obtain rfl:=bY hk;exact aTs hT h3 (ih _ _ _ h5) h6 (ih _ _ _ h7) h8 (bI h5).1 (bI h7).1 (bI h5).2 (bI h7).2
  rw [Aw h3] at hk;by_cases h4:k=4
  ·rw [Av h4] at hk;subst h4;obtain rfl:n=0:=by have:dL 4=0:=rfl;omega
   obtain ⟨a,b,rfl⟩:=kP (fI hv (m:=2) rfl);obtain ⟨i,h1,hk⟩:=bM hk;obtain ⟨u,h2,hk⟩:=bM hk;obtain ⟨_,_,hk⟩:=bM hk;obtain rfl:=bY hk;obtain ⟨x,kx,h5,h6⟩:=oN h1;exact aUo hT (ih _ _ _ h5) h6 (ih _ _ _ h2) (bI h5).1 (bI h5).2 (bI h2).1 (bI h2).2
  rw [Aw h4] at hk;by_cases h5:k=5
  ·rw [Av h5] at hk;subst h5;obtain rfl:n=0:=by have:dL 5=0:=rfl;omega
   obtain ⟨a,b,rfl⟩:=kP (fI hv (m:=2) rfl);obtain ⟨hd,h1,hk⟩:=bM hk;obtain ⟨_,h2,hk⟩:=bM hk;obtain rfl:=bY hk;obtain ⟨r,h6,h7,h8⟩:=oL h1;obtain ⟨m,hm⟩:=uC h7 h8 rfl;have hh:=kS h7;rw [hm] at hh;obtain ⟨su,h9,h10,_⟩:=fO h2;exact aVb hT (ih _ _ _ h6) hh (ih _ _ _ h9) h10 (bI h6).1 (bI h9).1 (bI h6).2 (bI h9).2
  rw [Aw h5] at hk;by_cases h9:k=9
  ·rw [Av h9] at hk;subst h9;obtain rfl:n=0:=by have:dL 9=0:=rfl;omega
   obtain ⟨a,b,c,d,rfl⟩:=wJ (fI hv (m:=4) rfl);obtain ⟨_,h1,hk⟩:=bM hk;obtain ⟨_,h2,hk⟩:=bM hk;obtain ⟨_,h3,hk⟩:=bM hk;obtain ⟨_,h4,hk⟩:=bM hk;obtain rfl:=bY hk;obtain ⟨sP,m,A,B,j,kb,f1,f2,f3,f4⟩:=aDy h1;obtain ⟨s1,c1,c2,_⟩:=fO h2;obtain ⟨s2,d1,d2,_⟩:=fO h3;obtain ⟨s3,e1,e2,_⟩:=fO h4;exact aVj hT (ih _ _ _ f1) f2 f3 f4 (ih _ _ _ c1) c2 (ih _ _ _ d1) d2 (ih _ _ _ e1) e2 (bI f1).1 (bI f1).2 (bI c1).1 (bI c1).2 (bI d1).1 (bI d1).2 (bI e1).1 (bI e1).2
  rw [Aw h9] at hk;by_cases h10:k=10
  ·rw [Av h10] at hk;subst h10;obtain rfl:n=0:=by have:dL 10=0:=rfl;omega
   obtain ⟨a,b,c,rfl⟩:=gA (fI hv (m:=3) rfl);obtain ⟨i,h1,hk⟩:=bM hk;obtain ⟨_,h2,hk⟩:=bM hk;obtain ⟨_,h3,hk⟩:=bM hk;obtain rfl:=bY hk;obtain ⟨x,kx,h5,h6⟩:=oN h1;obtain ⟨s1,c1,c2,_⟩:=fO h2;obtain ⟨s2,d1,d2,_⟩:=fO h3;exact aUy hT (ih _ _ _ h5) h6 (ih _ _ _ c1) c2 (ih _ _ _ d1) d2 (bI h5).1 (bI h5).2 (bI c1).1 (bI d1).1 (bI c1).2 (bI d1).2
  rw [Aw h10] at hk;by_cases h12:k=12
  ·rw [Av h12] at hk;subst h12;obtain rfl:n=0:=by have:dL 12=0:=rfl;omega
   obtain ⟨a,b,c,rfl⟩:=gA (fI hv (m:=3) rfl);obtain ⟨hd,h1,hk⟩:=bM hk;obtain ⟨_,h2,hk⟩:=bM hk;obtain ⟨_,h3,hk⟩:=bM hk;obtain rfl:=bY hk;obtain ⟨r,h6,h7,h8⟩:=oL h1;obtain ⟨m,hm⟩:=aFq h7 h8 rfl;have hh:=kS h7;rw [hm] at hh;obtain ⟨sP,m2,A,B,j,kb,f1,f2,f3,f4⟩:=aDy h2;obtain ⟨s1,c1,c2,_⟩:=fO h3;exact aVp hT (ih _ _ _ h6) hh (ih _ _ _ f1) f2 f3 f4 (ih _ _ _ c1) c2 (bI f1).1 (bI f1).2 (bI c1).1 (bI c1).2 (bI h6).1 (bI h6).2
  rw [Aw h12] at hk;by_cases h14:k=14
  ·rw [Av h14] at hk;subst h14;obtain rfl:n=0:=by have:dL 14=0:=rfl;omega
   obtain ⟨a,b,c,rfl⟩:=gA (fI hv (m:=3) rfl);obtain ⟨i,h1,hk⟩:=bM hk;obtain ⟨hd,h2,hk⟩:=bM hk;obtain ⟨hd2,h3,hk⟩:=bM hk;obtain ⟨_,h4,hk⟩:=bM hk;obtain ⟨_,h5,hk⟩:=bM hk;obtain rfl:=bY hk;obtain ⟨x,kx,h6,h7⟩:=oN h1;unfold lX at h3;split at h3
   ·rename_i hk13;obtain rfl:=bY h3;have h8:=Option.some.inj h2;obtain ⟨m,hm⟩:=uC h8 hk13 rfl;have hh:=kS h8;rw [hm] at hh;obtain ⟨s1,c1,c2,_⟩:=fO h4;obtain ⟨s2,d1,d2,_⟩:=fO h5;exact aTw hT (ih _ _ _ h6) h7 hh (ih _ _ _ c1) c2 (ih _ _ _ d1) d2 (bI h6).1 (bI h6).2 (bI c1).1 (bI c1).2 (bI d1).1 (bI d1).2
   ·cases h3
  rw [Aw h14] at hk;by_cases h1:k=1
  ·rw [Av h1] at hk;subst h1;unfold aEp at hk;split at hk
   ·cases hk
   ·rename_i hn;obtain rfl:=bY hk;have:=aUn (T:=T) (G:=G) (ks:=ks) h0 Ac;rw [mX,Av Ac,Int.toNat_of_nonneg h0] at this;exact this
  rw [Aw h1] at hk;by_cases h2:k=2
  ·rw [Av h2] at hk;subst h2;obtain rfl:=List.length_eq_zero_iff.1 (fI hv (m:=0) rfl);split at hk
   ·cases hk
   ·obtain rfl:=bY hk;exact aSo hT h0 Ac
  rw [Aw h2] at hk;by_cases h6:k=6
  ·rw [Av h6] at hk;subst h6;obtain rfl:=List.length_eq_zero_iff.1 (fI hv (m:=0) rfl);obtain rfl:n=0:=by have:dL 6=0:=rfl;omega
   obtain rfl:=bY hk;exact aTx hT
  rw [Aw h6] at hk;by_cases h7:k=7
  ·rw [Av h7] at hk;subst h7;obtain rfl:=List.length_eq_zero_iff.1 (fI hv (m:=0) rfl);obtain rfl:n=0:=by have:dL 7=0:=rfl;omega
   obtain rfl:=bY hk;exact aSg hT
  rw [Aw h7] at hk;by_cases h8:k=8
  ·rw [Av h8] at hk;subst h8;obtain rfl:n=0:=by have:dL 8=0:=rfl;omega
   obtain ⟨a,rfl⟩:=mB (fI hv (m:=1) rfl);obtain ⟨_,h4,hk⟩:=bM hk;obtain rfl:=bY hk;obtain ⟨s1,c1,c2,_⟩:=fO h4;exact aUg hT (ih _ _ _ c1) (bI c1).1 (bI c1).2 c2
  rw [Aw h8] at hk;by_cases h11:k=11
  ·rw [Av h11] at hk;subst h11;obtain rfl:n=0:=by have:dL 11=0:=rfl;omega
   obtain ⟨a,rfl⟩:=mB (fI hv (m:=1) rfl);obtain ⟨r,h1,hk⟩:=bM hk;obtain ⟨_,_,hk⟩:=bM hk;obtain rfl:=bY hk;exact aVc hT (ih _ _ _ h1) (bI h1).1
  rw [Aw h11] at hk;have ha:=(bD hv).1;obtain ⟨hd,h1,hk2⟩:=bM hk;obtain ⟨r,h6,h7,h8⟩:=oL h1;obtain ⟨m,hm⟩:=uC h7 h8 rfl;have hh:=kS h7;rw [hm] at hh;by_cases h15:k=15
  ·rw [Av h15] at hk2;subst h15;obtain rfl:n=0:=by have:dL 15=0:=rfl;omega
   obtain ⟨a,rfl⟩:=mB (fI hv (m:=1) rfl);obtain rfl:=bY hk2;exact aTv hT (ih _ _ _ h6) hh (bI h6).1 (bI h6).2
  ·rw [Aw h15] at hk2;have h16:k=16:=by
    apply Classical.byContradiction
    intro h16;have:aX k = -1:=by unfold aX;repeat' (first|rw [Aw Ac]|rfl)
    omega
   subst h16;obtain rfl:n=0:=by have:dL 16=0:=rfl;omega
   obtain ⟨a,rfl⟩:=mB (fI hv (m:=1) rfl);obtain rfl:=bY hk2;exact aUa hT (ih _ _ _ h6) hh (bI h6).1 (bI h6).2
theorem uL {G:List Tm}{k:Int}{ks:List Tm}{i:Nat}(h:¬(i=1/\binds k=true)):cxo G k ks i=G:=Aw h
theorem qI:TC Ends where
 node D k n ks hb hk h:=by
  refine iR (λi _=>?_) (λe=>by subst e;cases hb) (λe=>absurd e hk);rw [uL (by rw [hb];rintro ⟨_,h⟩;cases h)];by_cases hi:i<ks.length
  ·exact h i hi
  ·rw [fP Ac];exact gU _
 rfx D n b hb hs:=by
  refine iR (λi _=>?_) (λe=>absurd e Ah) (λ_ N u hu=>hs u (uD N D b u hu));rw [uL (by rintro ⟨_,h⟩;cases h)];cases i with
  | zero=>exact hb
  | succ i=>exact gU _
 bnd D k n A B hk hA hB:=by
  refine iR (λi hi=>?_) (λe=>by omega) (λe=>by omega);rcases (show i=0\/i=1\/i=2\/i=3 by omega) with rfl|rfl|rfl|rfl
  ·exact hA
  ·rw [cxo,Av ⟨rfl,by rcases hk with rfl|rfl<;>rfl⟩];exact hB
  ·exact gU _
  ·exact gU _
 lam D n A b hA hb hu:=by
  refine iR (λi hi=>?_) (λ_ N u h=>hu u (uD N _ b u h)) (λe=>absurd e Ah);rcases (show i=0\/i=1\/i=2\/i=3 by omega) with rfl|rfl|rfl|rfl
  ·exact hA
  ·exact hb
  ·exact gU _
  ·exact gU _
inductive CxG:List Tm->Prop
 | nil:CxG []
 | snoc {G:List Tm} {A:Tm} {N:Nat} {l:Int}:CxG G->iT (bE N) G A=some (.ok l)->CxG (G++[A])
theorem aHg:lft idS=idS:=by
 funext n
 cases n with
 | zero=>rfl
 | succ n=>show bR 1 0 (.mk 1 (n:Int) [])=_;rw [kU Ac,bK];rfl
theorem CxG.ss {T:List Tm->Tm->Prop}(hT:TC T){G:List Tm}(h:CxG G):SS T G G idS (mX G):=by
 induction h with
 | nil=>exact .nil
 | @snoc G A N l h1 h2 ih=>
  obtain ⟨a,ka,h3,h4⟩:=oN h2;have hw:=(bI h3).1;obtain ⟨P,hP⟩:=(aOd hT N G A a h3).rt (bI h3).2 h4 ih;have h5:=ih.lift hT hP hw;have e:ins idS A=A:=ins_id.1 A idS hw λ_=>rfl
  rw [e,aHg,<- kH] at h5;exact h5
theorem aIo (G:List Tm):RealT (mX G) idS (mX G):=λn u hu=>by
 cases hu with
 | var _=>rw [Int.toNat_natCast]
theorem CxG.typed {T:List Tm->Tm->Prop}(hT:TC T){G:List Tm}(h:CxG G){N:Nat}{t s:Tm}(ht:bE N G t=some (.ok s)):∃P,RT T G s P/\P [] t s/\TK T G t/\TK T G s:=by
 obtain ⟨wt,ws⟩:=bI ht;obtain ⟨P,h1,h2,h3,h4,h5⟩:=(aOd hT N G t s ht).get wt (h.ss hT);have e:∀{t:Tm},cX t=true->ins idS t=t:=λhw=>ins_id.1 _ idS hw λ_=>rfl
 rw [e ws] at h1;rw [e wt] at h3 h4;exact ⟨P,h1,h3 _ ((uD N G t s ht).an wt (e wt) (aIo G)),h4.tk,h1.tk⟩
theorem aIk {G:List Tm}{t:Tm}{N:Nat}{b:Bool}(h:dU (bE N) G t=some (.no b)):Ends G t:=by
 refine ⟨N+1,?_⟩;rw [bE];split
 ·rw [h];exact ⟨_,rfl⟩
 ·exact ⟨_,rfl⟩
theorem aEn:∀(t:Tm) (G:List Tm),CxG G->Ends G t:=by
 refine jG λk n ks ih G hG=>?_
 have hk:∀i,¬(i=1/\binds k=true)->Ends (cxo G k ks i) (aI ks i):=λi hi=>by
  rw [uL hi];by_cases h:i<ks.length
  ·exact ih _ (fG h) G hG
  ·rw [fP Ac];exact gU _
 by_cases hb:binds k=true
 ·have h0:=hk 0 (by rintro ⟨h,_⟩;cases h);rw [uL (by rintro ⟨h,_⟩;cases h)] at h0;obtain ⟨N,r,hr⟩:=h0;obtain ⟨q,hq⟩:∃q,iT (bE N) G (aI ks 0)=some q:=by
   rw [iT,hr];cases r with
   | no b=>exact ⟨_,rfl⟩
   | ok s=>
    show ∃q,bd (some (jB s)) tB=some q;cases jB s with
    | no b=>exact ⟨_,rfl⟩
    | ok h=>show ∃q,tB h=some q;unfold tB;split<;>exact ⟨_,rfl⟩
  have hk3:k=3\/k=4\/k=13:=by
   simp only [binds,Bool.or_eq_true,beq_iff_eq] at hb;omega
  cases q with
  | no b=>
   refine aIk (N:=N) (b:=b) ?_;rw [dU];by_cases h3:k=3\/k=13
   ·rw [Av h3,yR,hq];rfl
   ·rw [Aw h3,Av Ac,aKl,hq];rfl
  | ok l=>
   have hG2:CxG (G++[aI ks 0]):=.snoc hG hq;refine iR (λi hi=>?_) (λ_ M u hu=>?_) (λe=>by omega)
   ·by_cases h1:i=1
    ·subst h1;rw [cxo,Av ⟨rfl,hb⟩];by_cases h:1<ks.length
     ·exact ih _ (fG h) _ hG2
     ·have e1:aI ks 1=default:=fP Ac;rw [e1];exact gU _
    ·exact hk i λh=>h1 h.1
   ·obtain ⟨P,_,_,_,h5⟩:=hG2.typed qI hu;exact h5.at
 ·refine iR (λi hi=>hk i λh=>hb h.2) (λe=>by subst e;exact absurd rfl hb) (λ_ M u hu=>?_);obtain ⟨P,_,_,_,h5⟩:=hG.typed qI hu;exact h5.at
def yl (want:Tm):Nat->Tm->Option (List Tm)
 | 0,_=>none
 | m+1,t=>if aE t=true then (match jB t with
  | .ok h=>if dJ 200 h want=1 then some [] else if h.k=3/\qW 0 (aI h.ks 1)=0 then (yl want m (bR (-1) 0 (aI h.ks 1))).map (aI h.ks 0::·) else none
  | .no _=>none) else none
def ylI (n:Int):Option (List Tm)->Int|some l=>n+l.length|none=> -1
theorem aBi {want t:Tm}(h:aE t=false)(m:Nat):yl want m t=none:=by
 cases m with
 | zero=>rfl
 | succ m=>rw [yl,Aw (by rw [h];decide)]
theorem aJp {want t:Tm}{b:Bool}(h:jB t = .no b)(m:Nat):yl want m t=none:=by
 cases m with
 | zero=>rfl
 | succ m=>
  rw [yl];split
  ·rw [h]
  ·rfl
theorem aCc {want t h:Tm}(hh:jB t = .ok h)(hc:dJ 200 h want=1)(m:Nat):yl want (m+1) t=some []:=by
 rw [yl,Av (cR hh).1,hh];show (if dJ 200 h want=1 then some [] else _)=some [];rw [Av hc]
theorem tS {want t h:Tm}(hh:jB t = .ok h)(hc:dJ 200 h want≠1)(hk:¬(h.k=3/\qW 0 (aI h.ks 1)=0))(m:Nat):yl want (m+1) t=none:=by
 rw [yl,Av (cR hh).1,hh];show (if dJ 200 h want=1 then some [] else if h.k=3/\qW 0 (aI h.ks 1)=0 then _ else none)=none;rw [Aw hc,Aw hk]
theorem wC {want t h:Tm}(hh:jB t = .ok h)(hc:dJ 200 h want≠1)(hk:h.k=3/\qW 0 (aI h.ks 1)=0)(m:Nat):yl want (m+1) t=(yl want m (bR (-1) 0 (aI h.ks 1))).map (aI h.ks 0::·):=by
 rw [yl,Av (cR hh).1,hh];show (if dJ 200 h want=1 then some [] else if h.k=3/\qW 0 (aI h.ks 1)=0 then _ else none)=_;rw [Aw hc,Av hk]
theorem aPz (n:Int)(a:Tm)(o:Option (List Tm)):ylI n (o.map (a::·))=ylI (n+1) o:=by
 cases o with
 | none=>rfl
 | some l=>show n+((a::l).length:Int)=n+1+l.length;rw [List.length_cons];push_cast;omega
theorem tm_kp:(∀(t:Tm) (d:Int),qW d t=0->kpS 1 d t=true)/\(∀(ts:List Tm) (d k:Int) (i:Nat),pU d k i ts=0->yW 1 k d i ts=true):=by
 refine bA (λk n ks ih d h=>?_) (λd k i _=>by rw [yW]) (λt ts h1 h2 d k i h=>?_)
 ·rw [qW] at h;have h0:=(tm_le.2 ks d k 0).1;rw [kpS];by_cases hc:k=1/\n=d
  ·rw [Av hc] at h;omega
  ·rw [Aw hc] at h;rw [Aw (by rintro ⟨e,h3,h4⟩;exact hc ⟨e,by omega⟩)];exact ih d k 0 Ac
 ·rw [pU] at h;have a1:=(tm_le.1 t (d+aN k i)).1;have a2:=(tm_le.2 ts d k (i+1)).1;rw [yW,h1 _ Ac,h2 _ _ _ Ac];rfl
theorem aIv {b:Tm}(hv:aE b=true)(h:qW 0 b=0):bJ (-1) 0 b=some (bR (-1) 0 b)/\aE (bR (-1) 0 b)=true:=by
 have h1:=aFe (dp:=1) Ac hv;rw [Av (tm_kp.1 b 0 h)] at h1;exact ⟨h1,kA h1⟩
theorem xO {t h:Tm}(hh:jB t = .ok h)(hk:h.k=3):∃n ka na sa kb nb sb,h = .mk 3 n [.mk ka na sa,.mk kb nb sb]/\aE (.mk ka na sa)=true/\aE (.mk kb nb sb)=true:=by
 have hv:=(cR hh).2.1;obtain ⟨k,n,s⟩:=h;obtain rfl:k=3:=hk;obtain ⟨a,b,rfl⟩:=kP (l:=s) (by have:=(bD hv).1;have h3:aX 3=2:=rfl;omega);obtain ⟨ka,na,sa⟩:=a;obtain ⟨kb,nb,sb⟩:=b;exact ⟨n,ka,na,sa,kb,nb,sb,rfl,aP hv (t:=.mk ka na sa) Ag,aP hv (t:=.mk kb nb sb) Ag⟩
def GtL (w:Bb):Option (List Tm)->Ending->Bb->Prop
 | some l=>λe w'=>∃B b,e = .returned (.tuple #[.slice B l.length b,.bool true])/\l.length<=b/\Rd w' B 0 l/\Bw w w'
 | none=>λe w'=>e = .returned (.tuple #[.slice none 0 0,.bool false])/\Bw w w'
theorem PartR.ownL {lo:Nat->Prop}{B:Nat}{w:Bb}{v:Value}{ts:List Tm}(h:PartR lo B w v ts):∀g,v.ownBlock=some g->g<w.heap.size:=λg hg=>by
 obtain ⟨xs,h1,_⟩:=h;exact (h1.lt g hg).2
theorem PartR.cap {lo:Nat->Prop}{B:Nat}{w:Bb}{L:Ba}{m c:Nat}{ts:List Tm}(h:PartR lo B w (.slice L m c) ts):ts.length<=c:=by
 obtain ⟨xs,h1,_⟩:=h;rcases h1.2 with ⟨e,h0⟩|⟨g,cap,cur,e,_,_,h4,_⟩
 ·omega
 ·injection e with _ _ e3;omega
theorem aDj (k n:Int)(ks:List Tm)(A:Ba)(c:Nat)(k2 n2:Int)(s2:List Tm)(A2:Ba)(c2:Nat)(w:Bb)(hv:aE (.mk k n ks)=true)(hv2:aE (.mk k2 n2 s2)=true)(hr:Rd w A 0 ks)(hr2:Rd w A2 0 s2) :
  Calls prog 33 #[.agg (Ro k n A ks.length c),.agg (Ro k2 n2 A2 s2.length c2)] w (GtL w (yl (.mk k2 n2 s2) 4 (.mk k n ks))):=by
 obtain ⟨R,hR⟩:∃R,yl (.mk k2 n2 s2) 4 (.mk k n ks)=R:=⟨_,rfl⟩;rw [hR];have hR':=aD hR;have hvt:=aD hv;have hv2':=aD hv2;have hz2:=aH hv2;clear hR hv2 hv;go_enter func33,ntmps33;go_wp2_with fail;go_loopw [6] (λs wr=>∃(m:Nat) (k n:Int) (ks:List Tm) (A:Ba) (c:Nat) (l:List Tm) (L:Ba) (cl:Nat),1<=m/\l.length+m=4/\s = .slice L l.length cl/\PartR (λ_=>False) (w.heap.size+2) wr (.slice L l.length cl) l/\Blk wr w.heap.size (Ro k n A ks.length c)/\Blk wr (w.heap.size+1) (Ro k2 n2 A2 s2.length c2)/\RdP (·≠w.heap.size) wr A 0 ks/\Hid (aE (.mk k n ks)=true)/\Hid ((yl (.mk k2 n2 s2) m (.mk k n ks)).map (l++·)=R)/\Bw w wr)
  (λs _ => match s with | .slice _ l _ => 4 - l | _ => 0)
 case atStart=>exact ⟨4,k,n,ks,A,c,[],none,0,by omega,by simp,rfl,PartR.nil,((aC _ _ _ rfl).alloc _),aC _ _ _ Ag,((hr.rdp.mono (λb hb=>by have hb:b<w.heap.size:=hb;show b≠_;omega)).alloc _).alloc _,hvt,aD (by rw [hR'.out];cases R<;>rfl),bw2⟩
 case round=>
  clear hR' hvt hr;obtain ⟨m,k,n,ks,A,c,l,L,cl,hm1,hlm,rfl,hP,hB1,hB2,hrp,hvt,hR',hb⟩:=hrel;have hra:=hrp.rd;obtain ⟨b0,b1,b2⟩:=hB1.three;obtain ⟨m,rfl⟩:∃m',m=m'+1:=⟨m - 1,by omega⟩;have tok0:=trivial;cases hh:jB (.mk k n ks) with
  | no b=>
   have hRv:=hR'.out;rw [aJp hh] at hRv;have hRv:none=R:=hRv;obtain ⟨_,co,hco,hco2⟩:=aBn hvt.out hh;have hH:=aD (λ(w:Bb) (A:Ba) (c:Nat) (hr:Rd w A 0 ks)=>by have:=iF k n ks A c 200 w hvt.out Ac hr;rw [hco] at this;exact this);have qb:(co != 0)=true:=by simpa using hco2
   clear hR' hh;subst hRv;go_wp2_with (go_at_call 51;have _t:=tok0;refine (hH.out _ A c hra).mono ?_;rintro e w2 ⟨k3,n3,s3,A3,c3,_,rfl,_,_,hb2⟩;have g2:=(hb.trans (hb2.mono hb.size)).alloc (by have:=hb.size;have:=hb2.size;omega) (.cells (Ro k3 n3 A3 s3.length c3) 32));go_ret2;exact ⟨rfl,g2⟩
  | ok h=>
   obtain ⟨kh,nh,sh⟩:=h;have hvh:=(cR hh).2.1;have hre:=(cR hh).2.2;have hH:=aD (show ∀(w:Bb) (A:Ba) (c:Nat) (hr:Rd w A 0 ks),Calls prog 51 #[.agg (Ro k n A ks.length c),.int .i64 200] w λe w'=>∃A3 c3,e = .returned (.tuple #[.agg (Ro kh nh A3 sh.length c3),.int .i64 0])/\sh.length<=9223372036854775807/\RdP (λb=>w.heap.size<=b) w' A3 0 sh/\Bw w w' from λw A c hr=>by
    have:=iF k n ks A c 200 w hvt.out Ac hr;rw [hre] at this;refine this.mono λe w' hg=>?_
    obtain ⟨k3,n3,s3,A3,c3,h1,h2,h3,h4,h5⟩:=hg;injection (show Tm.mk kh nh sh = .mk k3 n3 s3 from h1) with e1 e2 e3;subst e1 e2 e3;exact ⟨A3,c3,h2,h3,h4,h5⟩)
   have hS0:=λ(w:Bb) (A3:Ba) (c3:Nat) (hr:Rd w A3 0 sh) (hr2:Rd w A2 0 s2)=>qN kh nh sh A3 c3 k2 n2 s2 A2 c2 200 w Ac hvh hv2'.out hr hr2
   by_cases hc:dJ 200 (.mk kh nh sh) (.mk k2 n2 s2)=1
   ·have hRv:=hR'.out;rw [aCc hh hc] at hRv;have hRv:some (l++[])=R:=hRv;rw [List.append_nil] at hRv;rw [hc] at hS0;have hS:=aD hS0;subst hRv;clear hR' hh hc hS0 hre;go_wp2_with (first
     | (go_at_call 52;have _t:=tok2;refine (hS.out _ A3 c3 r4.rd (hr2.below g3)).mono ?_;rintro e w4 ⟨rfl,hb4⟩;have g4:=g3.trans (hb4.mono g3.size);have hJ4:=hJ.keep hb4;have hB14:=hB13.keep hb4;have hB24:=hB23.keep hb4;have hP4:=hP3.below hb4;have tok3:=trivial)
     | (go_at_call 51;have _t:=tok0;refine (hH.out _ A c hra).mono ?_;rintro e w2 ⟨A3,c3,rfl,hl3,r3,hb2⟩;have g2:=hb.trans (hb2.mono hb.size);have hJ:=aC w2 32 (Ro kh nh A3 sh.length c3) rfl;have g3:=g2.alloc g2.size (.cells (Ro kh nh A3 sh.length c3) 32);have r4:=r3.alloc (.cells (Ro kh nh A3 sh.length c3) 32);have hB13:=(hB1.keep hb2).alloc (.cells (Ro kh nh A3 sh.length c3) 32);have hB23:=(hB2.keep hb2).alloc (.cells (Ro kh nh A3 sh.length c3) 32);have hP3:=(hP.below hb2).alloc (.cells (Ro kh nh A3 sh.length c3) 32);obtain ⟨v0,v1,v2⟩:=hJ.three;obtain ⟨z0,z1,z2⟩:=hB23.three;have tok2:=trivial))
    go_ret2;obtain ⟨A',c',he,hrd⟩:=hP4.rd;injection he with e1 e2 e3;subst e1 e3;exact ⟨L,cl,rfl,hP4.cap,hrd.rd,g4⟩
   ·have hS:=aD hS0;have qc:(dJ 200 (.mk kh nh sh) (.mk k2 n2 s2)==1)=false:=by simpa using hc
    have qc':=aD hc;clear hS0;by_cases h3:kh=3;rotate_left
    ·have hRv:=hR'.out;rw [tS hh hc (λh=>h3 h.1)] at hRv;have hRv:none=R:=hRv;have q3:(kh != 3)=true:=by simpa using h3
     generalize dJ 200 (.mk kh nh sh) (.mk k2 n2 s2)=cv at *
     subst hRv;clear hR' hh hc h3 hre qc';go_wp2_with (first
      | (go_at_call 52;have _t:=tok2;refine (hS.out _ A3 c3 r4.rd (hr2.below g3)).mono ?_;rintro e w4 ⟨rfl,hb4⟩;have g4:=g3.trans (hb4.mono g3.size);have hJ4:=hJ.keep hb4;have hB14:=hB13.keep hb4;have hB24:=hB23.keep hb4;have hP4:=hP3.below hb4;clear v0 v1 v2;obtain ⟨v0,v1,v2⟩:=hJ4.three;have tok3:=trivial)
      | (go_at_call 51;have _t:=tok0;refine (hH.out _ A c hra).mono ?_;rintro e w2 ⟨A3,c3,rfl,hl3,r3,hb2⟩;have g2:=hb.trans (hb2.mono hb.size);have hJ:=aC w2 32 (Ro kh nh A3 sh.length c3) rfl;have g3:=g2.alloc g2.size (.cells (Ro kh nh A3 sh.length c3) 32);have r4:=r3.alloc (.cells (Ro kh nh A3 sh.length c3) 32);have hB13:=(hB1.keep hb2).alloc (.cells (Ro kh nh A3 sh.length c3) 32);have hB23:=(hB2.keep hb2).alloc (.cells (Ro kh nh A3 sh.length c3) 32);have hP3:=(hP.below hb2).alloc (.cells (Ro kh nh A3 sh.length c3) 32);obtain ⟨v0,v1,v2⟩:=hJ.three;obtain ⟨z0,z1,z2⟩:=hB23.three;have tok2:=trivial))
     go_ret2;exact ⟨rfl,g4⟩
    ·subst h3;obtain ⟨_,ka,na,sa,kb,nb,sb,he,hva,hvb⟩:=xO hh rfl;injection he with _ e2 e3;subst e2 e3;have hT:=aD (λ(w:Bb) (A:Ba) (c:Nat) (hr:Rd w A 0 sb)=>aDe kb nb sb A c 0 Ac w hvb hr);by_cases ht:qW 0 (.mk kb nb sb)=0
     rotate_left
     ·have hRv:=hR'.out;rw [tS hh hc (λh=>ht h.2)] at hRv;have hRv:none=R:=hRv;have q4:decide (0<qW 0 (.mk kb nb sb))=true:=decide_eq_true (by have:=(tm_le.1 (.mk kb nb sb) 0).1;omega);generalize qW 0 (.mk kb nb sb)=tv at *
      generalize dJ 200 (.mk 3 nh [.mk ka na sa,.mk kb nb sb]) (.mk k2 n2 s2)=cv at *
      subst hRv;clear hR' hh hc ht hre qc';go_wp2_with (first
       | (go_at_call 53;have _t:=tok3;refine (hT.out _ Ab cb rb4).mono ?_;rintro e w5 ⟨rfl,hb5⟩;have g5:=g4.trans (hb5.mono g4.size);have tok4:=trivial)
       | (go_at_call 52;have _t:=tok2;refine (hS.out _ A3 c3 r4.rd (hr2.below g3)).mono ?_;rintro e w4 ⟨rfl,hb4⟩;have g4:=g3.trans (hb4.mono g3.size);have hJ4:=hJ.keep hb4;have hB14:=hB13.keep hb4;have hB24:=hB23.keep hb4;have hP4:=hP3.below hb4;have r5:=r4.below hb4;clear v0 v1 v2;obtain ⟨v0,v1,v2⟩:=hJ4.three;obtain ⟨bx,ox,kk,nn,ss,Ab,cb,rfl,hkk,d1,d2,d3,hlb,rb4⟩:=r5.rd.at_ (j:=1) Ag;injection hkk with e1 e2 e3;subst e1 e2 e3;simp only [Nat.zero_mul,Nat.add_zero,Nat.one_mul,Nat.zero_add] at d1 d2 d3;have tok3:=trivial)
       | (go_at_call 51;have _t:=tok0;refine (hH.out _ A c hra).mono ?_;rintro e w2 ⟨A3,c3,rfl,hl3,r3,hb2⟩;have g2:=hb.trans (hb2.mono hb.size);have hJ:=aC w2 32 (Ro 3 nh A3 2 c3) rfl;have g3:=g2.alloc g2.size (.cells (Ro 3 nh A3 2 c3) 32);have r4:=r3.alloc (.cells (Ro 3 nh A3 2 c3) 32);have hB13:=(hB1.keep hb2).alloc (.cells (Ro 3 nh A3 2 c3) 32);have hB23:=(hB2.keep hb2).alloc (.cells (Ro 3 nh A3 2 c3) 32);have hP3:=(hP.below hb2).alloc (.cells (Ro 3 nh A3 2 c3) 32);obtain ⟨v0,v1,v2⟩:=hJ.three;obtain ⟨z0,z1,z2⟩:=hB23.three;have tok2:=trivial))
      go_ret2;exact ⟨rfl,g5⟩
     ·have hRv:=hR'.out;rw [wC hh hc ⟨rfl,ht⟩] at hRv;have hT0:=aD (show ∀(w:Bb) (A:Ba) (c:Nat) (hr:Rd w A 0 sb),Calls prog 53 #[.agg (Ro kb nb A sb.length c),.int .i64 0] w λe w'=>e = .returned (.int .i64 0)/\Bw w w' from λw A c hr=>by have:=hT.out w A c hr;rw [ht] at this;exact this);obtain ⟨hsd,hvd⟩:=aIv hvb ht;generalize dJ 200 (.mk 3 nh [.mk ka na sa,.mk kb nb sb]) (.mk k2 n2 s2)=cv at *
      cases m with
      | zero=>
       have hRv:none=R:=hRv;have q5:((l.length:Int)==3)=true:=by simp;omega
       subst hRv;clear hR' hh hc ht hre qc' hT hsd hvd;go_wp2_with (first
        | (go_at_call 53;have _t:=tok3;refine (hT0.out _ Ab cb rb4).mono ?_;rintro e w5 ⟨rfl,hb5⟩;have g5:=g4.trans (hb5.mono g4.size);clear v0 v1 v2;obtain ⟨v0,v1,v2⟩:=(hJ4.keep hb5).three;replace d1:=(cM hb5) _ _ d1;replace d2:=(cM hb5) _ _ d2;replace d3:=(cM hb5) _ _ d3;have hP5:=hP4.below hb5;have tok4:=trivial)
        | (go_at_call 52;have _t:=tok2;refine (hS.out _ A3 c3 r4.rd (hr2.below g3)).mono ?_;rintro e w4 ⟨rfl,hb4⟩;have g4:=g3.trans (hb4.mono g3.size);have hJ4:=hJ.keep hb4;have hB14:=hB13.keep hb4;have hB24:=hB23.keep hb4;have hP4:=hP3.below hb4;have r5:=r4.below hb4;clear v0 v1 v2;obtain ⟨v0,v1,v2⟩:=hJ4.three;obtain ⟨bx,ox,kk,nn,ss,Ab,cb,rfl,hkk,d1,d2,d3,hlb,rb4⟩:=r5.rd.at_ (j:=1) Ag;injection hkk with e1 e2 e3;subst e1 e2 e3;simp only [Nat.zero_mul,Nat.add_zero,Nat.one_mul,Nat.zero_add] at d1 d2 d3;have tok3:=trivial)
        | (go_at_call 51;have _t:=tok0;refine (hH.out _ A c hra).mono ?_;rintro e w2 ⟨A3,c3,rfl,hl3,r3,hb2⟩;have g2:=hb.trans (hb2.mono hb.size);have hJ:=aC w2 32 (Ro 3 nh A3 2 c3) rfl;have g3:=g2.alloc g2.size (.cells (Ro 3 nh A3 2 c3) 32);have r4:=r3.alloc (.cells (Ro 3 nh A3 2 c3) 32);have hB13:=(hB1.keep hb2).alloc (.cells (Ro 3 nh A3 2 c3) 32);have hB23:=(hB2.keep hb2).alloc (.cells (Ro 3 nh A3 2 c3) 32);have hP3:=(hP.below hb2).alloc (.cells (Ro 3 nh A3 2 c3) 32);obtain ⟨v0,v1,v2⟩:=hJ.three;obtain ⟨z0,z1,z2⟩:=hB23.three;have tok2:=trivial))
       go_ret2;exact ⟨rfl,g5⟩
      | succ m=>
       have q5:((l.length:Int)==3)=false:=by simp;omega
       obtain ⟨kd,nd,sd,hd⟩:∃a b l,bR (-1) 0 (.mk kb nb sb) = .mk a b l:=by cases bR (-1) 0 (.mk kb nb sb) with|mk a b l=>exact ⟨a,b,l,rfl⟩
       rw [hd] at hsd hvd;have hSh:=aD (show ∀(w:Bb) (A:Ba) (c:Nat) (hr:Rd w A 0 sb),Calls prog 50 #[.agg (Ro kb nb A sb.length c),.int .i64 (-1),.int .i64 0] w (pF w (some (.mk kd nd sd))) from λw A c hr=>by
        have hzb:=aH hvb;have:=fU kb nb sb A c (-1) 0 w Ac Ac Ac (bC hvb) hr;rw [hsd] at this;exact this)
       have hRd:=aD (show (yl (.mk k2 n2 s2) (m+1) (.mk kd nd sd)).map ((l++[.mk ka na sa])++·)=R from by
        have e:((yl (.mk k2 n2 s2) (m+1) (bR (-1) 0 (.mk kb nb sb))).map (Tm.mk ka na sa::·)).map (l++·)=R:=hRv;rw [hd] at e;rw [<- e];cases yl (.mk k2 n2 s2) (m+1) (.mk kd nd sd)<;>simp)
       have hl1:(l++[Tm.mk ka na sa]).length=l.length+1:=by simp
       clear hR' hh hc ht hre qc' hT hsd hd hRv;go_wp2_with (first
        | (at_builtin;have _t:=tok5;refine jU (lo:=λ_=>False) (B:=w.heap.size+2) (m:=l.length) (k:=ka) (n:=na) (ks:=sa) (A:=Aa) (c:=ca) (q:=λb=>wr.heap.size<=b/\b<(w6.alloc (.cells (Ro kd nd A6 sd.length c6) 32)).heap.size) hP7 Ai ra7.lt_ (λb hb=>⟨.inr (Nat.le_trans Ac hb.1),hb.2,λe=>Nat.lt_irrefl _ (vM (hP.ownL b e) hb.1)⟩) hla rfl Ac rfl _ _ rfl rfl (by show Value.slice (some ⟨w6.heap.size+1,0,none⟩) 1 1=_;simp) ?_;intro A8 c8 w8 hp8 hb8 hg8;have hB18:=hB17.below hb8 Ac;have hB28:=hB27.below hb8 Ac;have hK8:=hK.grown hg8 (λe=>by have:=hP.ownL w6.heap.size e.symm;omega);have r8:=r6.grown hg8 (λb hb e=>by have h0:=hP.ownL b e.symm;have hb:w5.heap.size<=b:=hb;omega);obtain ⟨y0,y1,y2⟩:=hK8.three;obtain ⟨x0,x1,x2,f0,f1,f2⟩:=bZ hB18;have tok6:=trivial)
        | (go_at_call 50;have _t:=tok4;refine (hSh.out _ Ab cb (rb4.below hb5)).mono ?_;intro e w6 hgo;obtain ⟨A6,c6,rfl,hl6,hf6,hb6⟩:=cS hgo;clear hgo;have g6:=g5.trans (hb6.mono g5.size);have hK:=aC w6 32 (Ro kd nd A6 sd.length c6) rfl;have hB17:=((hB14.keep hb5).keep hb6).alloc (.cells (Ro kd nd A6 sd.length c6) 32);have hB27:=((hB24.keep hb5).keep hb6).alloc (.cells (Ro kd nd A6 sd.length c6) 32);have hJ7:=((hJ4.keep hb5).keep hb6).alloc (.cells (Ro kd nd A6 sd.length c6) 32);have hP7:=(hP5.below hb6).alloc (.cells (Ro kd nd A6 sd.length c6) 32);have g7:=g6.alloc g6.size (.cells (Ro kd nd A6 sd.length c6) 32);have r6:=hf6.rd'.alloc (.cells (Ro kd nd A6 sd.length c6) 32);have r7:=((r5.below hb5).below hb6).alloc (.cells (Ro kd nd A6 sd.length c6) 32);clear v0 v1 v2 d1 d2 d3;obtain ⟨v0,v1,v2⟩:=hJ7.three;obtain ⟨by0,oy0,kk0,nn0,ss0,Aa,ca,he0,hkk0,i1,i2,i3,hla,ra7⟩:=r7.at_ (j:=0) Ag;injection hkk0 with e1 e2 e3;subst e1 e2 e3;injection he0 with he0;injection he0 with e4 e5 _;subst e4 e5;simp only [Nat.zero_mul,Nat.add_zero,Nat.one_mul,Nat.zero_add] at i1 i2 i3;have l27:=hB2.lt;have s57:wr.heap.size<=w6.heap.size:=Nat.le_trans (Nat.le_trans hb2.size (by have:=hb4.size;simp at this;omega)) (Nat.le_trans hb5.size hb6.size);have s5:wr.heap.size<=w5.heap.size:=Nat.le_trans (Nat.le_trans hb2.size (by have:=hb4.size;simp at this;omega)) hb5.size;have tok5:=trivial)
        | (go_at_call 53;have _t:=tok3;refine (hT0.out _ Ab cb rb4).mono ?_;rintro e w5 ⟨rfl,hb5⟩;have g5:=g4.trans (hb5.mono g4.size);clear v0 v1 v2;obtain ⟨v0,v1,v2⟩:=(hJ4.keep hb5).three;replace d1:=(cM hb5) _ _ d1;replace d2:=(cM hb5) _ _ d2;replace d3:=(cM hb5) _ _ d3;have hP5:=hP4.below hb5;have tok4:=trivial)
        | (go_at_call 52;have _t:=tok2;refine (hS.out _ A3 c3 r4.rd (hr2.below g3)).mono ?_;rintro e w4 ⟨rfl,hb4⟩;have g4:=g3.trans (hb4.mono g3.size);have hJ4:=hJ.keep hb4;have hB14:=hB13.keep hb4;have hB24:=hB23.keep hb4;have hP4:=hP3.below hb4;have r5:=r4.below hb4;clear v0 v1 v2;obtain ⟨v0,v1,v2⟩:=hJ4.three;obtain ⟨bx,ox,kk,nn,ss,Ab,cb,rfl,hkk,d1,d2,d3,hlb,rb4⟩:=r5.rd.at_ (j:=1) Ag;injection hkk with e1 e2 e3;subst e1 e2 e3;simp only [Nat.zero_mul,Nat.add_zero,Nat.one_mul,Nat.zero_add] at d1 d2 d3;have tok3:=trivial)
        | (go_at_call 51;have _t:=tok0;refine (hH.out _ A c hra).mono ?_;rintro e w2 ⟨A3,c3,rfl,hl3,r3,hb2⟩;have g2:=hb.trans (hb2.mono hb.size);have hJ:=aC w2 32 (Ro 3 nh A3 2 c3) rfl;have g3:=g2.alloc g2.size (.cells (Ro 3 nh A3 2 c3) 32);have r4:=r3.alloc (.cells (Ro 3 nh A3 2 c3) 32);have hB13:=(hB1.keep hb2).alloc (.cells (Ro 3 nh A3 2 c3) 32);have hB23:=(hB2.keep hb2).alloc (.cells (Ro 3 nh A3 2 c3) 32);have hP3:=(hP.below hb2).alloc (.cells (Ro 3 nh A3 2 c3) 32);obtain ⟨v0,v1,v2⟩:=hJ.three;obtain ⟨z0,z1,z2⟩:=hB23.three;have tok2:=trivial))
       go_roundw
       case rel=>exact ⟨m+1,kd,nd,sd,A6,c6,l++[.mk ka na sa],A8,c8,by omega,by rw [hl1];omega,by rw [hl1],by rw [hl1];exact ((hp8.setCell Ag _).setCell Ag _).setCell Ag _,((hB18.set_ 0 _).set_ 1 _).set_ 2 _,((hB28.far Ag _).far Ag _).far Ag _,(((r8.mono (q:=(·≠w.heap.size)) (λb hb e=>by subst e;have hb:w5.heap.size<=w.heap.size:=hb;omega)).setCell Ag _).setCell Ag _).setCell Ag _,aD hvd,hRd,(((g7.trans (hb8.mono Ac)).setCell Ag _).setCell Ag _).setCell Ag _⟩
       case measure=>simp;omega
theorem aGf {n:Int}{p:Tm}(hv:aE (.mk 16 n [p])=true):aE (.mk 15 0 [p])=true:=by
 unfold aE at hv⊢;rw [Bool.and_eq_true,decide_eq_true_eq] at hv⊢;refine ⟨?_,by have:=hv.2;simpa [Tm.size] using this⟩;have h1:=((bH 29 16 n [p]).1 hv.1).2.2.2;exact (bH 29 15 0 [p]).2 ⟨rfl,by omega,by decide,h1⟩
theorem aIb (N:Nat):∀(k n:Int) (ks:List Tm) (A:Ba) (c:Nat) (y:Int) (q:Nat) (w:Bb),aG ks<N->aG ks<=1000000->shape q (.mk k n ks)=true->0<=y->y+q<=1000->Rd w A 0 ks->
  Calls prog 47 #[.agg (Ro k n A ks.length c),.int .i64 y] w λe w'=>e = .returned (.int .i64 (qW y (.mk k n ks)))/\Bw w w':=by
 induction N with
 | zero=>intro k n ks A c y q w hN;exact absurd hN (Nat.not_lt_zero _)
 | succ N ih=>
 intro k n ks A c y q w hN hM hsh hy hyq hr;have hlen:=aJ ks;obtain ⟨q,rfl,ha,hm1,hm2,hkids⟩:=cD hsh;have hkids':=aD hkids;clear hkids hsh ha hm2;rw [qW];obtain ⟨a0,ha0⟩:∃a0:Int,(if k=1/\n=y then 1 else 0)=a0:=⟨_,rfl⟩;rw [ha0];have hcase:((k==1)=false/\a0=0)\/((k==1)=true/\(n==y)=false/\a0=0)\/((k==1)=true/\(n==y)=true/\a0=1):=by
  by_cases h1:k=1
  ·by_cases h2:n=y
   ·exact .inr (.inr ⟨by simpa using h1,by simpa using h2,by rw [<- ha0,Av ⟨h1,h2⟩]⟩)
   ·exact .inr (.inl ⟨by simpa using h1,by simpa using h2,by rw [<- ha0,Aw (λh=>h2 h.2)]⟩)
  ·exact .inl ⟨by simpa using h1,by rw [<- ha0,Aw (λh=>h1 h.1)]⟩
 clear ha0;rcases hcase with ⟨q1,hz⟩|⟨q1,q2,hz⟩|⟨q1,q2,hz⟩
 all_goals
  have hz':=aD hz;clear hz;go_enter func47,ntmps47;go_wp2_with fail;go_loopw [5,6] (λs i wr=>∃(j:Nat),j<=ks.length/\i = .int .i64 j/\s = .int .i64 (a0+pU y k 0 (ks.take j))/\Blk wr w.heap.size (Ro k n A ks.length c)/\Bw w wr) (λ_ i _=>ks.length - (intOf i).toNat)
  case atStart=>exact ⟨0,Nat.zero_le _,rfl,by rw [hz'.out];simp [pU],aC _ _ _ rfl,bw1⟩
  case round=>
   obtain ⟨j,hj,rfl,rfl,hB1,hb⟩:=hrel;have e2:=hB1.at_ (i:=2) rfl;by_cases hlt:j<ks.length
   ·obtain ⟨b,off,k1,n1,ks1,A1,c1,rfl,hkj,hc1,hc2,hc3,hl1,hr1⟩:=(hr.below hb).at_ hlt;have hsz:=cG (gM hlt);have hsk:=hkids'.out _ (gM hlt);have hcs:=tm_le.2 (ks.take j) y k 0;have hst2:=eP ks j;have hnx:=aD (show a0+pU y k 0 (ks.take (j+1))=a0+pU y k 0 (ks.take j)+qW (y+aN k j) ks[j] from by rw [aDq y k hlt];omega);have ht1:=tm_le.1 ks[j] (y+aN k j);rw [hkj] at hsz hsk ht1 hnx;simp only [Tm.size] at hsz ht1;have h0:=hz'.out;have hs1:0<=a0+pU y k 0 (ks.take j)/\a0+pU y k 0 (ks.take j)<=1000001:=by omega
    generalize a0+pU y k 0 (ks.take j)=sj at hs1 hnx⊢;have H4:=aD hsk;clear hkj hsk hcs h0;have hbz:=hB1.lt;go_wp2_with fail;clear e2;have b0:=hB1.rule (i:=0) rfl;have b2:=hB1.rule (i:=2) rfl;obtain ⟨y0,y1,y2⟩:=pG hc1 hc2 hc3;have hun:=dA k j;refine bQ (λw'=>Bw wr w') [0,1,2,3,4,5,6,7,8,9,10,11] [12,13] [14] [_,_,_,_,_,_,_,_,_,_,_,_] [_,_] [_] (by kernel_rfl) (by kernel_rfl) rfl rfl rfl (λ_ _ d _ _ h=>by cases d<;>exact h) (eI _ _).drew ?_;repeat (first|((refine lU (a':=?_) ?_ ?_ ?_);(rotate_left);(· (simp [Region.wanted,yielded];done));(· (simp only [List.getElem_toArray,List.getElem_cons_zero,List.getElem_cons_succ,Act.put,List.setIfInBounds_toArray,List.set_cons_zero,List.set_cons_succ];exact rfl)))|((refine lM (v:=?_) (a':=?_) ?_ ?_ ?_ ?_);(rotate_left 2);(· (simp [Region.wanted,yielded];done));(· (intro w' hS';go_simp;try (with_reducible rfl)));(· (simp only [List.getElem_toArray,List.getElem_cons_zero,List.getElem_cons_succ,Act.put,List.setIfInBounds_toArray,List.set_cons_zero,List.set_cons_succ];exact rfl)))|((refine oM (v:=?_) (a':=?_) 44 ?_ ?_ ?_ ?_ ?_ ?_);(rotate_left 3);(· (simp [Region.wanted,yielded];done));(· (intro w' hS';go_simp;try (with_reducible rfl)));(· (intro w' hS';exact nR _ _ _));(· (simp only [List.getElem_toArray,List.getElem_cons_zero,List.getElem_cons_succ,Act.put,List.setIfInBounds_toArray,List.set_cons_zero,List.set_cons_succ];exact rfl))))
    refine nL (bO ?_);clear y0 y1 y2 b0 b2;go_wp2_with (go_at_call 47;refine (ih k1 n1 ks1 A1 c1 (y+aN k j) q _ Ac Ac H4.out Ac Ac hr1.drew).mono ?_;rintro e w1 ⟨rfl,hb1⟩);have hb1':Bw wr w1:=(eI _ _).drew.trans hb1;refine aS hb1' (bO ?_);go_wp2_with fail;refine aS hb1' (eB ?_);go_wp2_with fail;go_roundw
    case rel=>exact ⟨j+1,by omega,by go_num,by rw [hnx.out],hB1.keep hb1',hb.trans (hb1'.mono hb.size)⟩
    case measure=>simp [intOf];omega
   ·have hjl:j=ks.length:=by omega
    subst hjl;rw [List.take_length];go_wp2_with fail;go_ret;exact ⟨rfl,hb⟩
theorem aGx (k n:Int)(ks:List Tm)(A:Ba)(c:Nat)(w:Bb)(hv:aE (.mk k n ks)=true)(hr:Rd w A 0 ks) :
  Calls prog 47 #[.agg (Ro k n A ks.length c),.int .i64 0] w λe w'=>e = .returned (.int .i64 (qW 0 (.mk k n ks)))/\Bw w w':=by
 have hsh:shape 30 (.mk k n ks)=true:=by simp only [aE,Bool.and_eq_true] at hv;exact hv.1
 have hzv:=aH hv;exact aIb _ k n ks A c 0 30 w (mV _) Ac hsh Ac Ac hr
theorem aDk (k n:Int)(ks:List Tm)(A:Ba)(c:Nat)(k2 n2:Int)(s2:List Tm)(A2:Ba)(c2:Nat)(w:Bb)(hz:aG ks<=1000000)(hv2:aE (.mk k2 n2 s2)=true)(hr:Rd w A 0 ks)(hr2:Rd w A2 0 s2) :
  Calls prog 30 #[.agg (Ro k n A ks.length c),.agg (Ro k2 n2 A2 s2.length c2)] w λe w'=>e = .returned (.int .i64 (ylI 0 (yl (.mk k2 n2 s2) 4 (.mk k n ks))))/\Bw w w':=by
 obtain ⟨R,hR⟩:∃R,ylI 0 (yl (.mk k2 n2 s2) 4 (.mk k n ks))=R:=⟨_,rfl⟩;rw [hR];have hR':=aD hR;have hv2':=aD hv2;have hz2:=aH hv2;clear hR hv2;go_enter func30,ntmps30;go_wp2_with fail;go_loopw [5] (λs wr=>∃(m:Nat) (k n:Int) (ks:List Tm) (A:Ba) (c:Nat),m<=4/\s = .int .i64 (4 - (m:Int))/\Blk wr w.heap.size (Ro k n A ks.length c)/\Blk wr (w.heap.size+1) (Ro k2 n2 A2 s2.length c2)/\RdP (·≠w.heap.size) wr A 0 ks/\aG ks<=1000000/\Hid (ylI (4 - (m:Int)) (yl (.mk k2 n2 s2) m (.mk k n ks))=R)/\Bw w wr)
  (λs _ => 4 - (intOf s).toNat)
 case atStart=>exact ⟨4,k,n,ks,A,c,mC _,rfl,((aC _ _ _ rfl).alloc _),aC _ _ _ Ag,((hr.rdp.mono (λb hb=>by have hb:b<w.heap.size:=hb;show b≠_;omega)).alloc _).alloc _,hz,aD (by simpa using hR'.out),bw2⟩
 case round=>
  clear hR' hz hr;obtain ⟨m,k,n,ks,A,c,hm,rfl,hB1,hB2,hrp,hz,hR',hb⟩:=hrel;have hra:=hrp.rd;obtain ⟨b0,b1,b2⟩:=hB1.three;by_cases hv:aE (.mk k n ks)=true;rotate_left
  ·have hv:=Bool.eq_false_iff.2 hv;have hRv:=hR'.out;rw [aBi hv] at hRv;have hRv : -1=R:=hRv;have hv':=aD hv;clear hv hR';go_wp2_with (go_at_call 41;refine (aR k n ks A c _ Ac hra).mono ?_;rw [hv'.out];rintro e w1 ⟨rfl,hb1⟩);go_ret;exact ⟨by subst hRv;rfl,hb.trans (hb1.mono hb.size)⟩
  have hv':=aD hv;cases m with
  | zero=>
   have hRv:=hR'.out;rw [yl] at hRv;have hRv : -1=R:=hRv;clear hv hR';go_wp2_with (go_at_call 41;refine (aR k n ks A c _ Ac hra).mono ?_;rw [hv'.out];rintro e w1 ⟨rfl,hb1⟩);go_ret;exact ⟨by subst hRv;rfl,hb.trans (hb1.mono hb.size)⟩
  | succ m=>
   have q0:decide ((4:Int) - ((m+1:Nat):Int)<=3)=true:=decide_eq_true Ac;have tok0:=trivial;cases hh:jB (.mk k n ks) with
   | no b=>
    have hRv:=hR'.out;rw [aJp hh] at hRv;have hRv : -1=R:=hRv;have hH:=aD (λ(w:Bb) (A:Ba) (c:Nat) (hr:Rd w A 0 ks)=>by have:=iV k n ks A c w hv'.out hr;rw [hh] at this;exact this);have qb:=eV b;clear hv hR' hh;go_wp2_with (first
     | (go_at_call 45;have _t:=tok1;refine (hH.out _ A c hra1).mono ?_;rintro e w2 ⟨k3,n3,A3,l3,c3,rfl,hb2⟩;have g2:=(g1.trans (hb2.mono g1.size)).alloc (by have:=g1.size;have:=hb2.size;omega) (.cells (Ro k3 n3 A3 l3 c3) 32))
     | (go_at_call 41;have _t:=tok0;refine (aR k n ks A c _ Ac hra).mono ?_;rw [hv'.out];rintro e w1 ⟨rfl,hb1⟩;have g1:=hb.trans (hb1.mono hb.size);have hra1:=hra.below hb1;have hB11:=hB1.keep hb1;have hB21:=hB2.keep hb1;clear b0 b1 b2;obtain ⟨b0,b1,b2⟩:=hB11.three;have tok1:=trivial))
    go_ret;exact ⟨by subst hRv;rfl,g2⟩
   | ok h=>
    obtain ⟨kh,nh,sh⟩:=h;have hvh:=(cR hh).2.1;have hH:=aD (λ(w:Bb) (A:Ba) (c:Nat) (hr:Rd w A 0 ks)=>by have:=iV k n ks A c w hv'.out hr;rw [hh] at this;exact this);have hS0:=λ(w:Bb) (A3:Ba) (c3:Nat) (hr:Rd w A3 0 sh) (hr2:Rd w A2 0 s2)=>jQ kh nh sh A3 c3 k2 n2 s2 A2 c2 w hvh Ac hr hr2
    by_cases hc:dJ 200 (.mk kh nh sh) (.mk k2 n2 s2)=1
    ·have hRv:=hR'.out;rw [aCc hh hc] at hRv;have hRv:(4 - ((m+1:Nat):Int))+((0:Nat):Int)=R:=hRv;have hsm:tR (.mk kh nh sh) (.mk k2 n2 s2) = .ok ():=by rw [tR,Av ⟨hvh,hv2'.out⟩,Av hc]
     rw [hsm] at hS0;have hS:=aD hS0;clear hv hR' hh hc hS0 hsm;go_wp2_with (first
      | (go_at_call 46;have _t:=tok2;refine (hS.out _ A3 c3 r4 (hr2.below g3)).mono ?_;rintro e w4 ⟨rfl,hb4⟩;have g4:=g3.trans (hb4.mono g3.size);have tok3:=trivial)
      | (go_at_call 45;have _t:=tok1;refine (hH.out _ A c hra1).mono ?_;rintro e w2 ⟨A3,c3,rfl,hl3,r3,hb2⟩;have g2:=g1.trans (hb2.mono g1.size);have hJ:=aC w2 32 (Ro kh nh A3 sh.length c3) rfl;have g3:=g2.alloc g2.size (.cells (Ro kh nh A3 sh.length c3) 32);have r4:=r3.alloc (.cells (Ro kh nh A3 sh.length c3) 32);have hB13:=(hB11.keep hb2).alloc (.cells (Ro kh nh A3 sh.length c3) 32);have hB23:=(hB21.keep hb2).alloc (.cells (Ro kh nh A3 sh.length c3) 32);obtain ⟨v0,v1,v2⟩:=hJ.three;obtain ⟨z0,z1,z2⟩:=hB23.three;have tok2:=trivial)
      | (go_at_call 41;have _t:=tok0;refine (aR k n ks A c _ Ac hra).mono ?_;rw [hv'.out];rintro e w1 ⟨rfl,hb1⟩;have g1:=hb.trans (hb1.mono hb.size);have hra1:=hra.below hb1;have hB11:=hB1.keep hb1;have hB21:=hB2.keep hb1;clear b0 b1 b2;obtain ⟨b0,b1,b2⟩:=hB11.three;have tok1:=trivial))
     go_ret;exact ⟨by subst hRv;simp,g4⟩
    ·obtain ⟨b,hsm⟩:∃b,tR (.mk kh nh sh) (.mk k2 n2 s2) = .no b:=by
      rw [tR,Av ⟨hvh,hv2'.out⟩,Aw hc];split<;>exact ⟨_,rfl⟩
     rw [hsm] at hS0;have hS:=aD (show ∀(w:Bb) (A3:Ba) (c3:Nat) (hr:Rd w A3 0 sh) (hr2:Rd w A2 0 s2),Calls prog 46 #[.agg (Ro kh nh A3 sh.length c3),.agg (Ro k2 n2 A2 s2.length c2)] w λe w'=>e = .returned (.int .i64 (dB b))/\Bw w w' from hS0);have qb:=iC b;clear hS0 hsm;by_cases h3:kh=3;rotate_left
     ·have hRv:=hR'.out;rw [tS hh hc (λh=>h3 h.1)] at hRv;have hRv : -1=R:=hRv;have q3:(kh != 3)=true:=by simpa using h3
      clear hv hR' hh hc h3;go_wp2_with (first
       | (go_at_call 46;have _t:=tok2;refine (hS.out _ A3 c3 r4 (hr2.below g3)).mono ?_;rintro e w4 ⟨rfl,hb4⟩;have g4:=g3.trans (hb4.mono g3.size);clear v0 v1 v2;obtain ⟨v0,v1,v2⟩:=(hJ.keep hb4).three;have tok3:=trivial)
       | (go_at_call 45;have _t:=tok1;refine (hH.out _ A c hra1).mono ?_;rintro e w2 ⟨A3,c3,rfl,hl3,r3,hb2⟩;have g2:=g1.trans (hb2.mono g1.size);have hJ:=aC w2 32 (Ro kh nh A3 sh.length c3) rfl;have g3:=g2.alloc g2.size (.cells (Ro kh nh A3 sh.length c3) 32);have r4:=r3.alloc (.cells (Ro kh nh A3 sh.length c3) 32);have hB13:=(hB11.keep hb2).alloc (.cells (Ro kh nh A3 sh.length c3) 32);have hB23:=(hB21.keep hb2).alloc (.cells (Ro kh nh A3 sh.length c3) 32);obtain ⟨v0,v1,v2⟩:=hJ.three;obtain ⟨z0,z1,z2⟩:=hB23.three;have tok2:=trivial)
       | (go_at_call 41;have _t:=tok0;refine (aR k n ks A c _ Ac hra).mono ?_;rw [hv'.out];rintro e w1 ⟨rfl,hb1⟩;have g1:=hb.trans (hb1.mono hb.size);have hra1:=hra.below hb1;have hB11:=hB1.keep hb1;have hB21:=hB2.keep hb1;clear b0 b1 b2;obtain ⟨b0,b1,b2⟩:=hB11.three;have tok1:=trivial))
      go_ret;exact ⟨by subst hRv;rfl,g4⟩
     ·subst h3;obtain ⟨_,ka,na,sa,kb,nb,sb,he,hva,hvb⟩:=xO hh rfl;injection he with _ e2 e3;subst e2 e3;have hT:=aD (λ(w:Bb) (A:Ba) (c:Nat) (hr:Rd w A 0 sb)=>aGx kb nb sb A c w hvb hr);by_cases ht:qW 0 (.mk kb nb sb)=0
      rotate_left
      ·have hRv:=hR'.out;rw [tS hh hc (λh=>ht h.2)] at hRv;have hRv : -1=R:=hRv;have q4:decide (0<qW 0 (.mk kb nb sb))=true:=decide_eq_true (by have:=(tm_le.1 (.mk kb nb sb) 0).1;omega);generalize qW 0 (.mk kb nb sb)=tv at *
       clear hv hR' hh hc ht;go_wp2_with (first
        | (go_at_call 47;have _t:=tok3;refine (hT.out _ Ab cb rb4).mono ?_;rintro e w5 ⟨rfl,hb5⟩;have g5:=g4.trans (hb5.mono g4.size))
        | (go_at_call 46;have _t:=tok2;refine (hS.out _ A3 c3 r4 (hr2.below g3)).mono ?_;rintro e w4 ⟨rfl,hb4⟩;have g4:=g3.trans (hb4.mono g3.size);have r5:=r4.below hb4;clear v0 v1 v2;obtain ⟨v0,v1,v2⟩:=(hJ.keep hb4).three;obtain ⟨bx,ox,kk,nn,ss,Ab,cb,rfl,hkk,d1,d2,d3,hlb,rb4⟩:=r5.at_ (j:=1) Ag;injection hkk with e1 e2 e3;subst e1 e2 e3;simp only [Nat.zero_mul,Nat.add_zero,Nat.one_mul,Nat.zero_add] at d1 d2 d3;have tok3:=trivial)
        | (go_at_call 45;have _t:=tok1;refine (hH.out _ A c hra1).mono ?_;rintro e w2 ⟨A3,c3,rfl,hl3,r3,hb2⟩;have g2:=g1.trans (hb2.mono g1.size);have hJ:=aC w2 32 (Ro 3 nh A3 2 c3) rfl;have g3:=g2.alloc g2.size (.cells (Ro 3 nh A3 2 c3) 32);have r4:=r3.alloc (.cells (Ro 3 nh A3 2 c3) 32);have hB13:=(hB11.keep hb2).alloc (.cells (Ro 3 nh A3 2 c3) 32);have hB23:=(hB21.keep hb2).alloc (.cells (Ro 3 nh A3 2 c3) 32);obtain ⟨v0,v1,v2⟩:=hJ.three;obtain ⟨z0,z1,z2⟩:=hB23.three;have tok2:=trivial)
        | (go_at_call 41;have _t:=tok0;refine (aR k n ks A c _ Ac hra).mono ?_;rw [hv'.out];rintro e w1 ⟨rfl,hb1⟩;have g1:=hb.trans (hb1.mono hb.size);have hra1:=hra.below hb1;have hB11:=hB1.keep hb1;have hB21:=hB2.keep hb1;clear b0 b1 b2;obtain ⟨b0,b1,b2⟩:=hB11.three;have tok1:=trivial))
       go_ret;exact ⟨by subst hRv;rfl,g5⟩
      ·have hRv:=hR'.out;rw [wC hh hc ⟨rfl,ht⟩,aPz] at hRv;have hRv:ylI (4 - ((m+1:Nat):Int)+1) (yl (.mk k2 n2 s2) m (bR (-1) 0 (.mk kb nb sb)))=R:=hRv;rw [show 4 - ((m+1:Nat):Int)+1=4 - (m:Int) from by push_cast;omega] at hRv;obtain ⟨_,hvd⟩:=aIv hvb ht;have hT0:=aD (show ∀(w:Bb) (A:Ba) (c:Nat) (hr:Rd w A 0 sb),Calls prog 47 #[.agg (Ro kb nb A sb.length c),.int .i64 0] w λe w'=>e = .returned (.int .i64 0)/\Bw w w' from λw A c hr=>by have:=hT.out w A c hr;rw [ht] at this;exact this);obtain ⟨kd,nd,sd,hd⟩:∃a b l,bR (-1) 0 (.mk kb nb sb) = .mk a b l:=by cases bR (-1) 0 (.mk kb nb sb) with|mk a b l=>exact ⟨a,b,l,rfl⟩
       have hSh:=aD (show ∀(w:Bb) (A:Ba) (c:Nat) (hr:Rd w A 0 sb),Calls prog 29 #[.agg (Ro kb nb A sb.length c),.int .i64 (-1),.int .i64 0] w (rQ w kd nd sd) from λw A c hr=>by
        have hzb:=aH hvb;have:=gI _ kb nb sb A c (-1) 0 30 w (mV _) Ac (bC hvb) Ac Ac Ac hr;rw [bR] at hd;injection hd with e1 e2 e3;rw [<- e1,<- e2,<- e3];exact this)
       rw [hd] at hRv hvd;have hzd:=aH hvd;have hRd:=aD hRv;clear hv hR' hh hc ht hRv hvd hd hT;go_wp2_with (first
        | (go_at_call 29;have _t:=tok4;refine (hSh.out _ Ab cb (rb4.below hb5)).mono ?_;rintro e w6 ⟨A6,c6,rfl,hl6,hf6,hb6⟩;have g6:=g5.trans (hb6.mono g5.size);have hB16:=(hB14.keep hb5).keep hb6;have hB26:=(hB24.keep hb5).keep hb6;obtain ⟨x0,x1,x2,f0,f1,f2⟩:=bZ hB16)
        | (go_at_call 47;have _t:=tok3;refine (hT0.out _ Ab cb rb4).mono ?_;rintro e w5 ⟨rfl,hb5⟩;have g5:=g4.trans (hb5.mono g4.size);clear v0 v1 v2;obtain ⟨v0,v1,v2⟩:=(hJ4.keep hb5).three;replace d1:=(cM hb5) _ _ d1;replace d2:=(cM hb5) _ _ d2;replace d3:=(cM hb5) _ _ d3;have tok4:=trivial)
        | (go_at_call 46;have _t:=tok2;refine (hS.out _ A3 c3 r4 (hr2.below g3)).mono ?_;rintro e w4 ⟨rfl,hb4⟩;have g4:=g3.trans (hb4.mono g3.size);have r5:=r4.below hb4;have hJ4:=hJ.keep hb4;have hB14:=hB13.keep hb4;have hB24:=hB23.keep hb4;clear v0 v1 v2 z0 z1 z2;obtain ⟨v0,v1,v2⟩:=hJ4.three;obtain ⟨bx,ox,kk,nn,ss,Ab,cb,rfl,hkk,d1,d2,d3,hlb,rb4⟩:=r5.at_ (j:=1) Ag;injection hkk with e1 e2 e3;subst e1 e2 e3;simp only [Nat.zero_mul,Nat.add_zero,Nat.one_mul,Nat.zero_add] at d1 d2 d3;have tok3:=trivial)
        | (go_at_call 45;have _t:=tok1;refine (hH.out _ A c hra1).mono ?_;rintro e w2 ⟨A3,c3,rfl,hl3,r3,hb2⟩;have g2:=g1.trans (hb2.mono g1.size);have hJ:=aC w2 32 (Ro 3 nh A3 2 c3) rfl;have g3:=g2.alloc g2.size (.cells (Ro 3 nh A3 2 c3) 32);have r4:=r3.alloc (.cells (Ro 3 nh A3 2 c3) 32);have hB13:=(hB11.keep hb2).alloc (.cells (Ro 3 nh A3 2 c3) 32);have hB23:=(hB21.keep hb2).alloc (.cells (Ro 3 nh A3 2 c3) 32);obtain ⟨v0,v1,v2⟩:=hJ.three;obtain ⟨z0,z1,z2⟩:=hB23.three;have tok2:=trivial)
        | (go_at_call 41;have _t:=tok0;refine (aR k n ks A c _ Ac hra).mono ?_;rw [hv'.out];rintro e w1 ⟨rfl,hb1⟩;have g1:=hb.trans (hb1.mono hb.size);have hra1:=hra.below hb1;have hB11:=hB1.keep hb1;have hB21:=hB2.keep hb1;clear b0 b1 b2;obtain ⟨b0,b1,b2⟩:=hB11.three;have tok1:=trivial))
       have l5:=(hB14.keep hb5).lt;have r6:=hf6.rd'.mono (q:=(·≠w.heap.size)) (λb hb e=>by subst e;omega);go_roundw
       case rel=>exact ⟨m,kd,nd,sd,A6,c6,by omega,by go_num,((hB16.set_ 0 _).set_ 1 _).set_ 2 _,((hB26.far Ag _).far Ag _).far Ag _,((r6.setCell Ag _).setCell Ag _).setCell Ag _,by omega,hRd,(bV g6)⟩
       case measure=>simp [intOf];omega
end Go.Proofs.YtjlaenhcemacdaaGreat
