/- Parts of the proof. No condition. -/
import Derived.Test.YtjlaenhcemacdaaGreatK20
open Go.Proofs.Tryz
namespace Go.Proofs.YtjlaenhcemacdaaGreat
open Go.RowKit
set_option maxHeartbeats 8000000
set_option maxRecDepth 100000
set_option linter.unusedSimpArgs false
set_option linter.unusedVariables false
inductive Hs:Tm->Tm->Prop
 | refl (t:Tm):Hs t t
 | step {t u v:Tm}:cH t=some u->Hs u v->Hs t v
theorem Hs.trans {t u v:Tm}(h:Hs t u)(h2:Hs u v):Hs t v:=by
 induction h with
 | refl t=>exact h2
 | step h1 _ ih=>exact .step h1 (ih h2)
theorem Hs.ps {t u:Tm}(h:Hs t u):Ps t u:=by
 induction h with
 | refl t=>exact .refl _
 | step h1 _ ih=>exact .step (aMr _ _ h1) ih
theorem Hs.one {t u:Tm}(h:cH t=some u):Hs t u:=.step h (.refl _)
theorem Hs.det {t u v:Tm}(h:Hs t u)(hu:cH u=none)(h2:Hs t v)(hv:cH v=none):u=v:=by
 induction h with
 | refl t=>
  cases h2 with
  | refl=>rfl
  | step h3 _=>rw [hu] at h3;cases h3
 | step h1 _ ih=>
  cases h2 with
  | refl=>rw [hv] at h1;cases h1
  | step h3 h4=>
   rw [h1] at h3;obtain rfl:=Option.some.inj h3;exact ih hu h4
theorem aTg:∀(f:Nat) (t h:Tm) (c:Int),wD f t=(some h,c)->Hs t h/\cH h=none
 | f,t,h,c,hh=>by
  rw [wD] at hh;cases hs:cH t with
  | none=>
   rw [hs] at hh;injection hh with hh _;obtain rfl:=Option.some.inj hh;exact ⟨.refl _,hs⟩
  | some t'=>
   rw [hs] at hh;cases f with
   | zero=>injection hh with hh _;cases hh
   | succ f=>
    simp only at hh;split at hh
    ·obtain ⟨h1,h2⟩:=aTg f t' h c hh;exact ⟨.step hs h1,h2⟩
    ·injection hh with hh _;cases hh
theorem iY {k n:Int}{ks:List Tm}(hk:¬bF k<0)(h0:rdx k ks=0)(hj:(bF k).toNat<ks.length):cH (.mk k n ks)=(cH (aI ks (bF k).toNat)).map λu=>.mk k n (ks.set (bF k).toNat u):=by
 rw [cH,Av h0,Aw hk,oO ks _ hj,cO hj,Option.map_map];rfl
theorem fY {k n:Int}{ks:List Tm}(h0:rdx k ks≠0):cH (.mk k n ks)=some (eF (.mk k n ks)):=by rw [cH,Aw h0]
theorem lK {t u:Tm}(h:cH t=some u):t.k=5\/t.k=9\/t.k=12\/t.k=15\/t.k=16:=by
 obtain ⟨k,n,ks⟩:=t;rw [cH] at h;by_cases h0:rdx k ks=0
 ·rw [Av h0] at h;by_cases hk:bF k<0
  ·rw [Av hk] at h;cases h
  ·unfold bF at hk;show k=5\/k=9\/k=12\/k=15\/k=16;by_cases a:k=5\/k=15\/k=16
   ·omega
   ·rw [Aw a] at hk;by_cases b:k=9
    ·omega
    ·rw [Aw b] at hk;by_cases c:k=12
     ·omega
     ·rw [Aw c] at hk;omega
 ·exact uS h0
theorem aFf {t:Tm}(h:¬(t.k=5\/t.k=9\/t.k=12\/t.k=15\/t.k=16)):cH t=none:=by
 cases hs:cH t with
 | none=>rfl
 | some u=>exact absurd (lK hs) h
theorem sU {k:Int}{ks:List Tm}(hk:gN ks (bF k).toNat=5\/gN ks (bF k).toNat=9\/gN ks (bF k).toNat=12\/gN ks (bF k).toNat=15\/gN ks (bF k).toNat=16):rdx k ks=0:=by
 apply Classical.byContradiction
 intro h;rcases fC h with ⟨_,rfl,h2⟩|⟨_,rfl,h2⟩|⟨_,rfl,h2⟩|⟨_,rfl,h2⟩|⟨_,rfl,h2⟩|⟨_,rfl,h2⟩
 ·rw [show (bF 5).toNat=0 from rfl,h2] at hk;omega
 ·rw [show (bF 9).toNat=3 from rfl,h2] at hk;omega
 ·rw [show (bF 9).toNat=3 from rfl,h2] at hk;omega
 ·rw [show (bF 12).toNat=1 from rfl,h2] at hk;omega
 ·rw [show (bF 15).toNat=0 from rfl,h2] at hk;omega
 ·rw [show (bF 16).toNat=0 from rfl,h2] at hk;omega
theorem oB {k:Int}(hk:¬bF k<0):binds k=false:=by
 have:¬(k=3\/k=4\/k=13):=by
  rintro (rfl|rfl|rfl)<;>exact hk Ah
 simp only [binds,Bool.or_eq_false_iff,beq_eq_false_iff_ne];omega
theorem lF {f:Tm->Tm}:∀(ks:List Tm) (j:Nat) (u:Tm),(ks.set j u).map f=(ks.map f).set j (f u)
 | [],_,_=>rfl
 | t::ts,0,u=>rfl
 | t::ts,j+1,u=>by rw [List.set_cons_succ,List.map_cons,List.map_cons,List.set_cons_succ,lF ts j u]
theorem iZ {s:Nat->Tm}{k:Int}(hb:binds k=false):∀(ts:List Tm) (i:Nat),eM s k i ts=ts.map (ins s)
 | [],i=>rfl
 | t::ts,i=>by rw [eM,List.map_cons,iZ hb ts (i+1),Av (by unfold aN;rw [Aw (by rw [hb];rintro ⟨-,h⟩;cases h)])]
theorem kY {b c k:Int}(hb:binds k=false):∀(ts:List Tm) (i:Nat),bK b k c i ts=ts.map (bR b c)
 | [],i=>rfl
 | t::ts,i=>by rw [bK,List.map_cons,kY hb ts (i+1),show aN k (i:Int)=0 by unfold aN;rw [Aw (by rw [hb];rintro ⟨-,h⟩;cases h)],Int.add_zero]
theorem sF {t:Tm}(h:cX t=true)(j:Nat):cX (aI t.ks j)=true:=by
 obtain ⟨k,n,ks⟩:=t;exact cQ h j
theorem aCz {s:Nat->Tm}{k:Int}{ks:List Tm}(h:rdx k ks≠0):rdx k (eM s k 0 ks)=rdx k ks:=by
 have hin:∀(j:Nat) (m:Int),gN ks j=m->m≠1->gN (eM s k 0 ks) j=m:=λj m e hm=>by
  rw [mG,lN,aSx (by show gN ks j≠1;rw [e];exact hm)];exact e
 rcases fC h with ⟨h1,rfl,h2⟩|⟨h1,rfl,h2⟩|⟨h1,rfl,h2⟩|⟨h1,rfl,h2⟩|⟨h1,rfl,h2⟩|⟨h1,rfl,h2⟩<;>
  (have h3 := hin _ _ h2 Ah; unfold rdx; simp [h2, h3])
theorem aJs {s:Nat->Tm}{k n:Int}{ks:List Tm}(hw:cX (.mk k n ks)=true)(h:rdx k ks≠0):ins s (eF (.mk k n ks))=eF (ins s (.mk k n ks)):=by
 have hr:=aCz (s:=s) h;have hk1:k≠1:=by have:=uS h;omega
 rw [dK hk1];rcases fC h with ⟨h1,rfl,h2⟩|⟨h1,rfl,h2⟩|⟨h1,rfl,h2⟩|⟨h1,rfl,h2⟩|⟨h1,rfl,h2⟩|⟨h1,rfl,h2⟩
 ·have h4:(aI ks 0).k=4:=h2;have hwb:cX (aI (aI ks 0).ks 1)=true:=sF (cQ hw 0) 1;rw [nY h1,nY (hr.trans h1),fN rfl,fN rfl,aCo (by rw [h4];decide),h4,Aw (show ¬aN 4 ((1:Nat):Int)=0 by decide),vU s (cQ hw 1) hwb]
 ·rw [oQ h1,oQ (hr.trans h1),fN rfl]
 ·have h4:(aI ks 3).k=8:=h2;rw [pC h1,pC (hr.trans h1),fN rfl,fN rfl,fN rfl,fN rfl,aCo (by rw [h4];decide),h4,Av (show aN 8 ((0:Nat):Int)=0 by decide)];rw [dK Ah,iZ rfl,List.map_cons,List.map_cons,List.map_nil,dK Ah,iZ rfl,dK Ah,iZ rfl];rfl
 ·rw [oK h1,oK (hr.trans h1),fN rfl]
 ·have h4:(aI ks 0).k=14:=h2;rw [oW h1,oW (hr.trans h1),fN rfl,aCo (by rw [h4];decide),h4,Av (show aN 14 ((1:Nat):Int)=0 by decide)]
 ·have h4:(aI ks 0).k=14:=h2;rw [oT h1,oT (hr.trans h1),fN rfl,aCo (by rw [h4];decide),h4,Av (show aN 14 ((2:Nat):Int)=0 by decide)]
theorem aSl (s:Nat->Tm):∀(t u:Tm),cX t=true->cH t=some u->cH (ins s t)=some (ins s u):=by
 refine jG λk n ks ih u hw h=>?_
 by_cases h0:rdx k ks=0
 ·have hk5:=lK h;have hk1:k≠1:=by have:k=5\/k=9\/k=12\/k=15\/k=16:=hk5;omega
  have hm:¬bF k<0:=by
   have:k=5\/k=9\/k=12\/k=15\/k=16:=hk5;rcases this with rfl|rfl|rfl|rfl|rfl<;>decide
  by_cases hj:(bF k).toNat<ks.length
  ·rw [iY hm h0 hj] at h;cases hv:cH (aI ks (bF k).toNat) with
   | none=>rw [hv] at h;cases h
   | some v=>
    rw [hv] at h;obtain rfl:=Option.some.inj h;have h5:=lK hv;have hb:=oB hm;have hr0:rdx k (eM s k 0 ks)=0:=sU (by rw [mG,fN hb,aSx Ac];exact h5);have hv2:=ih _ (fG hj) v (cQ hw _) hv;rw [dK hk1,iY hm hr0 (by rw [eO];exact hj),fN hb,hv2,dK hk1,iZ hb,iZ hb,lF];rfl
  ·rw [cH,Av h0,Aw hm,(eR ks _ Ac).2] at h;cases h
 ·rw [fY h0] at h;obtain rfl:=Option.some.inj h;have hk1:k≠1:=by have:=uS h0;omega
  rw [aJs hw h0,dK hk1,fY (by rw [aCz h0];exact h0)]
theorem wf_sb:(∀(t u:Tm) (x d:Int),cX t=true->cX u=true->0<=d->0<=x->cX (bT u x d t)=true)/\∀(ts:List Tm) (u:Tm) (k x d:Int) (i:Nat),pI ts=true->cX u=true->0<=d->0<=x->pI (cE u k x d i ts)=true:=by
 have hsh:(∀(t:Tm) (b c:Int),cX t=true->0<=b->cX (bR b c t)=true)/\∀(ts:List Tm) (b k c:Int) (i:Nat),pI ts=true->0<=b->pI (bK b k c i ts)=true:=by
  refine bA (λk n ks ih b c hw hb=>?_) (λb k c i hw hb=>rfl) (λt ts h1 h2 b k c i hw hb=>?_)
  ·rw [bR];obtain ⟨h1,h2⟩:=wf_iff.1 hw;refine wf_iff.2 ⟨λe=>?_,ih b k c 0 h2 hb⟩;obtain ⟨h3,rfl⟩:=h1 e;exact ⟨by split<;>omega,rfl⟩
  ·rw [pI,Bool.and_eq_true] at hw;rw [bK,pI,h1 _ _ hw.1 hb,h2 _ _ _ _ hw.2 hb];rfl
 refine bA (λk n ks ih u x d hw hu hd hx=>?_) (λu k x d i hw hu hd hx=>rfl) (λt ts h1 h2 u k x d i hw hu hd hx=>?_)
 ·rw [bT];obtain ⟨h1,h2⟩:=wf_iff.1 hw;by_cases h:k=1/\n=x
  ·rw [Av h];exact hsh.1 u d 0 hu hd
  ·rw [Aw h];refine wf_iff.2 ⟨λe=>?_,ih u k x d 0 h2 hu hd hx⟩;obtain ⟨h3,rfl⟩:=h1 e;exact ⟨by split<;>omega,rfl⟩
 ·rw [pI,Bool.and_eq_true] at hw;have:=dA k i;rw [cE,pI,h1 _ _ _ hw.1 hu Ac Ac,h2 _ _ _ _ _ hw.2 hu hd hx];rfl
theorem aPl {k n:Int}{ks:List Tm}(hw:cX (.mk k n ks)=true)(h:rdx k ks≠0):cX (eF (.mk k n ks))=true:=by
 rcases fC h with ⟨h1,rfl,h2⟩|⟨h1,rfl,h2⟩|⟨h1,rfl,h2⟩|⟨h1,rfl,h2⟩|⟨h1,rfl,h2⟩|⟨h1,rfl,h2⟩
 ·rw [nY h1];exact wf_sb.1 _ _ 0 0 (sF (cQ hw 0) 1) (cQ hw 1) Ah Ah
 ·rw [oQ h1];exact cQ hw 1
 ·rw [pC h1];have h5:=sF (cQ hw 3) 0;simp [cX,pI,cQ hw 0,cQ hw 1,cQ hw 2,h5]
 ·rw [oK h1];exact cQ hw 2
 ·rw [oW h1];exact sF (cQ hw 0) 1
 ·rw [oT h1];exact sF (cQ hw 0) 2
theorem aVl:∀(t u:Tm),cX t=true->cH t=some u->cX u=true:=by
 refine jG λk n ks ih u hw h=>?_
 by_cases h0:rdx k ks=0
 ·have hk5:k=5\/k=9\/k=12\/k=15\/k=16:=lK h;have hm:¬bF k<0:=by rcases hk5 with rfl|rfl|rfl|rfl|rfl<;>decide
  by_cases hj:(bF k).toNat<ks.length
  ·rw [iY hm h0 hj] at h;cases hv:cH (aI ks (bF k).toNat) with
   | none=>rw [hv] at h;cases h
   | some v=>
    rw [hv] at h;obtain rfl:=Option.some.inj h;obtain ⟨h1,h2⟩:=wf_iff.1 hw;refine wf_iff.2 ⟨λe=>by omega,wfL_iff.2 λt ht=>?_⟩;rcases List.mem_or_eq_of_mem_set ht with h3|rfl
    ·exact wfL_iff.1 h2 t h3
    ·exact ih _ (fG hj) _ (cQ hw _) hv
  ·rw [cH,Av h0,Aw hm,(eR ks _ Ac).2] at h;cases h
 ·rw [fY h0] at h;obtain rfl:=Option.some.inj h;exact aPl hw h0
theorem Hs.ins {t u:Tm}(h:Hs t u)(s:Nat->Tm):cX t=true->Hs (Go.Proofs.YtjlaenhcemacdaaGreat.ins s t) (Go.Proofs.YtjlaenhcemacdaaGreat.ins s u)/\cX u=true:=by
 induction h with
 | refl t=>exact λhw=>⟨.refl _,hw⟩
 | step h1 _ ih=>
  intro hw;obtain ⟨h2,h3⟩:=ih (aVl _ _ hw h1);exact ⟨.step (aSl s _ _ hw h1) h2,h3⟩
theorem aIa {b:Int}(hb:0<=b):∀(t:Tm) (c:Int),0<=c->cH (bR b c t)=(cH t).map (bR b c):=by
 refine jG λk n ks ih c hc=>?_
 by_cases h0:rdx k ks=0
 ·have h0':rdx k (bK b k c 0 ks)=0:=(aCg b c k ks).trans h0;by_cases hm:bF k<0
  ·rw [bR,cH,cH,Av h0,Av h0',Av hm,Av hm];rfl
  ·have hb2:=oB hm;have hk1:k≠1:=by rintro rfl;exact hm Ah
   by_cases hj:(bF k).toNat<ks.length
   ·rw [eQ hk1,iY hm h0 hj,iY hm h0' (by rw [cT];exact hj),jV hb2,ih _ (fG hj) c hc];cases cH (aI ks (bF k).toNat) with
    | none=>rfl
    | some v=>
     simp only [Option.map_some];rw [eQ hk1,kY hb2,kY hb2,lF]
   ·rw [bR,cH,cH,Av h0,Av h0',Aw hm,Aw hm,(eR ks _ Ac).2,(eR _ _ (by rw [cT];omega)).2];rfl
 ·have h0':rdx k (bK b k c 0 ks)≠0:=by rw [aCg];exact h0
  rw [fY h0,Option.map_some,aQf hb hc h0,bR,fY h0']
theorem Hs.sh {t u:Tm}(h:Hs t u){b c:Int}(hb:0<=b)(hc:0<=c):Hs (bR b c t) (bR b c u):=by
 induction h with
 | refl t=>exact .refl _
 | step h1 _ ih=>exact .step (by rw [aIa hb _ _ hc,h1];rfl) ih
inductive Ne:Tm->Prop
 | var (n:Int) (ks:List Tm):Ne (.mk 1 n ks)
 | node {k n:Int} {ks:List Tm}:¬bF k<0->(bF k).toNat<ks.length->Ne (aI ks (bF k).toNat)->Ne (.mk k n ks)
theorem Ne.kind {t:Tm}(h:Ne t):t.k=1\/t.k=5\/t.k=9\/t.k=12\/t.k=15\/t.k=16:=by
 cases h with
 | var n ks=>exact .inl rfl
 | @node k n ks hm _ _=>
  right
  show k=5\/k=9\/k=12\/k=15\/k=16;unfold bF at hm;by_cases a:k=5\/k=15\/k=16
  ·omega
  ·rw [Aw a] at hm;by_cases b:k=9
   ·omega
   ·rw [Aw b] at hm;by_cases c:k=12
    ·omega
    ·rw [Aw c] at hm;omega
theorem Ne.rdx {k:Int}{ks:List Tm}(h:Ne (aI ks (bF k).toNat)):Go.Proofs.YtjlaenhcemacdaaGreat.rdx k ks=0:=by
 rcases h.kind with h|h|h|h|h|h
 ·apply Classical.byContradiction
  intro hr;have h':gN ks (bF k).toNat=1:=h;rcases fC hr with ⟨_,rfl,h2⟩|⟨_,rfl,h2⟩|⟨_,rfl,h2⟩|⟨_,rfl,h2⟩|⟨_,rfl,h2⟩|⟨_,rfl,h2⟩
  ·rw [show (bF 5).toNat=0 from rfl,h2] at h';cases h'
  ·rw [show (bF 9).toNat=3 from rfl,h2] at h';cases h'
  ·rw [show (bF 9).toNat=3 from rfl,h2] at h';cases h'
  ·rw [show (bF 12).toNat=1 from rfl,h2] at h';cases h'
  ·rw [show (bF 15).toNat=0 from rfl,h2] at h';cases h'
  ·rw [show (bF 16).toNat=0 from rfl,h2] at h';cases h'
 all_goals exact sU (by rw [mG];omega)
theorem Ne.hst {t:Tm}(h:Ne t):cH t=none:=by
 induction h with
 | var n ks=>exact aFf (by show ¬((1:Int)=5\/(1:Int)=9\/(1:Int)=12\/(1:Int)=15\/(1:Int)=16);omega)
 | @node k n ks hm hj hn ih=>rw [iY hm (Ne.rdx hn) hj,ih];rfl
theorem Ne.sh {t:Tm}(h:Ne t)(b c:Int):Ne (bR b c t):=by
 induction h with
 | var n ks=>rw [bR];exact .var _ _
 | @node k n ks hm hj hn ih=>
  have hk1:k≠1:=by rintro rfl;exact hm Ah
  rw [eQ hk1];exact .node hm (by rw [cT];exact hj) (by rw [jV (oB hm)];exact ih)
def NeR (t:Tm):Prop:=∃u,Hs t u/\Ne u
theorem NeR.sh {t:Tm}(h:NeR t){b:Int}(hb:0<=b):NeR (bR b 0 t):=by
 obtain ⟨u,h1,h2⟩:=h;exact ⟨_,h1.sh hb Ah,h2.sh b 0⟩
theorem aVs {k n:Int}{ks:List Tm}(hm:¬bF k<0)(hj:(bF k).toNat<ks.length){u:Tm}(h:cH (aI ks (bF k).toNat)=some u):cH (.mk k n ks)=some (.mk k n (ks.set (bF k).toNat u)):=by
 rw [iY hm (sU (lK h)) hj,h];rfl
theorem Hs.at {k n:Int}(hm:¬bF k<0){t u:Tm}(h:Hs t u):∀{ks:List Tm},(bF k).toNat<ks.length->aI ks (bF k).toNat=t->Hs (.mk k n ks) (.mk k n (ks.set (bF k).toNat u)):=by
 induction h with
 | refl t=>
  intro ks hj hk;rw [show ks.set (bF k).toNat t=ks by rw [<- hk,cO hj];exact List.set_getElem_self hj];exact .refl _
 | @step t u v h1 _ ih=>
  intro ks hj hk;have h2:=ih (ks:=ks.set (bF k).toNat u) (by simpa using hj) (by rw [cO (by simpa using hj),List.getElem_set_self]);rw [List.set_set] at h2;exact .step (aVs hm hj (by rw [hk];exact h1)) h2
def lfa (A:Tm)(p:Nat->Tm):Nat->Tm
 | 0=>bR 1 0 A
 | n+1=>bR 1 0 (p n)
inductive ST:(Nat->Tm)->Tm->Tm->Prop
 | var {p:Nat->Tm} {n:Int} {ks:List Tm}:0<=n->ST p (.mk 1 n ks) (p n.toNat)
 | srt {p:Nat->Tm} {n:Int} {ks:List Tm}:ST p (.mk 2 n ks) (.mk 2 (n+1) [])
 | nat {p:Nat->Tm} {n:Int} {ks:List Tm}:ST p (.mk 6 n ks) (.mk 2 0 [])
 | zer {p:Nat->Tm} {n:Int} {ks:List Tm}:ST p (.mk 7 n ks) (.mk 6 0 [])
 | suc {p:Nat->Tm} {n:Int} {ks:List Tm}:ST p (.mk 8 n ks) (.mk 6 0 [])
 | bnd {p:Nat->Tm} {k n i j:Int} {A B a b:Tm} {ka kb:List Tm}:k=3\/k=13->ST p A a->Hs a (.mk 2 i ka)->ST (lfa A p) B b->Hs b (.mk 2 j kb)->ST p (.mk k n [A,B]) (.mk 2 (if j<i then i else j) [])
 | lam {p:Nat->Tm} {n:Int} {A b u:Tm}:ST (lfa A p) b u->ST p (.mk 4 n [A,b]) (.mk 3 0 [A,u])
 | app {p:Nat->Tm} {n m:Int} {f u r A B:Tm}:ST p f r->Hs r (.mk 3 m [A,B])->ST p (.mk 5 n [f,u]) (bT u 0 0 B)
 | elm {p:Nat->Tm} {n:Int} {P z s m:Tm}:ST p (.mk 9 n [P,z,s,m]) (eH P m)
 | idt {p:Nat->Tm} {n i:Int} {A a x y:Tm} {ka:List Tm}:ST p A a->Hs a (.mk 2 i ka)->ST p (.mk 10 n [A,x,y]) (.mk 2 i [])
 | rfx {p:Nat->Tm} {n:Int} {b r:Tm}:ST p b r->ST p (.mk 11 n [b]) (.mk 10 0 [r,b,b])
 | mov {p:Nat->Tm} {n m:Int} {P e y r A x x':Tm}:ST p e r->Hs r (.mk 10 m [A,x,x'])->ST p (.mk 12 n [P,e,y]) (eH P x')
 | pai {p:Nat->Tm} {n:Int} {S a b:Tm}:ST p (.mk 14 n [S,a,b]) S
 | fst {p:Nat->Tm} {n m:Int} {q r A B:Tm}:ST p q r->Hs r (.mk 13 m [A,B])->ST p (.mk 15 n [q]) A
 | snd {p:Nat->Tm} {n m:Int} {q r A B:Tm}:ST p q r->Hs r (.mk 13 m [A,B])->ST p (.mk 16 n [q]) (bT (.mk 15 0 [q]) 0 0 B)
inductive An:(Nat->Tm)->(Nat->Tm)->Tm->Tm->Prop
 | var {s p:Nat->Tm} {n:Int} {ks:List Tm}:An s p (.mk 1 n ks) (p n.toNat)
 | srt {s p:Nat->Tm} {n:Int} {ks:List Tm}:An s p (.mk 2 n ks) (.mk 2 (n+1) [])
 | nat {s p:Nat->Tm} {n:Int} {ks:List Tm}:An s p (.mk 6 n ks) (.mk 2 0 [])
 | zer {s p:Nat->Tm} {n:Int} {ks:List Tm}:An s p (.mk 7 n ks) (.mk 6 0 [])
 | suc {s p:Nat->Tm} {n:Int} {ks:List Tm}:An s p (.mk 8 n ks) (.mk 6 0 [])
 | bnd {s p:Nat->Tm} {k n i j:Int} {A B a b:Tm} {ka kb:List Tm}:k=3\/k=13->An s p A a->Hs a (.mk 2 i ka)->An (lft s) (lfa (ins s A) p) B b->Hs b (.mk 2 j kb)->An s p (.mk k n [A,B]) (.mk 2 (if j<i then i else j) [])
 | lam {s p:Nat->Tm} {n:Int} {A b u:Tm}:An (lft s) (lfa (ins s A) p) b u->An s p (.mk 4 n [A,b]) (.mk 3 0 [ins s A,u])
 | app {s p:Nat->Tm} {n m:Int} {f u r A B:Tm}:An s p f r->Hs r (.mk 3 m [A,B])->An s p (.mk 5 n [f,u]) (bT (ins s u) 0 0 B)
 | elm {s p:Nat->Tm} {n:Int} {P z q m:Tm}:An s p (.mk 9 n [P,z,q,m]) (eH (ins s P) (ins s m))
 | idt {s p:Nat->Tm} {n i:Int} {A a x y:Tm} {ka:List Tm}:An s p A a->Hs a (.mk 2 i ka)->An s p (.mk 10 n [A,x,y]) (.mk 2 i [])
 | rfx {s p:Nat->Tm} {n:Int} {b r:Tm}:An s p b r->An s p (.mk 11 n [b]) (.mk 10 0 [r,ins s b,ins s b])
 | mov {s p:Nat->Tm} {n m:Int} {P e y r A x x':Tm}:An s p e r->Hs r (.mk 10 m [A,x,x'])->An s p (.mk 12 n [P,e,y]) (eH (ins s P) x')
 | pai {s p:Nat->Tm} {n:Int} {S a b:Tm}:An s p (.mk 14 n [S,a,b]) (ins s S)
 | fst {s p:Nat->Tm} {n m:Int} {q r A B:Tm}:An s p q r->Hs r (.mk 13 m [A,B])->An s p (.mk 15 n [q]) A
 | snd {s p:Nat->Tm} {n m:Int} {q r A B:Tm}:An s p q r->Hs r (.mk 13 m [A,B])->An s p (.mk 16 n [q]) (bT (.mk 15 0 [ins s q]) 0 0 B)
theorem nh (k n:Int)(ks:List Tm)(h:k=2\/k=3\/k=6\/k=10\/k=13):cH (.mk k n ks)=none:=aFf (by show ¬(k=5\/k=9\/k=12\/k=15\/k=16);omega)
theorem Hs.one_of {r:Tm}{k n k' n':Int}{ks ks':List Tm}(h:Hs r (.mk k n ks))(h':Hs r (.mk k' n' ks'))(hk:k=2\/k=3\/k=6\/k=10\/k=13)(hk':k'=2\/k'=3\/k'=6\/k'=10\/k'=13):Tm.mk k n ks = .mk k' n' ks':=h.det (nh _ _ _ hk) h' (nh _ _ _ hk')
theorem uN {b k c:Int}{ks:List Tm}{x y:Tm}(h:bK b k c 0 ks=[x,y]):∃x0 y0,ks=[x0,y0]/\x=bR b c x0/\y=bR b (c+aN k 1) y0:=by
 have hl:=cT b k c ks 0;rw [h] at hl;obtain ⟨x0,y0,rfl⟩:=kP hl.symm;simp only [bK] at h;injection h with h1 h2;injection h2 with h2 _;refine ⟨x0,y0,rfl,?_,h2.symm⟩;rw [<- h1];congr 1;unfold aN;rw [Aw (by rintro ⟨h,-⟩;cases h)];omega
theorem aGo {b k c:Int}{ks:List Tm}{x:Tm}(h:bK b k c 0 ks=[x]):∃x0,ks=[x0]/\x=bR b c x0:=by
 have hl:=cT b k c ks 0;rw [h] at hl;obtain ⟨x0,rfl⟩:=mB hl.symm;simp only [bK] at h;injection h with h1 _;refine ⟨x0,rfl,?_⟩;rw [<- h1];congr 1;unfold aN;rw [Aw (by rintro ⟨h,-⟩;cases h)];omega
theorem xE {b k c:Int}(hb:binds k=false){ks l:List Tm}(h:bK b k c 0 ks=l):l=ks.map (bR b c):=by rw [<- h,kY hb]
theorem oV {b c:Int}(hb:0<=b)(hc:0<=c){r u:Tm}(h:Hs (bR b c r) u):∃r',Hs r r'/\u=bR b c r':=by
 generalize hr:bR b c r=r1 at h;induction h generalizing r with
 | refl t=>exact ⟨r,.refl _,hr.symm⟩
 | step h1 _ ih=>
  subst hr;rw [aIa hb _ _ hc] at h1;cases hv:cH r with
  | none=>rw [hv] at h1;cases h1
  | some v=>
   rw [hv] at h1;obtain ⟨r',h3,h4⟩:=ih (Option.some.inj h1);exact ⟨r',.step hv h3,h4⟩
theorem gT {b c k n:Int}{ks:List Tm}{t:Tm}(h:bR b c t = .mk k n ks):∃n0 ks0,t = .mk k n0 ks0/\bK b k c 0 ks0=ks/\(k≠1->n0=n):=by
 obtain ⟨k0,n0,ks0⟩:=t;rw [bR] at h;injection h with h1 h2 h3;subst h1;exact ⟨n0,ks0,rfl,h3,λe=>by rw [Aw (λh=>e h.1)] at h2;exact h2⟩
theorem aMm {b:Int}(hb:0<=b){c:Nat}{p p':Nat->Tm}(A:Tm)(h:∀n:Nat,p' (if c<=n then n+b.toNat else n)=bR b (c:Int) (p n)):∀n:Nat,lfa (bR b (c:Int) A) p' (if c+1<=n then n+b.toNat else n)=bR b ((c+1:Nat):Int) (lfa A p n):=by
 intro n;have hx:=λt=>(aIe 1 b Ah hb).1 t 0 (c:Int) Ac
 cases n with
 | zero=>rw [Aw Ac,lfa,lfa];exact (hx A).symm
 | succ n=>
  rw [lfa];have h1:=h n;by_cases hn:c<=n
  ·rw [Av Ac,show n+1+b.toNat=(n+b.toNat)+1 by omega,lfa];rw [Av hn] at h1;rw [h1];exact (hx _).symm
  ·rw [Aw Ac,lfa];rw [Aw hn] at h1;rw [h1];exact (hx _).symm
theorem ST.unsh {p':Nat->Tm}{t' s':Tm}(h:ST p' t' s'):∀{b:Int} {c:Nat} {t:Tm} {p:Nat->Tm},0<=b->bR b (c:Int) t=t'->(∀n:Nat,p' (if c<=n then n+b.toNat else n)=bR b (c:Int) (p n))->∃s,s'=bR b (c:Int) s/\ST p t s:=by
 induction h with
 | @var p' n ks h0=>
  intro b c t p hb he hp;obtain ⟨k0,n0,ks0⟩:=t;rw [bR] at he;injection he with h1 h2 h3;subst h1;by_cases hn:(c:Int)<=n0
  ·rw [Av ⟨rfl,hn⟩] at h2;have:=hp n0.toNat
   rw [Av Ac,show n0.toNat+b.toNat=n.toNat by omega] at this;exact ⟨_,this,.var Ac⟩
  ·rw [Aw (λh=>hn h.2)] at h2;subst h2;have:=hp n0.toNat
   rw [Aw Ac] at this;exact ⟨_,this,.var h0⟩
 | @srt p' n ks=>
  intro b c t p hb he hp;obtain ⟨n0,ks0,rfl,_,hn⟩:=gT he;rw [hn Ah];exact ⟨.mk 2 (n+1) [],by rw [eQ Ah,bK],.srt⟩
 | @nat p' n ks=>
  intro b c t p hb he hp;obtain ⟨n0,ks0,rfl,_,hn⟩:=gT he;exact ⟨.mk 2 0 [],by rw [eQ Ah,bK],.nat⟩
 | @zer p' n ks=>
  intro b c t p hb he hp;obtain ⟨n0,ks0,rfl,_,hn⟩:=gT he;exact ⟨.mk 6 0 [],by rw [eQ Ah,bK],.zer⟩
 | @suc p' n ks=>
  intro b c t p hb he hp;obtain ⟨n0,ks0,rfl,_,hn⟩:=gT he;exact ⟨.mk 6 0 [],by rw [eQ Ah,bK],.suc⟩
 | @bnd p' k n i j A B a bb ka kb hk h1 hs1 h2 hs2 i1 i2=>
  intro b c t p hb he hp;obtain ⟨n0,ks0,rfl,hl,hn⟩:=gT he;obtain ⟨A0,B0,rfl,rfl,rfl⟩:=uN hl;obtain ⟨a0,rfl,h3⟩:=i1 hb rfl hp;have hu:aN k 1=1:=by rcases hk with rfl|rfl<;>rfl
  rw [hu] at i2;obtain ⟨b0,rfl,h4⟩:=i2 (c:=c+1) (t:=B0) hb Ag (aMm hb A0 hp);obtain ⟨r1,h5,h6⟩:=oV hb Ac hs1;obtain ⟨r2,h7,h8⟩:=oV hb Ac hs2;obtain ⟨i0,l0,rfl,_,h9⟩:=gT h6.symm;obtain ⟨j0,l1,rfl,_,h10⟩:=gT h8.symm;rw [h9 Ah] at h5;rw [h10 Ah] at h7;exact ⟨.mk 2 (if j<i then i else j) [],by rw [eQ Ah,bK],.bnd hk h3 h5 h4 h7⟩
 | @lam p' n A bb u h1 i1=>
  intro b c t p hb he hp;obtain ⟨n0,ks0,rfl,hl,hn⟩:=gT he;obtain ⟨A0,B0,rfl,rfl,rfl⟩:=uN hl;obtain ⟨u0,rfl,h4⟩:=i1 (c:=c+1) (t:=B0) hb (by rw [show aN 4 1=1 from rfl];simp) (aMm hb A0 hp);exact ⟨.mk 3 0 [A0,u0],by rw [eQ Ah];simp only [bK];simp [aN,binds],.lam h4⟩
 | @app p' n m f u r A B h1 hs1 i1=>
  intro b c t p hb he hp;obtain ⟨n0,ks0,rfl,hl,hn⟩:=gT he;obtain ⟨f0,u0,rfl,rfl,rfl⟩:=uN hl;obtain ⟨r0,rfl,h3⟩:=i1 hb rfl hp;obtain ⟨r1,h5,h6⟩:=oV hb Ac hs1;obtain ⟨m0,l0,rfl,h7,h8⟩:=gT h6.symm;obtain ⟨A0,B0,rfl,rfl,rfl⟩:=uN h7;refine ⟨bT u0 0 0 B0,?_,.app h3 h5⟩;have:=(aEc u0 b (c:Int) hb Ac).1 B0 0 Ah;rw [Int.add_zero,Int.add_zero] at this;rw [this,show aN 5 1=0 from rfl,show aN 3 1=1 from rfl,Int.add_zero]
 | @elm p' n P z q m=>
  intro b c t p hb he hp;obtain ⟨n0,ks0,rfl,hl,hn⟩:=gT he;have hl2:=xE (by rfl) hl;have hlen:ks0.length=4:=by have:=congrArg List.length hl2;simpa using this.symm
  obtain ⟨P0,z0,q0,m0,rfl⟩:=wJ hlen;simp only [List.map_cons,List.map_nil] at hl2;injection hl2 with e1 e2;injection e2 with e2 e3;injection e3 with e3 e4;injection e4 with e4 _;subst e1 e2 e3 e4;exact ⟨eH P0 m0,by rw [eH,eH,eQ Ah,kY rfl];rfl,.elm⟩
 | @idt p' n i A a x y ka h1 hs1 i1=>
  intro b c t p hb he hp;obtain ⟨n0,ks0,rfl,hl,hn⟩:=gT he;have hl2:=xE (by rfl) hl;have hlen:ks0.length=3:=by have:=congrArg List.length hl2;simpa using this.symm
  obtain ⟨A0,x0,y0,rfl⟩:=gA hlen;simp only [List.map_cons,List.map_nil] at hl2;injection hl2 with e1 e2;injection e2 with e2 e3;injection e3 with e3 _;subst e1 e2 e3;obtain ⟨a0,rfl,h3⟩:=i1 hb rfl hp;obtain ⟨r1,h5,h6⟩:=oV hb Ac hs1;obtain ⟨m0,l0,rfl,h7,h8⟩:=gT h6.symm;rw [h8 Ah] at h5;exact ⟨.mk 2 i [],by rw [eQ Ah,bK],.idt h3 h5⟩
 | @rfx p' n bb r h1 i1=>
  intro b c t p hb he hp;obtain ⟨n0,ks0,rfl,hl,hn⟩:=gT he;obtain ⟨x0,rfl,rfl⟩:=aGo hl;obtain ⟨r0,rfl,h3⟩:=i1 hb (by rfl) hp;exact ⟨.mk 10 0 [r0,x0,x0],by rw [eQ Ah,kY (by rfl)];simp,.rfx h3⟩
 | @mov p' n m P e y r A x x' h1 hs1 i1=>
  intro b c t p hb he hp;obtain ⟨n0,ks0,rfl,hl,hn⟩:=gT he;have hl2:=xE (by rfl) hl;have hlen:ks0.length=3:=by have:=congrArg List.length hl2;simpa using this.symm
  obtain ⟨P0,e0,y0,rfl⟩:=gA hlen;simp only [List.map_cons,List.map_nil] at hl2;injection hl2 with e1 e2;injection e2 with e2 e3;injection e3 with e3 _;subst e1 e2 e3;obtain ⟨r0,rfl,h3⟩:=i1 hb (by rfl) hp;obtain ⟨r1,h5,h6⟩:=oV hb Ac hs1;obtain ⟨m0,l0,rfl,h7,h8⟩:=gT h6.symm;have h72:=xE (by rfl) h7;have hlen:l0.length=3:=by have:=congrArg List.length h72;simpa using this.symm
  obtain ⟨A0,x0,w0,rfl⟩:=gA hlen;simp only [List.map_cons,List.map_nil] at h72;injection h72 with e1 e2;injection e2 with e2 e3;injection e3 with e3 _;subst e1 e2 e3;exact ⟨eH P0 w0,by rw [eH,eH,eQ Ah,kY (by rfl)];rfl,.mov h3 h5⟩
 | @pai p' n S a bb=>
  intro b c t p hb he hp;obtain ⟨n0,ks0,rfl,hl,hn⟩:=gT he;have hl2:=xE (by rfl) hl;have hlen:ks0.length=3:=by have:=congrArg List.length hl2;simpa using this.symm
  obtain ⟨A0,x0,y0,rfl⟩:=gA hlen;simp only [List.map_cons,List.map_nil] at hl2;injection hl2 with e1 e2;subst e1;exact ⟨A0,by rfl,.pai⟩
 | @fst p' n m q r A B h1 hs1 i1=>
  intro b c t p hb he hp;obtain ⟨n0,ks0,rfl,hl,hn⟩:=gT he;obtain ⟨x0,rfl,rfl⟩:=aGo hl;obtain ⟨r0,rfl,h3⟩:=i1 hb (by rfl) hp;obtain ⟨r1,h5,h6⟩:=oV hb Ac hs1;obtain ⟨m0,l0,rfl,h7,h8⟩:=gT h6.symm;obtain ⟨A0,B0,rfl,rfl,rfl⟩:=uN h7;exact ⟨A0,by rfl,.fst h3 h5⟩
 | @snd p' n m q r A B h1 hs1 i1=>
  intro b c t p hb he hp;obtain ⟨n0,ks0,rfl,hl,hn⟩:=gT he;obtain ⟨x0,rfl,rfl⟩:=aGo hl;obtain ⟨r0,rfl,h3⟩:=i1 hb (by rfl) hp;obtain ⟨r1,h5,h6⟩:=oV hb Ac hs1;obtain ⟨m0,l0,rfl,h7,h8⟩:=gT h6.symm;obtain ⟨A0,B0,rfl,rfl,rfl⟩:=uN h7;refine ⟨bT (.mk 15 0 [x0]) 0 0 B0,?_,.snd h3 h5⟩;have:=(aEc (.mk 15 0 [x0]) b (c:Int) hb Ac).1 B0 0 Ah;rw [Int.add_zero,Int.add_zero,eQ Ah,kY (by rfl)] at this;rw [this];rfl
theorem aVh (u:Tm)(hu:pK u=true):(∀(t:Tm) (x d:Int),pK t=true->pK (bT u x d t)=true)/\∀(ts:List Tm) (k x d:Int) (i:Nat),rF ts=true->rF (cE u k x d i ts)=true:=by
 refine bA (λk n ks ih x d h=>?_) (λk x d i _=>rfl) (λt ts h1 h2 k x d i h=>?_)
 ·rw [pK,Bool.and_eq_true] at h;rw [bT];split
  ·rw [(aCi d).1];exact hu
  ·rw [pK,h.1,ih k x d 0 h.2];rfl
 ·rw [rF,Bool.and_eq_true] at h;rw [cE,rF,h1 _ _ h.1,h2 k x d (i+1) h.2];rfl
theorem iW {t:Tm}(h:aE t=true):pK t=true:=shape_nz.1 _ _ (aY h)
def NzR (o:Tm):Prop:=pK o=true/\o.size<=200000
theorem aAq {t:Tm}(h:aE t=true):NzR t:=⟨iW h,by have:=cL h;omega⟩
theorem aNn {u t:Tm}(hu:pK u=true)(huz:u.size<=401)(ht:aE t=true):NzR (bT u 0 0 t):=by
 refine ⟨(aVh u hu).1 t 0 0 (iW ht),?_⟩;have h1:=sQ u huz Ac t 0 0;have h2:=cL ht;have h3:t.size*401<=400*401:=Nat.mul_le_mul_right _ h2;omega
theorem xR {k:Int}(hk:(k != 0)=true){a b:Tm}(ha:aE a=true)(hb:aE b=true):NzR (.mk k 0 [a,b]):=by
 have h1:=cL ha;have h2:=cL hb;refine ⟨?_,by simp only [Tm.size,aG];omega⟩;simp only [pK,rF,hk,iW ha,iW hb];rfl
theorem dI {α β:Type}{o:Option (Rs α)}{f:α->Option (Rs β)}{x:β}(h:bd o f=some (.ok x)):∃a,o=some (.ok a)/\f a=some (.ok x):=by
 rcases aM h with ⟨b,_,hb⟩|h
 ·cases hb
 ·exact h
theorem bY {α:Type}{a b:α}(h:(some (.ok a):Option (Rs α))=some (.ok b)):a=b:=by injection h with h;injection h
theorem aIj {d:Nat}{k n:Int}{ks:List Tm}(h:shape d (.mk k n ks)=true)(hn:¬(k=3\/k=13)/\¬k=4/\¬k=5/\¬k=9/\¬k=10/\¬k=12/\¬k=14/\¬k=1/\¬k=2/\¬k=6/\¬k=7/\¬k=8/\¬k=11):k=15\/k=16:=by
 obtain ⟨q,_,ha,_,_,_⟩:=cD h;unfold aX at ha;repeat' split at ha
 all_goals omega
theorem aDd {N:Nat}{ctx:List Tm}{k n:Int}{ks:List Tm}{o:Tm}(hv:aE (.mk k n ks)=true)(hvc:∀u,u∈ctx->aE u=true)(h:dU (bE N) ctx (.mk k n ks)=some (.ok o)):NzR o:=by
 have leaf:∀(k' n':Int),(k' != 0)=true->NzR (.mk k' n' []):=λk' n' hk=>⟨by simp [pK,rF,hk],by simp [Tm.size,aG]⟩
 have hkv:∀i,i<ks.length->aE (aI ks i)=true:=λi hi=>aW hv hi
 have hlen:=fH hv;rw [dU] at h;by_cases h3:k=3\/k=13
 ·rw [Av h3] at h;obtain ⟨i,_,h⟩:=dI h;obtain ⟨j,_,h⟩:=dI h;have:=bY h;subst this;exact leaf _ _ rfl
 rw [Aw h3] at h;by_cases h4:k=4
 ·rw [Av h4] at h;subst h4;have h0:aX 4=2:=rfl;obtain ⟨i,_,h⟩:=dI h;obtain ⟨u,hu,h⟩:=dI h;obtain ⟨_,_,h⟩:=dI h;have:=bY h;subst this;exact xR rfl (hkv 0 Ac) (dD hu)
 rw [Aw h4] at h;by_cases h5:k=5
 ·rw [Av h5] at h;subst h5;have h0:aX 5=2:=rfl;obtain ⟨hh,h1,h⟩:=dI h;obtain ⟨_,_,h⟩:=dI h;obtain ⟨hk,hvh⟩:=pA h1;obtain ⟨kh,nh,sh⟩:=hh;obtain rfl:kh=3:=hk;obtain ⟨_,_,_,_,_,_,rfl⟩:=zQ (k:=3) rfl hvh;have:=bY h;subst this;have hu:=hkv 1 Ac;exact aNn (iW hu) (by have:=cL hu;omega) (aW (i:=1) hvh (by show 1<2;omega))
 rw [Aw h5] at h;by_cases h9:k=9
 ·rw [Av h9] at h;subst h9;have h0:aX 9=4:=rfl;obtain ⟨_,_,h⟩:=dI h;obtain ⟨_,_,h⟩:=dI h;obtain ⟨_,_,h⟩:=dI h;obtain ⟨_,_,h⟩:=dI h;have:=bY h;subst this;exact xR rfl (hkv 0 Ac) (hkv 3 Ac)
 rw [Aw h9] at h;by_cases h10:k=10
 ·rw [Av h10] at h;obtain ⟨_,_,h⟩:=dI h;obtain ⟨_,_,h⟩:=dI h;obtain ⟨_,_,h⟩:=dI h;have:=bY h;subst this;exact leaf _ _ rfl
 rw [Aw h10] at h;by_cases h12:k=12
 ·rw [Av h12] at h;subst h12;have h0:aX 12=3:=rfl;obtain ⟨hh,h1,h⟩:=dI h;obtain ⟨_,_,h⟩:=dI h;obtain ⟨_,_,h⟩:=dI h;obtain ⟨hk,hvh⟩:=pA h1;obtain ⟨kh,nh,sh⟩:=hh;obtain rfl:kh=10:=hk;obtain ⟨_,_,_,_,_,_,_,_,_,rfl⟩:=aTf (k:=10) rfl hvh;have:=bY h;subst this;exact xR rfl (hkv 0 Ac) (aW (i:=2) hvh (by show 2<3;omega))
 rw [Aw h12] at h;by_cases h14:k=14
 ·rw [Av h14] at h;subst h14;have h0:aX 14=3:=rfl;obtain ⟨_,_,h⟩:=dI h;obtain ⟨_,_,h⟩:=dI h;obtain ⟨_,_,h⟩:=dI h;obtain ⟨_,_,h⟩:=dI h;obtain ⟨_,_,h⟩:=dI h;have:=bY h;subst this;exact aAq (hkv 0 Ac)
 rw [Aw h14] at h;by_cases h1:k=1
 ·rw [Av h1] at h;unfold aEp at h;split at h
  ·injection h with h;cases h
  ·rename_i hl;have:=bY h;subst this;obtain ⟨q,_,_,hn0,_,_⟩:=cD (aY hv);have hj:ctx.length - 1 - n.toNat<ctx.length:=by omega
   have hvx:=hvc _ (gM hj);rw [show ctx.getD (ctx.length - 1 - n.toNat) default=ctx[ctx.length - 1 - n.toNat] by simp [List.getD,sE hj]];refine ⟨by rw [(aCi (n+1)).1];exact iW hvx,by rw [nC];have:=cL hvx;omega⟩
 rw [Aw h1] at h;by_cases h2:k=2
 ·rw [Av h2] at h;split at h
  ·injection h with h;cases h
  ·have:=bY h;subst this;exact leaf _ _ rfl
 rw [Aw h2] at h;by_cases h6:k=6
 ·rw [Av h6] at h;have:=bY h;subst this;exact leaf _ _ rfl
 rw [Aw h6] at h;by_cases h7:k=7
 ·rw [Av h7] at h;have:=bY h;subst this;exact leaf _ _ rfl
 rw [Aw h7] at h;by_cases h8:k=8
 ·rw [Av h8] at h;obtain ⟨_,_,h⟩:=dI h;have:=bY h;subst this;exact leaf _ _ rfl
 rw [Aw h8] at h;by_cases h11:k=11
 ·rw [Av h11] at h;subst h11;have h0:aX 11=1:=rfl;obtain ⟨s,hs,h⟩:=dI h;obtain ⟨_,_,h⟩:=dI h;have:=bY h;subst this;have hva:=hkv 0 Ac;have hvs:=dD hs;have z1:=cL hva;have z2:=cL hvs;exact ⟨by simp only [pK,rF,iW hva,iW hvs];rfl,by simp only [Tm.size,aG];omega⟩
 rw [Aw h11] at h;obtain ⟨hh,hsx,h⟩:=dI h;obtain ⟨hk,hvh⟩:=pA hsx;obtain ⟨kh,nh,sh⟩:=hh;obtain rfl:kh=13:=hk;obtain ⟨_,_,_,_,_,_,rfl⟩:=zQ (k:=13) rfl hvh;have hks:0<ks.length:=by
  have ha:=hlen;have hm:k=15\/k=16:=aIj (aY hv) ⟨h3,h4,h5,h9,h10,h12,h14,h1,h2,h6,h7,h8,h11⟩;rcases hm with rfl|rfl
  ·have h0:aX 15=1:=rfl;omega
  ·have h0:aX 16=1:=rfl;omega
 split at h
 ·have:=bY h;subst this;exact aAq (aW (i:=0) hvh (by show 0<2;omega))
 ·have:=bY h;subst this;have hu:=hkv 0 hks;have hz:=cL hu;exact aNn (by simp only [pK,rF,iW hu];rfl) (by simp only [Tm.size,aG];omega) (aW (i:=1) hvh (by show 1<2;omega))
theorem jY {w:Bb}{z:Nat}{k n:Int}{ks:List Tm}{A:Ba}(hZ:Blk w z Zr)(hv:pK (.mk k n ks)=true)(hr:Rd w A 0 ks)(x y v:Value) :
  Rd (((w.setCell ⟨z,0,none⟩ x).setCell ⟨z,1,none⟩ y).setCell ⟨z,2,none⟩ v) A 0 ks:=by
 rw [pK,Bool.and_eq_true] at hv;exact (((((aNd hZ).2 ks A 0 hv.2 hr).setCell (a:=⟨z,0,none⟩) (λh=>h rfl) x).setCell (a:=⟨z,1,none⟩) (λh=>h rfl) y).setCell (a:=⟨z,2,none⟩) (λh=>h rfl) v).rd
theorem aBq (ctx:List Tm)(C:Ba)(cc:Nat)(k n:Int)(ks:List Tm)(A:Ba)(c:Nat)(r:Rs Tm)(w:Bb)(q1:(k==1)=false)(q2:(k==2)=false)(q6:(k==6)=false)(q7:(k==7)=false)(q8:(k==8)=false)(q11:(k==11)=false)(hX:Hid (∀(w:Bb),Rd w C 0 ctx->Rd w A 0 ks->Calls prog 153 #[.slice C ctx.length cc,.agg (Ro k n A ks.length c)] w (pP w r)))(hnz:∀o,r = .ok o->pK o=true)(hrc:Rd w C 0 ctx)(hra:Rd w A 0 ks) :
  Calls prog 126 #[.slice C ctx.length cc,.agg (Ro k n A ks.length c)] w (pP w r):=by
 cases r with
 | ok o=>
  obtain ⟨k1,n1,s1⟩:=o;replace hnz:=hnz _ rfl;go_enter func126,ntmps126;go_wp2_with (go_at_call 153;refine (hX.out _ ((hrc.alloc _).alloc _) ((hra.alloc _).alloc _)).mono ?_;rintro e w1 ⟨A1,c1,rfl,hl1,r1,hb1⟩;have hZ1:Blk w1 (w.heap.size+1) Zr:=(aC _ 32 Zr Ag).keep hb1;have g1:Bw w w1:=bN bw2 hb1;obtain ⟨d0,d1,d2,e0,e1,e2,lz⟩:=dN hZ1);refine bodyPost_ret (v:=.tuple #[.agg (Ro k1 n1 A1 s1.length c1),.int .i64 0]) (by simp [results,results126,go_sem,d0,d1,d2]) rfl ⟨A1,c1,rfl,hl1,jY hZ1 hnz r1 _ _ _,?_⟩;exact bV g1
 | no b=>
  clear hnz;go_enter func126,ntmps126;go_wp2_with (go_at_call 153;refine (hX.out _ ((hrc.alloc _).alloc _) ((hra.alloc _).alloc _)).mono ?_;rintro e w1 ⟨k1,n1,A1,l1,c1,rfl,hb1⟩;have hZ1:Blk w1 (w.heap.size+1) Zr:=(aC _ 32 Zr Ag).keep hb1;have g1:Bw w w1:=bN bw2 hb1;obtain ⟨d0,d1,d2,e0,e1,e2,lz⟩:=dN hZ1);refine bodyPost_ret (v:=.tuple #[.agg (Ro k1 n1 A1 l1 c1),.int .i64 (dB b)]) (by simp [results,results126,go_sem,d0,d1,d2]) rfl ⟨k1,n1,A1,l1,c1,rfl,?_⟩;exact bV g1
theorem aRe (ctx:List Tm)(C:Ba)(cc:Nat)(k n:Int)(ks:List Tm)(A:Ba)(c:Nat)(r:Rs Tm)(w:Bb)(hk:((k==3)=true)\/((k==3)=false/\(k==13)=true))(hX:Hid (∀(w:Bb),Rd w C 0 ctx->Rd w A 0 ks->Calls prog 119 #[.slice C ctx.length cc,.agg (Ro k n A ks.length c)] w (pP w r)))(hnz:∀o,r = .ok o->pK o=true)(hrc:Rd w C 0 ctx)(hra:Rd w A 0 ks) :
  Calls prog 102 #[.slice C ctx.length cc,.agg (Ro k n A ks.length c)] w (pP w r):=by
 rcases hk with q3|⟨q3,q13⟩
 ·cases r with
   | ok o=>
    obtain ⟨k1,n1,s1⟩:=o;replace hnz:=hnz _ rfl;go_enter func102,ntmps102;go_wp2_with (go_at_call 119;refine (hX.out _ ((hrc.alloc _).alloc _) ((hra.alloc _).alloc _)).mono ?_;rintro e w1 ⟨A1,c1,rfl,hl1,r1,hb1⟩;have hZ1:Blk w1 (w.heap.size+1) Zr:=(aC _ 32 Zr Ag).keep hb1;have g1:Bw w w1:=bN bw2 hb1;obtain ⟨d0,d1,d2,e0,e1,e2,lz⟩:=dN hZ1);refine bodyPost_ret (v:=.tuple #[.agg (Ro k1 n1 A1 s1.length c1),.int .i64 0]) (by simp [results,results102,go_sem,d0,d1,d2]) rfl ⟨A1,c1,rfl,hl1,jY hZ1 hnz r1 _ _ _,?_⟩;exact bV g1
   | no b=>
    clear hnz;go_enter func102,ntmps102;go_wp2_with (go_at_call 119;refine (hX.out _ ((hrc.alloc _).alloc _) ((hra.alloc _).alloc _)).mono ?_;rintro e w1 ⟨k1,n1,A1,l1,c1,rfl,hb1⟩;have hZ1:Blk w1 (w.heap.size+1) Zr:=(aC _ 32 Zr Ag).keep hb1;have g1:Bw w w1:=bN bw2 hb1;obtain ⟨d0,d1,d2,e0,e1,e2,lz⟩:=dN hZ1);refine bodyPost_ret (v:=.tuple #[.agg (Ro k1 n1 A1 l1 c1),.int .i64 (dB b)]) (by simp [results,results102,go_sem,d0,d1,d2]) rfl ⟨k1,n1,A1,l1,c1,rfl,?_⟩;exact bV g1
 ·cases r with
   | ok o=>
    obtain ⟨k1,n1,s1⟩:=o;replace hnz:=hnz _ rfl;go_enter func102,ntmps102;go_wp2_with (go_at_call 119;refine (hX.out _ ((hrc.alloc _).alloc _) ((hra.alloc _).alloc _)).mono ?_;rintro e w1 ⟨A1,c1,rfl,hl1,r1,hb1⟩;have hZ1:Blk w1 (w.heap.size+1) Zr:=(aC _ 32 Zr Ag).keep hb1;have g1:Bw w w1:=bN bw2 hb1;obtain ⟨d0,d1,d2,e0,e1,e2,lz⟩:=dN hZ1);refine bodyPost_ret (v:=.tuple #[.agg (Ro k1 n1 A1 s1.length c1),.int .i64 0]) (by simp [results,results102,go_sem,d0,d1,d2]) rfl ⟨A1,c1,rfl,hl1,jY hZ1 hnz r1 _ _ _,?_⟩;exact bV g1
   | no b=>
    clear hnz;go_enter func102,ntmps102;go_wp2_with (go_at_call 119;refine (hX.out _ ((hrc.alloc _).alloc _) ((hra.alloc _).alloc _)).mono ?_;rintro e w1 ⟨k1,n1,A1,l1,c1,rfl,hb1⟩;have hZ1:Blk w1 (w.heap.size+1) Zr:=(aC _ 32 Zr Ag).keep hb1;have g1:Bw w w1:=bN bw2 hb1;obtain ⟨d0,d1,d2,e0,e1,e2,lz⟩:=dN hZ1);refine bodyPost_ret (v:=.tuple #[.agg (Ro k1 n1 A1 l1 c1),.int .i64 (dB b)]) (by simp [results,results102,go_sem,d0,d1,d2]) rfl ⟨k1,n1,A1,l1,c1,rfl,?_⟩;exact bV g1
theorem aQu (ctx:List Tm)(C:Ba)(cc:Nat)(k n:Int)(ks:List Tm)(A:Ba)(c:Nat)(r:Rs Tm)(w:Bb)(q3:(k==3)=false)(q13:(k==13)=false)(qk:(k==4)=true)(hX:Hid (∀(w:Bb),Rd w C 0 ctx->Rd w A 0 ks->Calls prog 120 #[.slice C ctx.length cc,.agg (Ro k n A ks.length c)] w (pP w r)))(hnz:∀o,r = .ok o->pK o=true)(hrc:Rd w C 0 ctx)(hra:Rd w A 0 ks) :
  Calls prog 102 #[.slice C ctx.length cc,.agg (Ro k n A ks.length c)] w (pP w r):=by
 cases r with
 | ok o=>
  obtain ⟨k1,n1,s1⟩:=o;replace hnz:=hnz _ rfl;go_enter func102,ntmps102;go_wp2_with (go_at_call 120;refine (hX.out _ ((hrc.alloc _).alloc _) ((hra.alloc _).alloc _)).mono ?_;rintro e w1 ⟨A1,c1,rfl,hl1,r1,hb1⟩;have hZ1:Blk w1 (w.heap.size+1) Zr:=(aC _ 32 Zr Ag).keep hb1;have g1:Bw w w1:=bN bw2 hb1;obtain ⟨d0,d1,d2,e0,e1,e2,lz⟩:=dN hZ1);refine bodyPost_ret (v:=.tuple #[.agg (Ro k1 n1 A1 s1.length c1),.int .i64 0]) (by simp [results,results102,go_sem,d0,d1,d2]) rfl ⟨A1,c1,rfl,hl1,jY hZ1 hnz r1 _ _ _,?_⟩;exact bV g1
 | no b=>
  clear hnz;go_enter func102,ntmps102;go_wp2_with (go_at_call 120;refine (hX.out _ ((hrc.alloc _).alloc _) ((hra.alloc _).alloc _)).mono ?_;rintro e w1 ⟨k1,n1,A1,l1,c1,rfl,hb1⟩;have hZ1:Blk w1 (w.heap.size+1) Zr:=(aC _ 32 Zr Ag).keep hb1;have g1:Bw w w1:=bN bw2 hb1;obtain ⟨d0,d1,d2,e0,e1,e2,lz⟩:=dN hZ1);refine bodyPost_ret (v:=.tuple #[.agg (Ro k1 n1 A1 l1 c1),.int .i64 (dB b)]) (by simp [results,results102,go_sem,d0,d1,d2]) rfl ⟨k1,n1,A1,l1,c1,rfl,?_⟩;exact bV g1
theorem aSd (ctx:List Tm)(C:Ba)(cc:Nat)(k n:Int)(ks:List Tm)(A:Ba)(c:Nat)(r:Rs Tm)(w:Bb)(q3:(k==3)=false)(q13:(k==13)=false)(q4:(k==4)=false)(qk:(k==5)=true)(hX:Hid (∀(w:Bb),Rd w C 0 ctx->Rd w A 0 ks->Calls prog 121 #[.slice C ctx.length cc,.agg (Ro k n A ks.length c)] w (pP w r)))(hnz:∀o,r = .ok o->pK o=true)(hrc:Rd w C 0 ctx)(hra:Rd w A 0 ks) :
  Calls prog 102 #[.slice C ctx.length cc,.agg (Ro k n A ks.length c)] w (pP w r):=by
 cases r with
 | ok o=>
  obtain ⟨k1,n1,s1⟩:=o;replace hnz:=hnz _ rfl;go_enter func102,ntmps102;go_wp2_with (go_at_call 121;refine (hX.out _ ((hrc.alloc _).alloc _) ((hra.alloc _).alloc _)).mono ?_;rintro e w1 ⟨A1,c1,rfl,hl1,r1,hb1⟩;have hZ1:Blk w1 (w.heap.size+1) Zr:=(aC _ 32 Zr Ag).keep hb1;have g1:Bw w w1:=bN bw2 hb1;obtain ⟨d0,d1,d2,e0,e1,e2,lz⟩:=dN hZ1);refine bodyPost_ret (v:=.tuple #[.agg (Ro k1 n1 A1 s1.length c1),.int .i64 0]) (by simp [results,results102,go_sem,d0,d1,d2]) rfl ⟨A1,c1,rfl,hl1,jY hZ1 hnz r1 _ _ _,?_⟩;exact bV g1
 | no b=>
  clear hnz;go_enter func102,ntmps102;go_wp2_with (go_at_call 121;refine (hX.out _ ((hrc.alloc _).alloc _) ((hra.alloc _).alloc _)).mono ?_;rintro e w1 ⟨k1,n1,A1,l1,c1,rfl,hb1⟩;have hZ1:Blk w1 (w.heap.size+1) Zr:=(aC _ 32 Zr Ag).keep hb1;have g1:Bw w w1:=bN bw2 hb1;obtain ⟨d0,d1,d2,e0,e1,e2,lz⟩:=dN hZ1);refine bodyPost_ret (v:=.tuple #[.agg (Ro k1 n1 A1 l1 c1),.int .i64 (dB b)]) (by simp [results,results102,go_sem,d0,d1,d2]) rfl ⟨k1,n1,A1,l1,c1,rfl,?_⟩;exact bV g1
theorem aQs (ctx:List Tm)(C:Ba)(cc:Nat)(k n:Int)(ks:List Tm)(A:Ba)(c:Nat)(r:Rs Tm)(w:Bb)(q3:(k==3)=false)(q13:(k==13)=false)(q4:(k==4)=false)(q5:(k==5)=false)(qk:(k==9)=true)(hX:Hid (∀(w:Bb),Rd w C 0 ctx->Rd w A 0 ks->Calls prog 122 #[.slice C ctx.length cc,.agg (Ro k n A ks.length c)] w (pP w r)))(hnz:∀o,r = .ok o->pK o=true)(hrc:Rd w C 0 ctx)(hra:Rd w A 0 ks) :
  Calls prog 102 #[.slice C ctx.length cc,.agg (Ro k n A ks.length c)] w (pP w r):=by
 cases r with
 | ok o=>
  obtain ⟨k1,n1,s1⟩:=o;replace hnz:=hnz _ rfl;go_enter func102,ntmps102;go_wp2_with (go_at_call 122;refine (hX.out _ ((hrc.alloc _).alloc _) ((hra.alloc _).alloc _)).mono ?_;rintro e w1 ⟨A1,c1,rfl,hl1,r1,hb1⟩;have hZ1:Blk w1 (w.heap.size+1) Zr:=(aC _ 32 Zr Ag).keep hb1;have g1:Bw w w1:=bN bw2 hb1;obtain ⟨d0,d1,d2,e0,e1,e2,lz⟩:=dN hZ1);refine bodyPost_ret (v:=.tuple #[.agg (Ro k1 n1 A1 s1.length c1),.int .i64 0]) (by simp [results,results102,go_sem,d0,d1,d2]) rfl ⟨A1,c1,rfl,hl1,jY hZ1 hnz r1 _ _ _,?_⟩;exact bV g1
 | no b=>
  clear hnz;go_enter func102,ntmps102;go_wp2_with (go_at_call 122;refine (hX.out _ ((hrc.alloc _).alloc _) ((hra.alloc _).alloc _)).mono ?_;rintro e w1 ⟨k1,n1,A1,l1,c1,rfl,hb1⟩;have hZ1:Blk w1 (w.heap.size+1) Zr:=(aC _ 32 Zr Ag).keep hb1;have g1:Bw w w1:=bN bw2 hb1;obtain ⟨d0,d1,d2,e0,e1,e2,lz⟩:=dN hZ1);refine bodyPost_ret (v:=.tuple #[.agg (Ro k1 n1 A1 l1 c1),.int .i64 (dB b)]) (by simp [results,results102,go_sem,d0,d1,d2]) rfl ⟨k1,n1,A1,l1,c1,rfl,?_⟩;exact bV g1
theorem aRu (ctx:List Tm)(C:Ba)(cc:Nat)(k n:Int)(ks:List Tm)(A:Ba)(c:Nat)(r:Rs Tm)(w:Bb)(q3:(k==3)=false)(q13:(k==13)=false)(q4:(k==4)=false)(q5:(k==5)=false)(q9:(k==9)=false)(qk:(k==10)=true)(hX:Hid (∀(w:Bb),Rd w C 0 ctx->Rd w A 0 ks->Calls prog 123 #[.slice C ctx.length cc,.agg (Ro k n A ks.length c)] w (pP w r)))(hnz:∀o,r = .ok o->pK o=true)(hrc:Rd w C 0 ctx)(hra:Rd w A 0 ks) :
  Calls prog 102 #[.slice C ctx.length cc,.agg (Ro k n A ks.length c)] w (pP w r):=by
 cases r with
 | ok o=>
  obtain ⟨k1,n1,s1⟩:=o;replace hnz:=hnz _ rfl;go_enter func102,ntmps102;go_wp2_with (go_at_call 123;refine (hX.out _ ((hrc.alloc _).alloc _) ((hra.alloc _).alloc _)).mono ?_;rintro e w1 ⟨A1,c1,rfl,hl1,r1,hb1⟩;have hZ1:Blk w1 (w.heap.size+1) Zr:=(aC _ 32 Zr Ag).keep hb1;have g1:Bw w w1:=bN bw2 hb1;obtain ⟨d0,d1,d2,e0,e1,e2,lz⟩:=dN hZ1);refine bodyPost_ret (v:=.tuple #[.agg (Ro k1 n1 A1 s1.length c1),.int .i64 0]) (by simp [results,results102,go_sem,d0,d1,d2]) rfl ⟨A1,c1,rfl,hl1,jY hZ1 hnz r1 _ _ _,?_⟩;exact bV g1
 | no b=>
  clear hnz;go_enter func102,ntmps102;go_wp2_with (go_at_call 123;refine (hX.out _ ((hrc.alloc _).alloc _) ((hra.alloc _).alloc _)).mono ?_;rintro e w1 ⟨k1,n1,A1,l1,c1,rfl,hb1⟩;have hZ1:Blk w1 (w.heap.size+1) Zr:=(aC _ 32 Zr Ag).keep hb1;have g1:Bw w w1:=bN bw2 hb1;obtain ⟨d0,d1,d2,e0,e1,e2,lz⟩:=dN hZ1);refine bodyPost_ret (v:=.tuple #[.agg (Ro k1 n1 A1 l1 c1),.int .i64 (dB b)]) (by simp [results,results102,go_sem,d0,d1,d2]) rfl ⟨k1,n1,A1,l1,c1,rfl,?_⟩;exact bV g1
theorem aRn (ctx:List Tm)(C:Ba)(cc:Nat)(k n:Int)(ks:List Tm)(A:Ba)(c:Nat)(r:Rs Tm)(w:Bb)(q3:(k==3)=false)(q13:(k==13)=false)(q4:(k==4)=false)(q5:(k==5)=false)(q9:(k==9)=false)(q10:(k==10)=false)(qk:(k==12)=true)(hX:Hid (∀(w:Bb),Rd w C 0 ctx->Rd w A 0 ks->Calls prog 124 #[.slice C ctx.length cc,.agg (Ro k n A ks.length c)] w (pP w r)))(hnz:∀o,r = .ok o->pK o=true)(hrc:Rd w C 0 ctx)(hra:Rd w A 0 ks) :
  Calls prog 102 #[.slice C ctx.length cc,.agg (Ro k n A ks.length c)] w (pP w r):=by
 cases r with
 | ok o=>
  obtain ⟨k1,n1,s1⟩:=o;replace hnz:=hnz _ rfl;go_enter func102,ntmps102;go_wp2_with (go_at_call 124;refine (hX.out _ ((hrc.alloc _).alloc _) ((hra.alloc _).alloc _)).mono ?_;rintro e w1 ⟨A1,c1,rfl,hl1,r1,hb1⟩;have hZ1:Blk w1 (w.heap.size+1) Zr:=(aC _ 32 Zr Ag).keep hb1;have g1:Bw w w1:=bN bw2 hb1;obtain ⟨d0,d1,d2,e0,e1,e2,lz⟩:=dN hZ1);refine bodyPost_ret (v:=.tuple #[.agg (Ro k1 n1 A1 s1.length c1),.int .i64 0]) (by simp [results,results102,go_sem,d0,d1,d2]) rfl ⟨A1,c1,rfl,hl1,jY hZ1 hnz r1 _ _ _,?_⟩;exact bV g1
 | no b=>
  clear hnz;go_enter func102,ntmps102;go_wp2_with (go_at_call 124;refine (hX.out _ ((hrc.alloc _).alloc _) ((hra.alloc _).alloc _)).mono ?_;rintro e w1 ⟨k1,n1,A1,l1,c1,rfl,hb1⟩;have hZ1:Blk w1 (w.heap.size+1) Zr:=(aC _ 32 Zr Ag).keep hb1;have g1:Bw w w1:=bN bw2 hb1;obtain ⟨d0,d1,d2,e0,e1,e2,lz⟩:=dN hZ1);refine bodyPost_ret (v:=.tuple #[.agg (Ro k1 n1 A1 l1 c1),.int .i64 (dB b)]) (by simp [results,results102,go_sem,d0,d1,d2]) rfl ⟨k1,n1,A1,l1,c1,rfl,?_⟩;exact bV g1
theorem aSm (ctx:List Tm)(C:Ba)(cc:Nat)(k n:Int)(ks:List Tm)(A:Ba)(c:Nat)(r:Rs Tm)(w:Bb)(q3:(k==3)=false)(q13:(k==13)=false)(q4:(k==4)=false)(q5:(k==5)=false)(q9:(k==9)=false)(q10:(k==10)=false)(q12:(k==12)=false)(qk:(k==14)=true)(hX:Hid (∀(w:Bb),Rd w C 0 ctx->Rd w A 0 ks->Calls prog 125 #[.slice C ctx.length cc,.agg (Ro k n A ks.length c)] w (pP w r)))(hnz:∀o,r = .ok o->pK o=true)(hrc:Rd w C 0 ctx)(hra:Rd w A 0 ks) :
  Calls prog 102 #[.slice C ctx.length cc,.agg (Ro k n A ks.length c)] w (pP w r):=by
 cases r with
 | ok o=>
  obtain ⟨k1,n1,s1⟩:=o;replace hnz:=hnz _ rfl;go_enter func102,ntmps102;go_wp2_with (go_at_call 125;refine (hX.out _ ((hrc.alloc _).alloc _) ((hra.alloc _).alloc _)).mono ?_;rintro e w1 ⟨A1,c1,rfl,hl1,r1,hb1⟩;have hZ1:Blk w1 (w.heap.size+1) Zr:=(aC _ 32 Zr Ag).keep hb1;have g1:Bw w w1:=bN bw2 hb1;obtain ⟨d0,d1,d2,e0,e1,e2,lz⟩:=dN hZ1);refine bodyPost_ret (v:=.tuple #[.agg (Ro k1 n1 A1 s1.length c1),.int .i64 0]) (by simp [results,results102,go_sem,d0,d1,d2]) rfl ⟨A1,c1,rfl,hl1,jY hZ1 hnz r1 _ _ _,?_⟩;exact bV g1
 | no b=>
  clear hnz;go_enter func102,ntmps102;go_wp2_with (go_at_call 125;refine (hX.out _ ((hrc.alloc _).alloc _) ((hra.alloc _).alloc _)).mono ?_;rintro e w1 ⟨k1,n1,A1,l1,c1,rfl,hb1⟩;have hZ1:Blk w1 (w.heap.size+1) Zr:=(aC _ 32 Zr Ag).keep hb1;have g1:Bw w w1:=bN bw2 hb1;obtain ⟨d0,d1,d2,e0,e1,e2,lz⟩:=dN hZ1);refine bodyPost_ret (v:=.tuple #[.agg (Ro k1 n1 A1 l1 c1),.int .i64 (dB b)]) (by simp [results,results102,go_sem,d0,d1,d2]) rfl ⟨k1,n1,A1,l1,c1,rfl,?_⟩;exact bV g1
theorem aRf (ctx:List Tm)(C:Ba)(cc:Nat)(k n:Int)(ks:List Tm)(A:Ba)(c:Nat)(r:Rs Tm)(w:Bb)(q3:(k==3)=false)(q13:(k==13)=false)(q4:(k==4)=false)(q5:(k==5)=false)(q9:(k==9)=false)(q10:(k==10)=false)(q12:(k==12)=false)(q14:(k==14)=false)(hX:Hid (∀(w:Bb),Rd w C 0 ctx->Rd w A 0 ks->Calls prog 126 #[.slice C ctx.length cc,.agg (Ro k n A ks.length c)] w (pP w r)))(hnz:∀o,r = .ok o->pK o=true)(hrc:Rd w C 0 ctx)(hra:Rd w A 0 ks) :
  Calls prog 102 #[.slice C ctx.length cc,.agg (Ro k n A ks.length c)] w (pP w r):=by
 cases r with
 | ok o=>
  obtain ⟨k1,n1,s1⟩:=o;replace hnz:=hnz _ rfl;go_enter func102,ntmps102;go_wp2_with (go_at_call 126;refine (hX.out _ ((hrc.alloc _).alloc _) ((hra.alloc _).alloc _)).mono ?_;rintro e w1 ⟨A1,c1,rfl,hl1,r1,hb1⟩;have hZ1:Blk w1 (w.heap.size+1) Zr:=(aC _ 32 Zr Ag).keep hb1;have g1:Bw w w1:=bN bw2 hb1;obtain ⟨d0,d1,d2,e0,e1,e2,lz⟩:=dN hZ1);refine bodyPost_ret (v:=.tuple #[.agg (Ro k1 n1 A1 s1.length c1),.int .i64 0]) (by simp [results,results102,go_sem,d0,d1,d2]) rfl ⟨A1,c1,rfl,hl1,jY hZ1 hnz r1 _ _ _,?_⟩;exact bV g1
 | no b=>
  clear hnz;go_enter func102,ntmps102;go_wp2_with (go_at_call 126;refine (hX.out _ ((hrc.alloc _).alloc _) ((hra.alloc _).alloc _)).mono ?_;rintro e w1 ⟨k1,n1,A1,l1,c1,rfl,hb1⟩;have hZ1:Blk w1 (w.heap.size+1) Zr:=(aC _ 32 Zr Ag).keep hb1;have g1:Bw w w1:=bN bw2 hb1;obtain ⟨d0,d1,d2,e0,e1,e2,lz⟩:=dN hZ1);refine bodyPost_ret (v:=.tuple #[.agg (Ro k1 n1 A1 l1 c1),.int .i64 (dB b)]) (by simp [results,results102,go_sem,d0,d1,d2]) rfl ⟨k1,n1,A1,l1,c1,rfl,?_⟩;exact bV g1
theorem kq {k x:Int}(h:¬k=x):(k==x)=false:=by simpa using h
theorem aEx {N:Nat}(ih:oF N)(ctx:List Tm)(C:Ba)(cc:Nat)(k n:Int)(ks:List Tm)(A:Ba)(c:Nat)(r:Rs Tm)(w:Bb)(hv:aE (.mk k n ks)=true)(hk:¬(k=3\/k=13)/\¬k=4/\¬k=5/\¬k=9/\¬k=10/\¬k=12/\¬k=14)(hs:dU (bE N) ctx (.mk k n ks)=some r)(hvc:∀u,u∈ctx->aE u=true)(hm:ctx.length<=20)(hrc:Rd w C 0 ctx)(hr:Rd w A 0 ks) :
  Calls prog 126 #[.slice C ctx.length cc,.agg (Ro k n A ks.length c)] w (pP w r):=by
 obtain ⟨hk3,hk4,hk5,hk9,hk10,hk12,hk14⟩:=hk;have hlen:=fH hv;have hnz:∀o,r = .ok o->pK o=true:=λo ho=>(aDd hv hvc (by rw [hs,ho])).1
 obtain ⟨q,_,_,hn0,hn1,_⟩:=cD (aY hv);have hs0:=hs;rw [dU,Aw hk3,Aw hk4,Aw hk5,Aw hk9,Aw hk10,Aw hk12,Aw hk14] at hs;by_cases h1:k=1
 ·subst h1;rw [Av rfl] at hs;have hn20:n<=20:=hn1;exact aCu ctx C cc n A c ks r w ⟨hn0,hn20⟩ hvc hm hs hrc
 rw [Aw h1] at hs;by_cases h267:k=2\/k=6\/k=7
 ·have hn20:n<=20:=by
   rcases h267 with rfl|rfl|rfl
   ·have:n<=3:=hn1;omega
   ·have:n<=0:=hn1;omega
   ·have:n<=0:=hn1;omega
  exact aBu (N:=N) ctx C cc n A c k ks r w ⟨hn0,hn20⟩ h267 hs0
 rw [Aw (λh=>h267 (.inl h)),Aw (λh=>h267 (.inr (.inl h))),Aw (λh=>h267 (.inr (.inr h)))] at hs;by_cases h8:k=8
 ·subst h8;rw [Av rfl] at hs;have h0:aX 8=1:=rfl;obtain ⟨⟨ka,na,sa⟩,rfl⟩:=aKf (ks:=ks) Ac;exact aBr ih ctx C cc n A c ka na sa r w hs (aW (i:=0) hv Ag) hvc hm hrc hr
 rw [Aw h8] at hs;by_cases h11:k=11
 ·subst h11;rw [Av rfl] at hs;have h0:aX 11=1:=rfl;obtain ⟨⟨ka,na,sa⟩,rfl⟩:=aKf (ks:=ks) Ac;exact aBf ih ctx C cc n A c ka na sa r w hs (aW (i:=0) hv Ag) hvc hm hrc hr
 rw [Aw h11] at hs;have hk15:=aIj (aY hv) ⟨hk3,hk4,hk5,hk9,hk10,hk12,hk14,h1,λh=>h267 (.inl h),λh=>h267 (.inr (.inl h)),λh=>h267 (.inr (.inr h)),h8,h11⟩;have h0:aX k=1:=by rcases hk15 with rfl|rfl<;>rfl
 obtain ⟨⟨ka,na,sa⟩,rfl⟩:=aKf (ks:=ks) Ac;exact aBq ctx C cc k n [.mk ka na sa] A c r w (kq h1) (kq (λh=>h267 (.inl h))) (kq (λh=>h267 (.inr (.inl h)))) (kq (λh=>h267 (.inr (.inr h)))) (kq h8) (kq h11) (aD (λw hrc hr=>aKa ih ctx C cc k n A c ka na sa r w hs (aW (i:=0) hv Ag) hvc hm hrc hr)) hnz hrc hr
theorem aAk {N:Nat}(ih:oF N)(ctx:List Tm)(C:Ba)(cc:Nat)(k n:Int)(ks:List Tm)(A:Ba)(c:Nat)(r:Rs Tm)(w:Bb)(hv:aE (.mk k n ks)=true)(hs:dU (bE N) ctx (.mk k n ks)=some r)(hvc:∀u,u∈ctx->aE u=true)(hm:ctx.length<=20)(hrc:Rd w C 0 ctx)(hr:Rd w A 0 ks) :
  Calls prog 102 #[.slice C ctx.length cc,.agg (Ro k n A ks.length c)] w (pP w r):=by
 have hlen:=fH hv;have hnz:∀o,r = .ok o->pK o=true:=λo ho=>(aDd hv hvc (by rw [hs,ho])).1
 have hs0:=hs;rw [dU] at hs;by_cases h3:k=3\/k=13
 ·rw [Av h3] at hs;have h0:aX k=2:=by rcases h3 with rfl|rfl<;>rfl
  obtain ⟨⟨ka,na,sa⟩,⟨kb,nb,sb⟩,rfl⟩:=aLc (ks:=ks) Ac;exact aRe ctx C cc k n _ A c r w (by rcases h3 with rfl|rfl<;>decide) (aD (λw hrc hr=>sA ih ctx C cc k n A c ka na sa kb nb sb r w hs (aW (i:=0) hv Ag) (aW (i:=1) hv Ag) hvc hm hrc hr)) hnz hrc hr
 rw [Aw h3] at hs;have q3:(k==3)=false:=kq (λh=>h3 (.inl h));have q13:(k==13)=false:=kq (λh=>h3 (.inr h));by_cases h4:k=4
 ·rw [Av h4] at hs;have h0:aX k=2:=by rw [h4];rfl
  obtain ⟨⟨ka,na,sa⟩,⟨kb,nb,sb⟩,rfl⟩:=aLc (ks:=ks) Ac;exact aQu ctx C cc k n _ A c r w q3 q13 (by simpa using h4) (aD (λw hrc hr=>aNq ih ctx C cc k n A c ka na sa kb nb sb r w hs (aW (i:=0) hv Ag) (aW (i:=1) hv Ag) hvc hm hrc hr)) hnz hrc hr
 rw [Aw h4] at hs;by_cases h5:k=5
 ·rw [Av h5] at hs;have h0:aX k=2:=by rw [h5];rfl
  obtain ⟨⟨ka,na,sa⟩,⟨kb,nb,sb⟩,rfl⟩:=aLc (ks:=ks) Ac;exact aSd ctx C cc k n _ A c r w q3 q13 (kq h4) (by simpa using h5) (aD (λw hrc hr=>aPo ih ctx C cc k n A c ka na sa kb nb sb r w hs (aW (i:=0) hv Ag) (aW (i:=1) hv Ag) hvc hm hrc hr)) hnz hrc hr
 rw [Aw h5] at hs;by_cases h9:k=9
 ·rw [Av h9] at hs;have h0:aX k=4:=by rw [h9];rfl
  obtain ⟨⟨ka,na,sa⟩,⟨kb,nb,sb⟩,⟨kd,nd,sd⟩,⟨ke,ne,se⟩,rfl⟩:=aXe (ks:=ks) Ac;exact aQs ctx C cc k n _ A c r w q3 q13 (kq h4) (kq h5) (by simpa using h9) (aD (λw hrc hr=>aJw ih ctx C cc k n A c ka na sa kb nb sb kd nd sd ke ne se r w hs (aW (i:=0) hv Ag) (aW (i:=1) hv Ag) (aW (i:=2) hv Ag) (aW (i:=3) hv Ag) hvc hm hrc hr)) hnz hrc hr
 rw [Aw h9] at hs;by_cases h10:k=10
 ·rw [Av h10] at hs;have h0:aX k=3:=by rw [h10];rfl
  obtain ⟨⟨ka,na,sa⟩,⟨kb,nb,sb⟩,⟨kd,nd,sd⟩,rfl⟩:=aHv (ks:=ks) Ac;exact aRu ctx C cc k n _ A c r w q3 q13 (kq h4) (kq h5) (kq h9) (by simpa using h10) (aD (λw hrc hr=>aSf ih ctx C cc k n A c ka na sa kb nb sb kd nd sd r w hs (aW (i:=0) hv Ag) (aW (i:=1) hv Ag) (aW (i:=2) hv Ag) hvc hm hrc hr)) hnz hrc hr
 rw [Aw h10] at hs;by_cases h12:k=12
 ·rw [Av h12] at hs;have h0:aX k=3:=by rw [h12];rfl
  obtain ⟨⟨ka,na,sa⟩,⟨kb,nb,sb⟩,⟨kd,nd,sd⟩,rfl⟩:=aHv (ks:=ks) Ac;exact aRn ctx C cc k n _ A c r w q3 q13 (kq h4) (kq h5) (kq h9) (kq h10) (by simpa using h12) (aD (λw hrc hr=>aKk ih ctx C cc k n A c ka na sa kb nb sb kd nd sd r w hs (aW (i:=0) hv Ag) (aW (i:=1) hv Ag) (aW (i:=2) hv Ag) hvc hm hrc hr)) hnz hrc hr
 rw [Aw h12] at hs;by_cases h14:k=14
 ·rw [Av h14] at hs;have h0:aX k=3:=by rw [h14];rfl
  obtain ⟨⟨ka,na,sa⟩,⟨kb,nb,sb⟩,⟨kd,nd,sd⟩,rfl⟩:=aHv (ks:=ks) Ac;exact aSm ctx C cc k n _ A c r w q3 q13 (kq h4) (kq h5) (kq h9) (kq h10) (kq h12) (by simpa using h14) (aD (λw hrc hr=>aJy ih ctx C cc k n A c ka na sa kb nb sb kd nd sd r w hs (aW (i:=0) hv Ag) (aW (i:=1) hv Ag) (aW (i:=2) hv Ag) hvc hm hrc hr)) hnz hrc hr
 exact aRf ctx C cc k n ks A c r w q3 q13 (kq h4) (kq h5) (kq h9) (kq h10) (kq h12) (kq h14) (aD (λw hrc hr=>aEx ih ctx C cc k n ks A c r w hv ⟨h3,h4,h5,h9,h10,h12,h14⟩ hs0 hvc hm hrc hr)) hnz hrc hr
theorem aMh {N:Nat}(ih:oF N):oF (N+1):=by
 intro ctx k n ks r hs hv hvc hm C cc A c w hrc hr;have hM:=aH hv;have hv':=aD hv;rw [bE] at hs;by_cases hl:ctx.length<=20
 ·rw [Av ⟨hv,hl⟩] at hs;have ql:decide ((20:Int)<(ctx.length:Int))=false:=decide_eq_false Ac;have ql2:decide (20<ctx.length)=false:=decide_eq_false Ac;rcases aM hs with ⟨b,h1,rfl⟩|⟨⟨k3,n3,s3⟩,h1,hs⟩
  ·have hK:=aD (λ(w:Bb) (hrc:Rd w C 0 ctx) (hr:Rd w A 0 ks)=>aAk ih ctx C cc k n ks A c _ w hv h1 hvc hl hrc hr);have qb:=eV b;clear hs h1 hv hvc ih;go_enter func74,ntmps74;go_wp2_with (first
    | (go_at_call 102;have _t:=tok;refine (hK.out _ (hrc.below g1) (hr.below g1)).mono ?_;rintro e w2 ⟨k3,n3,A3,l3,c3,rfl,hb2⟩;have hZ2:=(hZ1.keep hb2).alloc (.cells (Ro k3 n3 A3 l3 c3) 32);have g2:=(g1.trans (hb2.mono g1.size)).alloc (by have:=g1.size;have:=hb2.size;omega) (.cells (Ro k3 n3 A3 l3 c3) 32);clear d0 d1 d2 e0 e1 e2 lz;obtain ⟨d0,d1,d2,e0,e1,e2,lz⟩:=dN hZ2;clear tok;have tok2:=trivial)
    | (go_at_call 41;refine (aR k n ks A c _ Ac ((hr.alloc _).alloc _)).mono ?_;rw [hv'.out];rintro e w1 ⟨rfl,hb1⟩;have hT1:Blk w1 w.heap.size (Ro k n A ks.length c):=((aC w 32 (Ro k n A ks.length c) rfl).alloc _).keep hb1;have hZ1:Blk w1 (w.heap.size+1) Zr:=(aC _ 32 Zr Ag).keep hb1;have g1:Bw w w1:=bN bw2 hb1;obtain ⟨x0,x1,x2⟩:=hT1.three;obtain ⟨d0,d1,d2,e0,e1,e2,lz⟩:=dN hZ1;have tok:=trivial))
   refine bodyPost_ret (v:=.tuple #[.agg Zr,.int .i64 (dB b)]) (by simp [results,results74,go_sem,d0,d1,d2]) rfl ⟨rfl,?_⟩;exact bV g2
  ·have hK:=aD (λ(w:Bb) (hrc:Rd w C 0 ctx) (hr:Rd w A 0 ks)=>aAk ih ctx C cc k n ks A c _ w hv h1 hvc hl hrc hr);have hnz:=aDd hv hvc h1;have hz3:aG s3<=1000000:=by have:=hnz.2;rw [Tm.size] at this;omega
   unfold fV at hs;cases hvv:aE (.mk k3 n3 s3) with
   | false=>
    rw [Aw (by rw [hvv];decide)] at hs;injection hs with hs;subst hs;have hvo:=aD hvv;clear h1 hv hvc ih hvv hnz;go_enter func74,ntmps74;go_wp2_with (first
     | (go_at_call 41;have _t:=tok2;refine (aR k3 n3 s3 A3 c3 _ Ac r4).mono ?_;rw [hvo.out];rintro e w3 ⟨rfl,hb3⟩;have hZ3:=hZ2.keep hb3;have hG3:=hG2.keep hb3;have g3:=g2.trans (hb3.mono g2.size);have r5:=r4.below hb3;clear y0 y1 y2 d0 d1 d2 e0 e1 e2 lz;obtain ⟨y0,y1,y2⟩:=hG3.three;obtain ⟨d0,d1,d2,e0,e1,e2,lz⟩:=dN hZ3)
     | (go_at_call 102;have _t:=tok;refine (hK.out _ (hrc.below g1) (hr.below g1)).mono ?_;rintro e w2 ⟨A3,c3,rfl,hl3,r3,hb2⟩;have hZ2:=(hZ1.keep hb2).alloc (.cells (Ro k3 n3 A3 s3.length c3) 32);have g2:=(g1.trans (hb2.mono g1.size)).alloc (by have:=g1.size;have:=hb2.size;omega) (.cells (Ro k3 n3 A3 s3.length c3) 32);have r4:=r3.alloc (.cells (Ro k3 n3 A3 s3.length c3) 32);have hG2:=aC w2 32 (Ro k3 n3 A3 s3.length c3) rfl;obtain ⟨y0,y1,y2⟩:=hG2.three;clear d0 d1 d2 e0 e1 e2 lz;obtain ⟨d0,d1,d2,e0,e1,e2,lz⟩:=dN hZ2;clear tok;have tok2:=trivial)
     | (go_at_call 41;refine (aR k n ks A c _ Ac ((hr.alloc _).alloc _)).mono ?_;rw [hv'.out];rintro e w1 ⟨rfl,hb1⟩;have hT1:Blk w1 w.heap.size (Ro k n A ks.length c):=((aC w 32 (Ro k n A ks.length c) rfl).alloc _).keep hb1;have hZ1:Blk w1 (w.heap.size+1) Zr:=(aC _ 32 Zr Ag).keep hb1;have g1:Bw w w1:=bN bw2 hb1;obtain ⟨x0,x1,x2⟩:=hT1.three;obtain ⟨d0,d1,d2,e0,e1,e2,lz⟩:=dN hZ1;have tok:=trivial))
    refine bodyPost_ret (v:=.tuple #[.agg Zr,.int .i64 2]) (by simp [results,results74,go_sem,d0,d1,d2]) rfl ⟨rfl,?_⟩;exact bV g3
   | true=>
    rw [Av hvv] at hs;injection hs with hs;subst hs;have hvo:=aD hvv;clear h1 hv hvc ih hvv hnz;go_enter func74,ntmps74;go_wp2_with (first
     | (go_at_call 41;have _t:=tok2;refine (aR k3 n3 s3 A3 c3 _ Ac r4).mono ?_;rw [hvo.out];rintro e w3 ⟨rfl,hb3⟩;have hZ3:=hZ2.keep hb3;have hG3:=hG2.keep hb3;have g3:=g2.trans (hb3.mono g2.size);have r5:=r4.below hb3;clear y0 y1 y2 d0 d1 d2 e0 e1 e2 lz;obtain ⟨y0,y1,y2⟩:=hG3.three;obtain ⟨d0,d1,d2,e0,e1,e2,lz⟩:=dN hZ3)
     | (go_at_call 102;have _t:=tok;refine (hK.out _ (hrc.below g1) (hr.below g1)).mono ?_;rintro e w2 ⟨A3,c3,rfl,hl3,r3,hb2⟩;have hZ2:=(hZ1.keep hb2).alloc (.cells (Ro k3 n3 A3 s3.length c3) 32);have g2:=(g1.trans (hb2.mono g1.size)).alloc (by have:=g1.size;have:=hb2.size;omega) (.cells (Ro k3 n3 A3 s3.length c3) 32);have r4:=r3.alloc (.cells (Ro k3 n3 A3 s3.length c3) 32);have hG2:=aC w2 32 (Ro k3 n3 A3 s3.length c3) rfl;obtain ⟨y0,y1,y2⟩:=hG2.three;clear d0 d1 d2 e0 e1 e2 lz;obtain ⟨d0,d1,d2,e0,e1,e2,lz⟩:=dN hZ2;clear tok;have tok2:=trivial)
     | (go_at_call 41;refine (aR k n ks A c _ Ac ((hr.alloc _).alloc _)).mono ?_;rw [hv'.out];rintro e w1 ⟨rfl,hb1⟩;have hT1:Blk w1 w.heap.size (Ro k n A ks.length c):=((aC w 32 (Ro k n A ks.length c) rfl).alloc _).keep hb1;have hZ1:Blk w1 (w.heap.size+1) Zr:=(aC _ 32 Zr Ag).keep hb1;have g1:Bw w w1:=bN bw2 hb1;obtain ⟨x0,x1,x2⟩:=hT1.three;obtain ⟨d0,d1,d2,e0,e1,e2,lz⟩:=dN hZ1;have tok:=trivial))
    refine bodyPost_ret (v:=.tuple #[.agg (Ro k3 n3 A3 s3.length c3),.int .i64 0]) (by simp [results,results74,go_sem,d0,d1,d2]) rfl ⟨A3,c3,rfl,hl3,iX hZ3 hvo.out r5 _ _ _,?_⟩;exact bV g3
 ·rw [Aw (λh=>hl h.2)] at hs;injection hs with hs;subst hs;have ql:decide ((20:Int)<(ctx.length:Int))=true:=decide_eq_true Ac;have ql2:decide (20<ctx.length)=true:=decide_eq_true Ac;clear hv hvc ih;go_enter func74,ntmps74;go_wp2_with (go_at_call 41;refine (aR k n ks A c _ Ac ((hr.alloc _).alloc _)).mono ?_;rw [hv'.out];rintro e w1 ⟨rfl,hb1⟩;have hT1:Blk w1 w.heap.size (Ro k n A ks.length c):=((aC w 32 (Ro k n A ks.length c) rfl).alloc _).keep hb1;have hZ1:Blk w1 (w.heap.size+1) Zr:=(aC _ 32 Zr Ag).keep hb1;have g1:Bw w w1:=bN bw2 hb1;obtain ⟨x0,x1,x2⟩:=hT1.three;obtain ⟨d0,d1,d2,e0,e1,e2,lz⟩:=dN hZ1;have tok:=trivial)
  refine bodyPost_ret (v:=.tuple #[.agg Zr,.int .i64 2]) (by simp [results,results74,go_sem,d0,d1,d2]) rfl ⟨rfl,?_⟩;exact bV g1
theorem sG:∀N,oF N
 | 0=>λ_ _ _ _ _ h=>by cases h
 | N+1=>aMh (sG N)
def lD (ctx:List Tm):Bool:=ctx.all (λt=>aE t) && decide (ctx.length<=8)
def ccG (N:Nat)(ctx:List Tm):Nat->Option Int
 | 0=>some 0
 | m+1=>match iT (bE N) (ctx.take (ctx.length - (m+1))) (ctx.getD (ctx.length - (m+1)) default) with
  | none=>none
  | some (.no b)=>some (dB b)
  | some (.ok _)=>ccG N ctx m
def ccR (N:Nat)(ctx:List Tm):Option Int:=if lD ctx=true then ccG N ctx ctx.length else some 3
theorem lV {ctx:List Tm}(h:lD ctx=true):(∀u,u∈ctx->aE u=true)/\ctx.length<=8:=by
 simp only [lD,Bool.and_eq_true,List.all_eq_true,decide_eq_true_eq] at h;exact h
theorem Rd.take {w:Bb}{A:Ba}:∀{ts:List Tm} {i:Nat} (n:Nat),Rd w A i ts->Rd w A i (ts.take n)
 | [],i,n,h=>by simpa using h
 | t::ts,i,0,h=>Rd.nil
 | t::ts,i,n+1,h=>by
  rw [List.take_succ_cons];exact Rd.cons_iff.2 ⟨(Rd.cons_iff.1 h).1,Rd.take n (Rd.cons_iff.1 h).2⟩
theorem uI (ctx:List Tm)(C:Ba)(cc:Nat)(w:Bb)(hsz:aG ctx<=2000000)(hrc:Rd w C 0 ctx) :
  Calls prog 40 #[.slice C ctx.length cc] w λe w'=>e = .returned (.bool (lD ctx))/\Bw w w':=by
 have hlen:=aJ ctx;obtain ⟨bb,hbb⟩:∃b,lD ctx=b:=⟨_,rfl⟩;rw [hbb];replace hbb:=aD hbb;go_enter func40,ntmps40;go_wp2_with fail;go_loopw [3] (λjv wr=>∃j:Nat,j<=ctx.length/\jv = .int .i64 j/\Hid (∀i (hi:i<ctx.length),i<j->aE ctx[i]=true)/\Bw w wr) (λjv _=>ctx.length - (intOf jv).toNat)
 case atStart=>exact ⟨0,Nat.zero_le _,rfl,aD (λi hi h=>absurd h Ac),eI _ _⟩
 case round=>
  obtain ⟨j,hj,rfl,hval,hb⟩:=hrel;by_cases hlt:j<ctx.length
  ·obtain ⟨b,off,k',n',ks',A',c',rfl,hkj,hc1,hc2,hc3,hl',hr'⟩:=(hrc.below hb).at_ hlt;have hsz2:=cG (gM hlt);rw [hkj] at hsz2;simp only [Tm.size] at hsz2;have H5:=aD hkj;have hlk:(j:Int)<(ctx.length:Int):=by omega
   cases hvv:aE (.mk k' n' ks') with
   | false=>
    have hv':=aD hvv;obtain rfl:bb=false:=by
     rw [<- hbb.out];unfold lD;rw [Bool.and_eq_false_iff];left;rw [List.all_eq_false];exact ⟨ctx[j],gM hlt,by rw [hkj,hvv];decide⟩
    clear hkj hvv;go_wp2_with (go_at_call 41;refine (aR k' n' ks' A' c' _ Ac hr').mono ?_;rw [hv'.out];rintro e w2 ⟨rfl,hb2⟩);go_ret;exact ⟨rfl,hb.trans (hb2.mono hb.size)⟩
   | true=>
    have hv':=aD hvv;clear hkj hvv;go_wp2_with (go_at_call 41;refine (aR k' n' ks' A' c' _ Ac hr').mono ?_;rw [hv'.out];rintro e w2 ⟨rfl,hb2⟩);refine ⟨⟨j+1,by omega,by go_num,aD (λi hi hij=>?_),hb.trans (hb2.mono hb.size)⟩,by simp [intOf];omega⟩;by_cases hij2:i=j
    ·subst hij2;rw [H5.out];exact hv'.out
    ·exact hval.out i hi Ac
  ·have hje:j=ctx.length:=by omega
   subst hje;have hall:ctx.all (λt=>aE t)=true:=by
    rw [List.all_eq_true];intro u hu;obtain ⟨i,hi,rfl⟩:=List.mem_iff_getElem.1 hu;exact hval.out i hi hi
   have hq:decide ((ctx.length:Int)<=8)=bb:=by
    rw [<- hbb.out];unfold lD;rw [hall,Bool.true_and];rw [decide_eq_decide];omega
   have hq2:decide (ctx.length<=8)=bb:=by
    rw [<- hbb.out];unfold lD;rw [hall,Bool.true_and]
   go_wp2_with fail;go_ret;exact ⟨rfl,hb⟩
theorem rE (N:Nat)(ctx:List Tm)(C:Ba)(cc:Nat)(co:Int)(w:Bb)(hs:ccR N ctx=some co)(hcc:ctx.length<=cc)(hsz:aG ctx<=2000000)(hrc:Rd w C 0 ctx) :
  Calls prog 42 #[.slice C ctx.length cc] w λe w'=>e = .returned (.int .i64 co)/\Bw w w':=by
 have hlen:=aJ ctx;have hF:=aD (λ(w:Bb) (hrc:Rd w C 0 ctx)=>uI ctx C cc w hsz hrc);unfold ccR at hs;cases hf:lD ctx with
 | false=>
  rw [hf,Aw Ah] at hs;injection hs with hs;subst hs;rw [hf] at hF;clear hf;go_enter func42,ntmps42;go_wp2_with (go_at_call 40;refine (hF.out _ hrc).mono ?_;rintro e w1 ⟨rfl,hb1⟩)
  go_ret;exact ⟨rfl,hb1⟩
 | true=>
  rw [hf,Av rfl] at hs;rw [hf] at hF;have hi:=lV hf;have hl8:=hi.2;have hvc:=aD hi.1;replace hs:=aD hs;clear hf hi;go_enter func42,ntmps42;go_wp2_with (go_at_call 40;refine (hF.out _ hrc).mono ?_;rintro e w1 ⟨rfl,hb1⟩);go_loopw [3] (λjv wr=>∃j:Nat,j<=ctx.length/\jv = .int .i64 j/\Hid (ccG N ctx (ctx.length - j)=some co)/\Bw w wr) (λjv _=>ctx.length - (intOf jv).toNat)
  case atStart=>exact ⟨0,Nat.zero_le _,rfl,hs,hb1⟩
  case round=>
   obtain ⟨j,hj,rfl,hinv,hb⟩:=hrel;by_cases hlt:j<ctx.length
   ·obtain ⟨b,off,k',n',ks',A',c',rfl,hkj,hc1,hc2,hc3,hl',hr'⟩:=(hrc.below hb).at_ hlt;have hvk:=hvc.out _ (gM hlt);rw [hkj] at hvk;have hlk:(j:Int)<(ctx.length:Int):=by omega
    have hst:=hinv.out;rw [show ctx.length - j=(ctx.length - j - 1)+1 by omega,ccG,show ctx.length - (ctx.length - j - 1+1)=j by omega,show ctx.getD j default = .mk k' n' ks' by rw [<- hkj];simp [List.getD,sE hlt]] at hst;obtain ⟨cx,hcx⟩:∃cx,ctx.take j=cx:=⟨_,rfl⟩;have hcl:cx.length=j:=by rw [<- hcx];simp;omega
    have hcv:∀u,u∈cx->aE u=true:=by rw [<- hcx];exact λu hu=>hvc.out u (List.mem_of_mem_take hu)
    have hrx:=λ(w':Bb) (h:Rd w' (some ⟨b,off,none⟩) 0 ctx)=>show Rd w' (some ⟨b,off,none⟩) 0 cx by rw [<- hcx];exact h.take j
    replace hrx:=aD hrx;rw [hcx] at hst;clear hcx;cases hr0:iT (bE N) cx (.mk k' n' ks') with
    | none=>rw [hr0] at hst;cases hst
    | some rr=>
     have hS:=aD (λ(w:Bb) (hrc:Rd w (some ⟨b,off,none⟩) 0 cx) (hra:Rd w A' 0 ks')=>eE (sG N) cx (some ⟨b,off,none⟩) cc k' n' ks' A' c' rr w hr0 hvk hcv Ac hrc hra);rw [hcl] at hS;rw [hr0] at hst;have hjc:j<=cc:=by omega
     have hjc2:(j:Int)<=(cc:Int):=by omega
     cases rr with
     | no b2=>
      injection hst with hst;subst hst;have qb:=eV b2;clear hr0 hvk hcv hkj;go_upto_region 6 with fail
      obtain ⟨y1,y2,y3⟩:=pG hc1 hc2 hc3;clear hc1 hc2 hc3;have kwwr:=hb;refine eK wr [8,9,10,11,12] [0,1,2,3,4,5,6] 13 6 (lT:=[_,_,_,_,_,_,_]) ?_;intro q0 bq0;refine bU (aD ?_);refine aZ 7 ?_
      ·go_wp2_with (go_at_call 43;refine (hS.out _ (hrx.out _ ((hrc.below kwwr).below bq0)) (hr'.below bq0)).mono ?_;rintro e q1 ⟨l3,rfl,hbq1⟩);refine aV bq0 hbq1 ?_;intro bq1 lq1;refine fB [8,9,10] 2 (lT:=[_,_,_]) ?_;refine bU (aD ?_);refine cK [11,12] (lB:=[_,_]) ?_;refine gS (aD ?_);have kwq1:=kwwr.trans (bq1.mono kwwr.size);have kwrq1:=bq1;go_wp2_with fail;go_ret;exact ⟨rfl,kwq1⟩
     | ok l2=>
      have hst':=aD (show ccG N ctx (ctx.length - (j+1))=some co from hst);clear hr0 hvk hcv hkj hst;go_upto_region 6 with fail
      obtain ⟨y1,y2,y3⟩:=pG hc1 hc2 hc3;clear hc1 hc2 hc3;have kwwr:=hb;refine eK wr [8,9,10,11,12] [0,1,2,3,4,5,6] 13 6 (lT:=[_,_,_,_,_,_,_]) ?_;intro q0 bq0;refine bU (aD ?_);refine aZ 7 ?_
      ·go_wp2_with (go_at_call 43;refine (hS.out _ (hrx.out _ ((hrc.below kwwr).below bq0)) (hr'.below bq0)).mono ?_;rintro e q1 ⟨rfl,hbq1⟩);refine aV bq0 hbq1 ?_;intro bq1 lq1;refine fB [8,9,10] 2 (lT:=[_,_,_]) ?_;refine bU (aD ?_);refine cK [11,12] (lB:=[_,_]) ?_;refine gS (aD ?_);have kwq1:=kwwr.trans (bq1.mono kwwr.size);have kwrq1:=bq1;go_wp2_with fail;exact ⟨⟨j+1,by omega,by go_num,hst',kwq1⟩,by simp [intOf];omega⟩
   ·have hje:j=ctx.length:=by omega
    subst hje;obtain rfl:co=0:=by have:=hinv.out;rw [Nat.sub_self,ccG] at this;injection this with this;exact this.symm
    go_wp2_with fail;go_ret;exact ⟨rfl,hb⟩
theorem pY {N:Nat}{ctx:List Tm}{t s:Tm}(h:bE N ctx t=some (.ok s)):∃M,N=M+1/\aE t=true/\dU (bE M) ctx t=some (.ok s)/\aE s=true:=by
 have hv:=dD h;cases N with
 | zero=>cases h
 | succ M=>
  rw [bE] at h;split at h
  ·rename_i hh;obtain ⟨o,ho,hs⟩:=dI h;unfold fV at hs;split at hs
   ·have:=bY hs;subst this;exact ⟨M,rfl,hh.1,ho,hv⟩
   ·injection hs with hs;cases hs
  ·injection h with h;cases h
theorem lam_inv {N:Nat}{ctx:List Tm}{a b u:Tm}(h:bE N ctx (.mk 4 0 [a,b])=some (.ok u)):∃M v,bE M (ctx++[a]) b=some (.ok v)/\u = .mk 3 0 [a,v]:=by
 obtain ⟨M,rfl,_,hk,_⟩:=pY h;rw [dU,Aw Ah,Av rfl] at hk;obtain ⟨_,_,hk⟩:=dI hk;obtain ⟨v,hv,hk⟩:=dI hk;obtain ⟨_,_,hk⟩:=dI hk;have:=bY hk;exact ⟨M,v,hv,this.symm⟩
/-! the inference ends -/
theorem aNh {ctx:List Tm}{t:Tm}(h:aE t=false):Ends ctx t:=⟨1,.no false,by rw [bE,Aw (by rw [h];rintro ⟨h,-⟩;cases h)]⟩
theorem gU (ctx:List Tm):Ends ctx default:=aNh Ah
theorem iB {s:Nat->Tm}{k0 n0 k n:Int}{ks0 ks:List Tm}(hk:k0≠1)(h:ins s (.mk k0 n0 ks0) = .mk k n ks):k0=k/\n0=n/\eM s k0 0 ks0=ks:=by
 rw [dK hk] at h;injection h with h1 h2 h3;exact ⟨h1,h2,h3⟩
theorem aCq {s:Nat->Tm}{k:Int}{ks:List Tm}{x y:Tm}(h:eM s k 0 ks=[x,y]):∃x0 y0,ks=[x0,y0]/\x=ins s x0/\y=ins (if aN k 1=0 then s else lft s) y0:=by
 have hl:=eO s k ks 0;rw [h] at hl;obtain ⟨x0,y0,rfl⟩:=kP hl.symm;simp only [eM] at h;injection h with h1 h2;injection h2 with h2 _;refine ⟨x0,y0,rfl,?_,h2.symm⟩;rw [<- h1,Av (by unfold aN;rw [Aw (by rintro ⟨h,-⟩;cases h)])]
theorem vW {s:Nat->Tm}{k:Int}(hb:binds k=false){ks l:List Tm}(h:eM s k 0 ks=l):l=ks.map (ins s):=by rw [<- h,iZ hb]
theorem aCe {s:Nat->Tm}{k:Int}{ks:List Tm}{x:Tm}(h:eM s k 0 ks=[x]):∃x0,ks=[x0]/\x=ins s x0:=by
 have hl:=eO s k ks 0;rw [h] at hl;obtain ⟨x0,rfl⟩:=mB hl.symm;simp only [eM] at h;injection h with h1 _;refine ⟨x0,rfl,?_⟩;rw [<- h1,Av (by unfold aN;rw [Aw (by rintro ⟨h,-⟩;cases h)])]
def RealT (q s p:Nat->Tm):Prop:=∀n u,ST q (s n) u->u=p n
theorem RealT.lft {q s p:Nat->Tm}(h:RealT q s p)(A:Tm):RealT (lfa A q) (lft s) (lfa A p):=λn u hu=>by
 cases n with
 | zero=>
  cases hu with
  | var _=>rfl
 | succ n=>
  obtain ⟨u0,rfl,h1⟩:=hu.unsh (b:=1) (c:=0) (t:=s n) (p:=q) Ah rfl λm=>by rw [Av (Nat.zero_le _)];rfl
  rw [h n u0 h1];rfl
theorem wf2 {k n:Int}{a b:Tm}(h:cX (.mk k n [a,b])=true):cX a=true/\cX b=true:=⟨cQ h 0,cQ h 1⟩
theorem ST.an {q:Nat->Tm}{t' r:Tm}(h:ST q t' r):∀{t:Tm} {s p:Nat->Tm},cX t=true->ins s t=t'->RealT q s p->An s p t r:=by
 have hv:∀{q:Nat->Tm} {t' r t:Tm} {s p:Nat->Tm},t.k=1->ST q t' r->ins s t=t'->RealT q s p->An s p t r:=λ{q t' r t s p} hk hs he hR=>by
  obtain ⟨k,n,ks⟩:=t;have hk1:k=1:=hk;subst hk1;rw [eL] at he;subst he;rw [hR _ _ hs];exact .var
 induction h with
 | @var q n ks h0=>
  intro t s p hw he hR;by_cases hk:t.k=1
  ·exact hv hk (.var h0) he hR
  ·obtain ⟨k0,n0,ks0⟩:=t;obtain ⟨rfl,-,-⟩:=iB hk he;exact absurd rfl hk
 | @srt q n ks=>
  intro t s p hw he hR;by_cases hk:t.k=1
  ·exact hv hk .srt he hR
  ·obtain ⟨k0,n0,ks0⟩:=t;obtain ⟨rfl,rfl,-⟩:=iB hk he;exact .srt
 | @nat q n ks=>
  intro t s p hw he hR;by_cases hk:t.k=1
  ·exact hv hk .nat he hR
  ·obtain ⟨k0,n0,ks0⟩:=t;obtain ⟨rfl,rfl,-⟩:=iB hk he;exact .nat
 | @zer q n ks=>
  intro t s p hw he hR;by_cases hk:t.k=1
  ·exact hv hk .zer he hR
  ·obtain ⟨k0,n0,ks0⟩:=t;obtain ⟨rfl,rfl,-⟩:=iB hk he;exact .zer
 | @suc q n ks=>
  intro t s p hw he hR;by_cases hk:t.k=1
  ·exact hv hk .suc he hR
  ·obtain ⟨k0,n0,ks0⟩:=t;obtain ⟨rfl,rfl,-⟩:=iB hk he;exact .suc
 | @bnd q k n i j A B a b ka kb hk3 h1 hs1 h2 hs2 i1 i2=>
  intro t s p hw he hR;by_cases hk:t.k=1
  ·exact hv hk (.bnd hk3 h1 hs1 h2 hs2) he hR
  ·obtain ⟨k0,n0,ks0⟩:=t;obtain ⟨hk0,rfl,hl⟩:=iB hk he;subst hk0;obtain ⟨A0,B0,rfl,rfl,rfl⟩:=aCq hl;have hu:¬aN k0 1=0:=by rcases hk3 with rfl|rfl<;>decide
   exact .bnd hk3 (i1 (wf2 hw).1 rfl hR) hs1 (i2 (wf2 hw).2 (Aw hu▸rfl) (hR.lft _)) hs2
 | @lam q n A b u h1 i1=>
  intro t s p hw he hR;by_cases hk:t.k=1
  ·exact hv hk (.lam h1) he hR
  ·obtain ⟨k0,n0,ks0⟩:=t;obtain ⟨rfl,rfl,hl⟩:=iB hk he;obtain ⟨A0,B0,rfl,rfl,rfl⟩:=aCq hl;exact .lam (i1 (wf2 hw).2 rfl (hR.lft _))
 | @app q n m f u r A B h1 hs1 i1=>
  intro t s p hw he hR;by_cases hk:t.k=1
  ·exact hv hk (.app h1 hs1) he hR
  ·obtain ⟨k0,n0,ks0⟩:=t;obtain ⟨rfl,rfl,hl⟩:=iB hk he;obtain ⟨f0,u0,rfl,rfl,rfl⟩:=aCq hl;exact .app (i1 (wf2 hw).1 rfl hR) hs1
 | @elm q n P z x m=>
  intro t s p hw he hR;by_cases hk:t.k=1
  ·exact hv hk .elm he hR
  ·obtain ⟨k0,n0,ks0⟩:=t;obtain ⟨hk0,rfl,hl⟩:=iB hk he;subst hk0;have hl2:=vW (by rfl) hl;have hlen:ks0.length=4:=by have:=congrArg List.length hl2;simpa using this.symm
   obtain ⟨P0,z0,q0,m0,rfl⟩:=wJ hlen;simp only [List.map_cons,List.map_nil] at hl2;injection hl2 with e1 e2;injection e2 with e2 e3;injection e3 with e3 e4;injection e4 with e4 _;subst e1 e2 e3 e4;exact .elm
 | @idt q n i A a x y ka h1 hs1 i1=>
  intro t s p hw he hR;by_cases hk:t.k=1
  ·exact hv hk (.idt h1 hs1) he hR
  ·obtain ⟨k0,n0,ks0⟩:=t;obtain ⟨hk0,rfl,hl⟩:=iB hk he;subst hk0;have hl2:=vW (by rfl) hl;have hlen:ks0.length=3:=by have:=congrArg List.length hl2;simpa using this.symm
   obtain ⟨A0,x0,y0,rfl⟩:=gA hlen;simp only [List.map_cons,List.map_nil] at hl2;injection hl2 with e1 e2;subst e1;exact .idt (i1 (cQ hw 0) rfl hR) hs1
 | @rfx q n b r h1 i1=>
  intro t s p hw he hR;by_cases hk:t.k=1
  ·exact hv hk (.rfx h1) he hR
  ·obtain ⟨k0,n0,ks0⟩:=t;obtain ⟨rfl,rfl,hl⟩:=iB hk he;obtain ⟨b0,rfl,rfl⟩:=aCe hl;exact .rfx (i1 (cQ hw 0) rfl hR)
 | @mov q n m P e y r A x x' h1 hs1 i1=>
  intro t s p hw he hR;by_cases hk:t.k=1
  ·exact hv hk (.mov h1 hs1) he hR
  ·obtain ⟨k0,n0,ks0⟩:=t;obtain ⟨hk0,rfl,hl⟩:=iB hk he;subst hk0;have hl2:=vW (by rfl) hl;have hlen:ks0.length=3:=by have:=congrArg List.length hl2;simpa using this.symm
   obtain ⟨A0,x0,y0,rfl⟩:=gA hlen;simp only [List.map_cons,List.map_nil] at hl2;injection hl2 with e1 e2;injection e2 with e2 e3;subst e1 e2;exact .mov (i1 (cQ hw 1) rfl hR) hs1
 | @pai q n S a b=>
  intro t s p hw he hR;by_cases hk:t.k=1
  ·exact hv hk .pai he hR
  ·obtain ⟨k0,n0,ks0⟩:=t;obtain ⟨hk0,rfl,hl⟩:=iB hk he;subst hk0;have hl2:=vW (by rfl) hl;have hlen:ks0.length=3:=by have:=congrArg List.length hl2;simpa using this.symm
   obtain ⟨A0,x0,y0,rfl⟩:=gA hlen;simp only [List.map_cons,List.map_nil] at hl2;injection hl2 with e1 e2;subst e1;exact .pai
 | @fst q n m x r A B h1 hs1 i1=>
  intro t s p hw he hR;by_cases hk:t.k=1
  ·exact hv hk (.fst h1 hs1) he hR
  ·obtain ⟨k0,n0,ks0⟩:=t;obtain ⟨rfl,rfl,hl⟩:=iB hk he;obtain ⟨b0,rfl,rfl⟩:=aCe hl;exact .fst (i1 (cQ hw 0) rfl hR) hs1
 | @snd q n m x r A B h1 hs1 i1=>
  intro t s p hw he hR;by_cases hk:t.k=1
  ·exact hv hk (.snd h1 hs1) he hR
  ·obtain ⟨k0,n0,ks0⟩:=t;obtain ⟨rfl,rfl,hl⟩:=iB hk he;obtain ⟨b0,rfl,rfl⟩:=aCe hl;exact .snd (i1 (cQ hw 0) rfl hR) hs1
structure Opn (f:Nat->Tm->Tm):Prop where
 v0:∀e,f (e+1) (.mk 1 0 []) = .mk 1 0 []
 s1:∀e t,f (e+1) (bR 1 0 t)=bR 1 0 (f e t)
 ins:∀e t s,cX t=true->f e (Go.Proofs.YtjlaenhcemacdaaGreat.ins s t)=Go.Proofs.YtjlaenhcemacdaaGreat.ins (λn=>f e (s n)) t
 sb:∀e u B,f e (bT u 0 0 B)=bT (f e u) 0 0 (f (e+1) B)
 hs:∀e t u,cH t=some u->cH (f e t)=some (f e u)
 nb:∀e k n ks,k≠1->binds k=false->f e (.mk k n ks) = .mk k n (ks.map (f e))
 bn:∀e k n a b,k=3\/k=4\/k=13->f e (.mk k n [a,b]) = .mk k n [f e a,f (e+1) b]
theorem Opn.hss {f:Nat->Tm->Tm}(h:Opn f)(e:Nat){t u:Tm}(hs:Hs t u):Hs (f e t) (f e u):=by
 induction hs with
 | refl t=>exact .refl _
 | step h1 _ ih=>exact .step (h.hs e _ _ h1) ih
theorem Opn.lft {f:Nat->Tm->Tm}(h:Opn f)(e:Nat)(s:Nat->Tm):(λn=>f (e+1) (Go.Proofs.YtjlaenhcemacdaaGreat.lft s n))=Go.Proofs.YtjlaenhcemacdaaGreat.lft (λn=>f e (s n)):=by
 funext n
 cases n with
 | zero=>exact h.v0 e
 | succ n=>exact h.s1 e _
theorem Opn.lfa {f:Nat->Tm->Tm}(h:Opn f)(e:Nat)(A:Tm)(p:Nat->Tm):(λn=>f (e+1) (Go.Proofs.YtjlaenhcemacdaaGreat.lfa A p n))=Go.Proofs.YtjlaenhcemacdaaGreat.lfa (f e A) (λn=>f e (p n)):=by
 funext n
 cases n with
 | zero=>exact h.s1 e _
 | succ n=>exact h.s1 e _
theorem An.op {f:Nat->Tm->Tm}(hf:Opn f){s p:Nat->Tm}{t r:Tm}(h:An s p t r):∀(e:Nat),cX t=true->An (λn=>f e (s n)) (λn=>f e (p n)) t (f e r):=by
 induction h with
 | var=>exact λe _=>.var
 | @srt s p n ks=>intro e _;rw [hf.nb e 2 _ _ Ah Ah];exact .srt
 | @nat s p n ks=>intro e _;rw [hf.nb e 2 _ _ Ah Ah];exact .nat
 | @zer s p n ks=>intro e _;rw [hf.nb e 6 _ _ Ah Ah];exact .zer
 | @suc s p n ks=>intro e _;rw [hf.nb e 6 _ _ Ah Ah];exact .suc
 | @bnd s p k n i j A B a b ka kb hk h1 hs1 h2 hs2 i1 i2=>
  intro e hw;rw [hf.nb e 2 _ _ Ah Ah];have h3:=i1 e (wf2 hw).1;have h4:=i2 (e+1) (wf2 hw).2;rw [hf.lft,hf.lfa,hf.ins e A s (wf2 hw).1] at h4;have h5:=hf.hss e hs1;have h6:=hf.hss (e+1) hs2;rw [hf.nb e 2 _ _ Ah Ah] at h5;rw [hf.nb (e+1) 2 _ _ Ah Ah] at h6;exact .bnd hk h3 h5 h4 h6
 | @lam s p n A b u h1 i1=>
  intro e hw;rw [hf.bn e 3 _ _ _ (.inl rfl),hf.ins e A s (wf2 hw).1];have h4:=i1 (e+1) (wf2 hw).2;rw [hf.lft,hf.lfa,hf.ins e A s (wf2 hw).1] at h4;exact .lam h4
 | @app s p n m x u r A B h1 hs1 i1=>
  intro e hw;rw [hf.sb,hf.ins e u s (wf2 hw).2];have h5:=hf.hss e hs1;rw [hf.bn e 3 _ _ _ (.inl rfl)] at h5;exact .app (i1 e (wf2 hw).1) h5
 | @elm s p n P z q m=>
  intro e hw;rw [eH,hf.nb e 5 _ _ Ah Ah,List.map_cons,List.map_cons,List.map_nil,hf.ins e P s (cQ hw 0),hf.ins e m s (cQ hw 3)];exact .elm
 | @idt s p n i A a x y ka h1 hs1 i1=>
  intro e hw;rw [hf.nb e 2 _ _ Ah Ah];have h5:=hf.hss e hs1;rw [hf.nb e 2 _ _ Ah Ah] at h5;exact .idt (i1 e (cQ hw 0)) h5
 | @rfx s p n b r h1 i1=>
  intro e hw;rw [hf.nb e 10 _ _ Ah Ah,List.map_cons,List.map_cons,List.map_cons,List.map_nil,hf.ins e b s (cQ hw 0)];exact .rfx (i1 e (cQ hw 0))
 | @mov s p n m P x y r A z z' h1 hs1 i1=>
  intro e hw;rw [eH,hf.nb e 5 _ _ Ah Ah,List.map_cons,List.map_cons,List.map_nil,hf.ins e P s (cQ hw 0)];have h5:=hf.hss e hs1;rw [hf.nb e 10 _ _ Ah Ah] at h5;exact .mov (i1 e (cQ hw 1)) h5
 | @pai s p n S a b=>
  intro e hw;rw [hf.ins e S s (cQ hw 0)];exact .pai
 | @fst s p n m q r A B h1 hs1 i1=>
  intro e hw;have h5:=hf.hss e hs1;rw [hf.bn e 13 _ _ _ (.inr (.inr rfl))] at h5;exact .fst (i1 e (cQ hw 0)) h5
 | @snd s p n m q r A B h1 hs1 i1=>
  intro e hw;have h5:=hf.hss e hs1;rw [hf.bn e 13 _ _ _ (.inr (.inr rfl))] at h5;rw [hf.sb,hf.nb e 15 _ _ Ah Ah,List.map_cons,List.map_nil,hf.ins e q s (cQ hw 0)];exact .snd (i1 e (cQ hw 0)) h5
theorem aQc {b c k:Int}(hb:binds k=false)(ks:List Tm):bK b k c 0 ks=ks.map (bR b c):=kY hb ks 0
theorem vJ {u:Tm}{x d k:Int}(hb:binds k=false):∀(ts:List Tm) (i:Nat),cE u k x d i ts=ts.map (bT u x d)
 | [],i=>rfl
 | t::ts,i=>by rw [cE,List.map_cons,vJ hb ts (i+1),show aN k (i:Int)=0 by unfold aN;rw [Aw (by rw [hb];rintro ⟨-,h⟩;cases h)],Int.add_zero,Int.add_zero]
theorem tE {k:Int}(h:k=3\/k=4\/k=13):aN k ((0:Nat):Int)=0/\aN k ((0+1:Nat):Int)=1:=by rcases h with rfl|rfl|rfl<;>exact ⟨rfl,rfl⟩
theorem aGj {b c:Int}(hb:0<=b)(hc:0<=c):Opn λe=>bR b (c+(e:Int)) where
 v0 e:=by rw [oJ Ac,bK]
 s1 e t:=by
  have:=(aIe 1 b Ah hb).1 t 0 (c+e) Ac;show bR b (c+((e+1:Nat):Int)) _=_;rw [show c+((e+1:Nat):Int)=c+e+1 by omega];exact this
 ins e t s hw:=(aGp b hb).1 t s _ hw Ac
 sb e u B:=by
  have:=(aEc u b (c+e) hb Ac).1 B 0 Ah;rw [Int.add_zero,Int.add_zero] at this;rw [this];congr 2;omega
 hs e t u h:=by rw [aIa hb _ _ Ac,h];rfl
 nb e k n ks h1 h2:=by rw [eQ h1,aQc h2]
 bn e k n a x h:=by
  rw [eQ Ac];simp only [bK];rw [(tE h).1,(tE h).2,Int.add_zero,show c+(e:Int)+1=c+((e+1:Nat):Int) by omega]
theorem aUv {v:Tm}:∀(t u:Tm) (x d:Int),0<=d->d<=x->cH t=some u->cH (bT v x d t)=some (bT v x d u):=by
 refine jG λk n ks ih u x d hd hx h=>?_
 by_cases h0:rdx k ks=0
 ·have hk5:k=5\/k=9\/k=12\/k=15\/k=16:=lK h;have hk1:k≠1:=by omega
  have hm:¬bF k<0:=by rcases hk5 with rfl|rfl|rfl|rfl|rfl<;>decide
  by_cases hj:(bF k).toNat<ks.length
  ·rw [iY hm h0 hj] at h;cases hv:cH (aI ks (bF k).toNat) with
   | none=>rw [hv] at h;cases h
   | some w=>
    rw [hv] at h;obtain rfl:=Option.some.inj h;have h5:=lK hv;have hb:=oB hm;have hr0:rdx k (cE v k x d 0 ks)=0:=sU (by rw [mG,kT hb,aXc Ac];exact h5);have hv2:=ih _ (fG hj) w x d hd hx hv;rw [mN hk1,iY hm hr0 (by rw [dQ];exact hj),kT hb,hv2,mN hk1,vJ hb,vJ hb,lF];rfl
  ·rw [cH,Av h0,Aw hm,(eR ks _ Ac).2] at h;cases h
 ·rw [fY h0] at h;obtain rfl:=Option.some.inj h;have hk1:k≠1:=by have:=uS h0;omega
  rw [aQd hd hx h0,mN hk1,fY (by rw [aHf h0];exact h0)]
theorem aOf (v:Tm){x d:Int}(hd:0<=d)(hx:d<=x):Opn λe=>bT v (x+(e:Int)) (d+(e:Int)) where
 v0 e:=by rw [gY Ac,cE]
 s1 e t:=by
  have:=(aHi v 1 Ah).1 t 0 (d+e) (x+e) Ac Ac Ac;rw [<- this];congr 1<;>omega
 ins e t s hw:=(aNj v).1 t s _ _ hw Ac Ac
 sb e u B:=by
  have:=(aSt u v (x+e) (d+e) Ac Ac).1 B 0 Ah;rw [Int.add_zero,Int.add_zero,Int.add_zero,Int.add_zero] at this;rw [this];congr 2<;>omega
 hs e t u h:=aUv t u _ _ Ac Ac h
 nb e k n ks h1 h2:=by rw [mN h1,vJ h2]
 bn e k n a y h:=by
  rw [mN Ac];simp only [cE];rw [(tE h).1,(tE h).2,Int.add_zero,Int.add_zero,show x+(e:Int)+1=x+((e+1:Nat):Int) by omega,show d+(e:Int)+1=d+((e+1:Nat):Int) by omega]
theorem An.sub {s p:Nat->Tm}{A b u:Tm}(h:An (lft s) (lfa A p) b u)(hw:cX b=true)(v:Tm):An (sO v s) (sO A p) b (bT v 0 0 u):=by
 have h1:=An.op (aOf v (x:=0) (d:=0) Ah Ah) h 0 hw;have e1:(λn=>bT v (0+((0:Nat):Int)) (0+((0:Nat):Int)) (lft s n))=sO v s:=by
  funext n
  show bT v 0 0 (lft s n)=_;cases n with
  | zero=>rw [lft,wL rfl,sO,uZ]
  | succ n=>
   rw [lft,sO];have:=(vL v 0 Ah).1 (s n) 0 0 0 Ah Ah;rw [Int.zero_add] at this;rw [this,uZ]
 have e2:(λn=>bT v (0+((0:Nat):Int)) (0+((0:Nat):Int)) (lfa A p n))=sO A p:=by
  funext n
  show bT v 0 0 (lfa A p n)=_;have hx:∀t:Tm,bT v 0 0 (bR 1 0 t)=t:=λt=>by
   have:=(vL v 0 Ah).1 t 0 0 0 Ah Ah;rw [Int.zero_add] at this;rw [this,uZ]
  cases n with
  | zero=>exact hx A
  | succ n=>exact hx (p n)
 rw [e1,e2] at h1;exact h1
theorem An.shb {s p:Nat->Tm}{A b u:Tm}(h:An (lft s) (lfa A p) b u)(hw:cX b=true){m:Int}(hm:0<=m):An (lft λn=>bR m 0 (s n)) (lfa (bR m 0 A) λn=>bR m 0 (p n)) b (bR m 1 u):=by
 have hf:=aGj (b:=m) (c:=0) hm Ah;have h1:=An.op hf h 1 hw;have e1:=hf.lft 0 s;have e2:=hf.lfa 0 A p;simp only [Int.zero_add,Int.natCast_zero] at e1 e2 h1;rw [e1,e2] at h1;exact h1
def mX (G:List Tm)(n:Nat):Tm:=if n<G.length then bR ((n:Int)+1) 0 (G.getD (G.length - 1 - n) default) else default
theorem aJm (b c:Int):bR b c default=default:=by
 show bR b c (.mk 0 0 [])=_;rw [eQ Ah,bK];rfl
theorem kH (G:List Tm)(A:Tm):mX (G++[A])=lfa A (mX G):=by
 funext n
 cases n with
 | zero=>
  rw [mX,Av Ag,lfa,show ((0:Nat):Int)+1=1 from rfl];congr 1;simp [List.getD]
 | succ n=>
  rw [lfa,mX,mX];by_cases h:n<G.length
  ·rw [Av h,Av Ai,(nG 1 ((n:Int)+1) Ac).1 _ 0 0 Ah Ac];have h3:(G++[A]).getD ((G++[A]).length - 1 - (n+1)) default=G.getD (G.length - 1 - n) default:=by
    have h4:(G++[A]).length - 1 - (n+1)=G.length - 1 - n:=by simp;omega
    rw [h4,List.getD_eq_getElem?_getD,List.getD_eq_getElem?_getD,List.getElem?_append_left Ac]
   rw [h3];congr 1;simp;omega
  ·rw [Aw h,Aw Ai,aJm]
theorem kS {s h:Tm}(hh:jB s = .ok h):Hs s h:=(aTg _ _ _ _ (aQl hh)).1
theorem tG {N:Nat}{G:List Tm}{t:Tm}{l:Int}(h:iT (bE N) G t=some (.ok l)):∃a ka,bE N G t=some (.ok a)/\Hs a (.mk 2 l ka)/\jB a = .ok (.mk 2 l ka):=by
 rcases aM h with ⟨_,_,hr⟩|⟨a,h1,h2⟩
 ·cases hr
 ·rcases aM h2 with ⟨_,_,hr⟩|⟨o,h3,h4⟩
  ·cases hr
  ·have h5:=Option.some.inj h3;unfold tB at h4;split at h4
   ·rename_i hk;obtain rfl:=bY h4;obtain ⟨k,n,ks⟩:=o;have hk:k=2:=hk;subst hk;exact ⟨a,ks,h1,kS h5,h5⟩
   ·cases h4
theorem fI {k n:Int}{ks:List Tm}(hv:aE (.mk k n ks)=true){m:Nat}(h:aX k=(m:Int)):ks.length=m:=by have:=fH hv;omega
theorem bM {α β:Type}{o:Option (Rs α)}{f:α->Option (Rs β)}{b:β}(h:bd o f=some (.ok b)):∃a,o=some (.ok a)/\f a=some (.ok b):=by
 rcases aM h with ⟨_,_,hr⟩|h
 ·cases hr
 ·exact h
theorem oL {N:Nat}{G:List Tm}{t h:Tm}{kd:Int}(hh:yU (bE N) G t kd=some (.ok h)):∃s,bE N G t=some (.ok s)/\jB s = .ok h/\h.k=kd:=by
 obtain ⟨s,h1,h2⟩:=bM hh;obtain ⟨o,h3,h4⟩:=bM h2;have h5:=Option.some.inj h3;unfold lX at h4;split at h4
 ·obtain rfl:=bY h4;exact ⟨s,h1,h5,by assumption⟩
 ·cases h4
theorem uC {r h:Tm}{k:Int}(hh:jB r = .ok h)(hk:h.k=k)(ha:aX k=2):∃m,h = .mk k m [aI h.ks 0,aI h.ks 1]:=by
 obtain ⟨k',m,ks⟩:=h;have hk:k'=k:=hk;subst hk;have hv:=(cR hh).2.1;obtain ⟨a,b,rfl⟩:=kP (fI hv (m:=2) ha);exact ⟨m,rfl⟩
theorem aFq {r h:Tm}{k:Int}(hh:jB r = .ok h)(hk:h.k=k)(ha:aX k=3):∃m,h = .mk k m [aI h.ks 0,aI h.ks 1,aI h.ks 2]:=by
 obtain ⟨k',m,ks⟩:=h;have hk:k'=k:=hk;subst hk;have hv:=(cR hh).2.1;obtain ⟨a,b,c,rfl⟩:=gA (fI hv (m:=3) ha);exact ⟨m,rfl⟩
theorem uD:∀(N:Nat) (G:List Tm) (t s:Tm),bE N G t=some (.ok s)->ST (mX G) t s
 | 0,G,t,s,h=>by cases h
 | N+1,G,.mk k n ks,s,h=>by
  obtain ⟨M,hM,hv,hk,hvs⟩:=pY h;obtain rfl:N=M:=Nat.succ.inj hM;have ih:=uD N;have h0:0<=n:=(bD hv).2.1;rw [dU] at hk;by_cases h3:k=3\/k=13
  ·rw [Av h3] at hk;obtain ⟨a,b,rfl⟩:=kP (fI hv (m:=2) (by rcases h3 with rfl|rfl<;>rfl));obtain ⟨i,h1,hk⟩:=bM hk;obtain ⟨j,h2,hk⟩:=bM hk;obtain ⟨x,kx,h5,h6,_⟩:=tG h1;obtain ⟨y,ky,h7,h8,_⟩:=tG h2;obtain rfl:=bY hk;have h9:=ih _ _ _ h7;rw [kH] at h9;exact .bnd h3 (ih _ _ _ h5) h6 h9 h8
  rw [Aw h3] at hk;by_cases h4:k=4
  ·rw [Av h4] at hk;subst h4;obtain ⟨a,b,rfl⟩:=kP (fI hv (m:=2) rfl);obtain ⟨i,h1,hk⟩:=bM hk;obtain ⟨u,h2,hk⟩:=bM hk;obtain ⟨_,_,hk⟩:=bM hk;obtain rfl:=bY hk;have h9:=ih _ _ _ h2;rw [show aI [a,b] 0=a from rfl,kH] at h9;exact .lam h9
  rw [Aw h4] at hk;by_cases h5:k=5
  ·rw [Av h5] at hk;subst h5;obtain ⟨a,b,rfl⟩:=kP (fI hv (m:=2) rfl);obtain ⟨hd,h1,hk⟩:=bM hk;obtain ⟨_,_,hk⟩:=bM hk;obtain rfl:=bY hk;obtain ⟨r,h6,h7,h8⟩:=oL h1;obtain ⟨m,hm⟩:=uC h7 h8 rfl;have:=kS h7;rw [hm] at this;exact .app (ih _ _ _ h6) this
  rw [Aw h5] at hk;by_cases h9:k=9
  ·rw [Av h9] at hk;subst h9;obtain ⟨a,b,c,d,rfl⟩:=wJ (fI hv (m:=4) rfl);obtain ⟨_,_,hk⟩:=bM hk;obtain ⟨_,_,hk⟩:=bM hk;obtain ⟨_,_,hk⟩:=bM hk;obtain ⟨_,_,hk⟩:=bM hk;obtain rfl:=bY hk;exact .elm
  rw [Aw h9] at hk;by_cases h10:k=10
  ·rw [Av h10] at hk;subst h10;obtain ⟨a,b,c,rfl⟩:=gA (fI hv (m:=3) rfl);obtain ⟨i,h1,hk⟩:=bM hk;obtain ⟨_,_,hk⟩:=bM hk;obtain ⟨_,_,hk⟩:=bM hk;obtain rfl:=bY hk;obtain ⟨x,kx,h5,h6,_⟩:=tG h1;exact .idt (ih _ _ _ h5) h6
  rw [Aw h10] at hk;by_cases h12:k=12
  ·rw [Av h12] at hk;subst h12;obtain ⟨a,b,c,rfl⟩:=gA (fI hv (m:=3) rfl);obtain ⟨hd,h1,hk⟩:=bM hk;obtain ⟨_,_,hk⟩:=bM hk;obtain ⟨_,_,hk⟩:=bM hk;obtain rfl:=bY hk;obtain ⟨r,h6,h7,h8⟩:=oL h1;obtain ⟨m,hm⟩:=aFq h7 h8 rfl;have:=kS h7;rw [hm] at this;exact .mov (ih _ _ _ h6) this
  rw [Aw h12] at hk;by_cases h14:k=14
  ·rw [Av h14] at hk;subst h14;obtain ⟨a,b,c,rfl⟩:=gA (fI hv (m:=3) rfl);obtain ⟨_,_,hk⟩:=bM hk;obtain ⟨_,_,hk⟩:=bM hk;obtain ⟨_,_,hk⟩:=bM hk;obtain ⟨_,_,hk⟩:=bM hk;obtain ⟨_,_,hk⟩:=bM hk;obtain rfl:=bY hk;exact .pai
  rw [Aw h14] at hk;by_cases h1:k=1
  ·rw [Av h1] at hk;subst h1;unfold aEp at hk;split at hk
   ·cases hk
   ·rename_i hn;obtain rfl:=bY hk;have:=ST.var (p:=mX G) (n:=n) (ks:=ks) h0;rw [mX,Av Ac,Int.toNat_of_nonneg h0] at this;exact this
  rw [Aw h1] at hk;by_cases h2:k=2
  ·rw [Av h2] at hk;subst h2;split at hk
   ·cases hk
   ·obtain rfl:=bY hk;exact .srt
  rw [Aw h2] at hk;by_cases h6:k=6
  ·rw [Av h6] at hk;subst h6;obtain rfl:=bY hk;exact .nat
  rw [Aw h6] at hk;by_cases h7:k=7
  ·rw [Av h7] at hk;subst h7;obtain rfl:=bY hk;exact .zer
  rw [Aw h7] at hk;by_cases h8:k=8
  ·rw [Av h8] at hk;subst h8;obtain ⟨_,_,hk⟩:=bM hk;obtain rfl:=bY hk;exact .suc
  rw [Aw h8] at hk;by_cases h11:k=11
  ·rw [Av h11] at hk;subst h11;obtain ⟨a,rfl⟩:=mB (fI hv (m:=1) rfl);obtain ⟨r,h1,hk⟩:=bM hk;obtain ⟨_,_,hk⟩:=bM hk;obtain rfl:=bY hk;exact .rfx (ih _ _ _ h1)
  rw [Aw h11] at hk;have ha:=(bD hv).1;obtain ⟨hd,h1,hk2⟩:=bM hk;obtain ⟨r,h6,h7,h8⟩:=oL h1;obtain ⟨m,hm⟩:=uC h7 h8 rfl;have hh:=kS h7;rw [hm] at hh;by_cases h15:k=15
  ·rw [Av h15] at hk2;subst h15;obtain ⟨a,rfl⟩:=mB (fI hv (m:=1) rfl);obtain rfl:=bY hk2;exact .fst (ih _ _ _ h6) hh
  ·rw [Aw h15] at hk2;have h16:k=16:=by
    apply Classical.byContradiction
    intro h16;have:aX k = -1:=by unfold aX;repeat' (first|rw [Aw Ac]|rfl)
    omega
   subst h16;obtain ⟨a,rfl⟩:=mB (fI hv (m:=1) rfl);obtain rfl:=bY hk2;exact .snd (ih _ _ _ h6) hh
def up (H:List Tm)(t:Tm):Tm:=bR (H.length:Int) 0 t
def up1 (H:List Tm)(t:Tm):Tm:=bR (H.length:Int) 1 t
theorem fF (t:Tm):up [] t=t:=uZ t 0
theorem kD (t:Tm):up1 [] t=t:=uZ t 1
theorem lL (H H':List Tm)(t:Tm):up H' (up H t)=up (H++H') t:=by
 rw [up,up,up,(nG _ _ Ac).1 t 0 0 Ah Ac];congr 1;simp;omega
theorem mK (H H':List Tm)(t:Tm):up1 H' (up1 H t)=up1 (H++H') t:=by
 rw [up1,up1,up1,(nG _ _ Ac).1 t 1 1 Ah Ac];congr 1;simp;omega
theorem aWu (H:List Tm)(u B:Tm):up H (bT u 0 0 B)=bT (up H u) 0 0 (up1 H B):=by
 have:=(aEc u (H.length:Int) 0 Ac Ah).1 B 0 Ah;exact this
theorem aTj {H:List Tm}{k n:Int}{ks:List Tm}(h:k≠1)(hb:binds k=false):up H (.mk k n ks) = .mk k n (ks.map (up H)):=by
 rw [up,eQ h,aQc hb];rfl
theorem aEw {H:List Tm}{k n:Int}{a b:Tm}(h:k=3\/k=4\/k=13):up H (.mk k n [a,b]) = .mk k n [up H a,up1 H b]:=by
 have:=(aGj (b:=(H.length:Int)) (c:=0) Ac Ah).bn 0 k n a b h;exact this
theorem aAm {t u:Tm}(H:List Tm)(h:Hs t u):Hs (up H t) (up H u):=h.sh Ac Ah
theorem Mt.up {a b:Tm}(h:Mt a b)(H:List Tm):Mt (Go.Proofs.YtjlaenhcemacdaaGreat.up H a) (Go.Proofs.YtjlaenhcemacdaaGreat.up H b):=by
 have hp:∀{x y:Tm} {c:Int},0<=c->Ps x y->Ps (bR (H.length:Int) c x) (bR (H.length:Int) c y):=λhc hxy=>by
  induction hxy with
  | refl t=>exact .refl _
  | step h1 _ ih=>exact .step (h1.sh Ac hc) ih
 obtain ⟨c,h1,h2⟩:=h;exact ⟨_,hp Ah h1,hp Ah h2⟩
theorem Mt.up1 {a b:Tm}(h:Mt a b)(H:List Tm):Mt (Go.Proofs.YtjlaenhcemacdaaGreat.up1 H a) (Go.Proofs.YtjlaenhcemacdaaGreat.up1 H b):=by
 have hp:∀{x y:Tm} {c:Int},0<=c->Ps x y->Ps (bR (H.length:Int) c x) (bR (H.length:Int) c y):=λhc hxy=>by
  induction hxy with
  | refl t=>exact .refl _
  | step h1 _ ih=>exact .step (h1.sh Ac hc) ih
 obtain ⟨c,h1,h2⟩:=h;exact ⟨_,hp Ah h1,hp Ah h2⟩
theorem Ps.sbu {u u':Tm}(h:Ps u u')(t:Tm):Ps (bT u 0 0 t) (bT u' 0 0 t):=by
 induction h with
 | refl u=>exact .refl _
 | step h1 _ ih=>exact .step ((Pr.refl t).sb h1 Ah Ah) ih
theorem Mt.sbu {u u':Tm}(h:Mt u u')(t:Tm):Mt (bT u 0 0 t) (bT u' 0 0 t):=by obtain ⟨c,h1,h2⟩:=h;exact ⟨_,h1.sbu t,h2.sbu t⟩
theorem Ps.kids {k n:Int}:∀{ks ls:List Tm},ks.length=ls.length->(∀i,i<ks.length->Ps (aI ks i) (aI ls i))->Ps (.mk k n ks) (.mk k n ls):=λ{ks ls} hl h=>by
 have one:∀(ks:List Tm) (i:Nat) (u:Tm),i<ks.length->Ps (aI ks i) u->Ps (.mk k n ks) (.mk k n (ks.set i u)):=λks i u hi hu=>by
  generalize ht:aI ks i=t at hu;induction hu generalizing ks with
  | refl t=>rw [show ks.set i t=ks by rw [<- ht,cO hi];exact List.set_getElem_self hi];exact .refl _
  | @step t a b h1 _ ih=>
   have h2:=ih (ks.set i a) (by simpa using hi) (by rw [cO (by simpa using hi),List.getElem_set_self]);rw [List.set_set] at h2;refine .step ((PrL.of Ag λj hj=>?_).node k n) h2;by_cases hij:j=i
   ·subst hij;rw [ht,cO (by simpa using hj),List.getElem_set_self];exact h1
   ·rw [cO hj,cO (by simpa using hj),List.getElem_set_ne (λh=>hij h.symm)];exact .refl _
 have all:∀m,m<=ks.length->Ps (.mk k n ks) (.mk k n (ls.take m++ks.drop m)):=λm=>by
  induction m with
  | zero=>intro _;simpa using Ps.refl _
  | succ m ih=>
   intro hm;have h1:=ih Ac;have hlen:(ls.take m++ks.drop m).length=ks.length:=by simp;omega
   have h2:=one (ls.take m++ks.drop m) m (aI ls m) Ac (by
    rw [cO Ac,List.getElem_append_right Ai];simp only [List.length_take,List.getElem_drop];have:=h m Ac;rw [cO Ac] at this;have e:m+(m - min m ls.length)=m:=by omega
    simp only [e];exact this)
   have e:(ls.take m++ks.drop m).set m (aI ls m)=ls.take (m+1)++ks.drop (m+1):=by
    refine List.ext_getElem Ai λj h3 h4=>?_
    rw [List.getElem_set];by_cases hj:m=j
    ·subst hj;rw [Av rfl,List.getElem_append_left Ai,List.getElem_take,cO Ac]
    ·rw [Aw hj];by_cases hj2:j<m
     ·rw [List.getElem_append_left Ai,List.getElem_append_left Ai,List.getElem_take,List.getElem_take]
     ·rw [List.getElem_append_right Ai,List.getElem_append_right Ai,List.getElem_drop,List.getElem_drop];congr 1;simp;omega
   rw [e] at h2;exact h1.trans h2
 have:=all ks.length (mC _);rw [List.drop_length,List.append_nil,hl,List.take_length] at this;exact this
theorem Mt.kids {k n:Int}{ks ls:List Tm}(hl:ks.length=ls.length)(h:∀i,i<ks.length->Mt (aI ks i) (aI ls i)):Mt (.mk k n ks) (.mk k n ls):=by
 have hc:∀i,∃c,i<ks.length->Ps (aI ks i) c/\Ps (aI ls i) c:=λi=>by
  by_cases hi:i<ks.length
  ·obtain ⟨c,h1⟩:=h i hi;exact ⟨c,λ_=>h1⟩
  ·exact ⟨default,λh=>absurd h hi⟩
 obtain ⟨f,hf⟩:=Classical.axiomOfChoice hc;have hk:∀i,i<ks.length->aI ((List.range ks.length).map f) i=f i:=λi hi=>by
  rw [cO (by simpa using hi)];simp
 exact ⟨.mk k n ((List.range ks.length).map f),Ps.kids Ag λi hi=>by rw [hk i hi];exact (hf i hi).1,Ps.kids (by simp [hl]) λi hi=>by rw [hk i Ac];exact (hf i Ac).2⟩
theorem aIh {A A' B B':Tm}(h:Hs A B)(hn:cH B=none)(h':Hs A' B')(hn':cH B'=none)(hM:Mt A A'):B.k=B'.k/\B.n=B'.n/\∀i,Mt (aI B.ks i) (aI B'.ks i):=by
 have hm:Mt B B':=h.ps.mt.symm.trans (hM.trans h'.ps.mt);have hN:∀{t u:Tm},Ps t u->cH t=none->u.n=t.n:=λh=>by
  induction h with
  | refl t=>exact λ_=>rfl
  | @step t u v h1 _ ih=>
   intro ht;have h2:=aMn _ _ ht h1;rw [ih h2.2.1];cases h1 with
   | node _ _=>rfl
   | red hr _ _=>rw [fY hr] at ht;cases ht
 obtain ⟨c,h1,h2⟩:=hm;obtain ⟨h3,h4⟩:=aNb h1 hn;obtain ⟨h5,h6⟩:=aNb h2 hn';exact ⟨h3.symm.trans h5,(hN h1 hn).symm.trans (hN h2 hn'),λi=>⟨_,h4 i,h6 i⟩⟩
theorem aRh (D:List Tm):∀(H:List Tm) (n:Nat),mX (D++H) (if 0<=n then n+((H.length:Int)).toNat else n)=up H (mX D n):=by
 intro H n;rw [Av (Nat.zero_le _),Int.toNat_natCast,mX,mX,up];by_cases h:n<D.length
 ·rw [Av h,Av Ai,(nG _ _ Ac).1 _ 0 0 Ah Ac];have e:(D++H).getD ((D++H).length - 1 - (n+H.length)) default=D.getD (D.length - 1 - n) default:=by
   have h4:(D++H).length - 1 - (n+H.length)=D.length - 1 - n:=by simp;omega
   rw [h4,List.getD_eq_getElem?_getD,List.getD_eq_getElem?_getD,List.getElem?_append_left Ac]
  rw [e];congr 1;simp;omega
 ·rw [Aw h,Aw Ai,aJm]
theorem ST.up_inv {D H:List Tm}{v s:Tm}(h:ST (mX (D++H)) (up H v) s):∃s0,s=up H s0/\ST (mX D) v s0:=
 h.unsh (b:=(H.length:Int)) (c:=0) (t:=v) (p:=mX D) Ac rfl λn=>aRh D H n
def fs (t:Tm):Tm:=.mk 15 0 [t]
def sn (t:Tm):Tm:=.mk 16 0 [t]
theorem aTa {a a':Tm}(h:Hs a a')(b:Tm):Hs (eH a b) (eH a' b):=Hs.at (k:=5) (n:=0) Ah h (ks:=[a,b]) (Nat.zero_lt_succ _) rfl
theorem aTd {a a':Tm}(h:Hs a a'):Hs (fs a) (fs a'):=Hs.at (k:=15) (n:=0) Ah h (ks:=[a]) (Nat.zero_lt_succ _) rfl
theorem aSw {a a':Tm}(h:Hs a a'):Hs (sn a) (sn a'):=Hs.at (k:=16) (n:=0) Ah h (ks:=[a]) (Nat.zero_lt_succ _) rfl
theorem aWm {a:Tm}(h:Ne a)(b:Tm):Ne (eH a b):=.node (k:=5) (ks:=[a,b]) Ah (Nat.zero_lt_succ _) h
theorem aWh {a:Tm}(h:Ne a):Ne (fs a):=.node (k:=15) (ks:=[a]) Ah (Nat.zero_lt_succ _) h
theorem aXg {a:Tm}(h:Ne a):Ne (sn a):=.node (k:=16) (ks:=[a]) Ah (Nat.zero_lt_succ _) h
theorem aUb {a:Tm}(h:NeR a)(b:Tm):NeR (eH a b):=by obtain ⟨u,h1,h2⟩:=h;exact ⟨_,aTa h1 b,aWm h2 b⟩
theorem aUm {a:Tm}(h:NeR a):NeR (fs a):=by obtain ⟨u,h1,h2⟩:=h;exact ⟨_,aTd h1,aWh h2⟩
theorem aUw {a:Tm}(h:NeR a):NeR (sn a):=by obtain ⟨u,h1,h2⟩:=h;exact ⟨_,aSw h1,aXg h2⟩
theorem mS {a:Tm}(h:NeR a)(H:List Tm):NeR (up H a):=h.sh Ac
abbrev Pd:=List Tm->Tm->Tm->Prop
section
variable (T:List Tm->Tm->Prop)
def TK (D:List Tm)(t:Tm):Prop:=∀H,T (D++H) (up H t)
def El (D:List Tm)(P:Pd)(H:List Tm)(v:Tm):Prop:=TK T (D++H) v/\∀s,ST (mX (D++H)) v s->P H v s
def UP (U:Nat->List Tm->Tm->Prop)(D:List Tm)(j:Nat):Pd:=λH v r=>TK T (D++H) r/\(∃ks,Hs r (.mk 2 (j:Int) ks))/\U j (D++H) v
inductive Nt:List Tm->Tm->Prop
 | zer {D:List Tm} {v:Tm}:Hs v (.mk 7 0 [])->Nt D v
 | suc {D:List Tm} {v m:Tm}:Hs v (.mk 8 0 [m])->TK T D m->(∀s,ST (mX D) m s->TK T D s/\∃n ks,Hs s (.mk 6 n ks))->Nt D m->Nt D v
 | ne {D:List Tm} {v:Tm}:NeR v->Nt D v
def NP (D:List Tm):Pd:=λH v r=>TK T (D++H) r/\(∃n ks,Hs r (.mk 6 n ks))/\Nt T (D++H) v
def NeP (D:List Tm):Pd:=λH v r=>TK T (D++H) r/\NeR r/\NeR v
def PiP (D:List Tm)(P1:Pd)(P2:List Tm->Tm->Pd):Pd:=λH v r=>TK T (D++H) r/\
 (∃n A B,Hs r (.mk 3 n [A,B])/\∀H' u q,P1 (H++H') u q->El T D P1 (H++H') u->P2 (H++H') u [] (eH (up H' v) u) (bT u 0 0 (up1 H' B)))/\(NeR v\/∃n ks,Hs v (.mk 4 n ks))
def SgP (D:List Tm)(P1:Pd)(P2:List Tm->Tm->Pd):Pd:=λH v r=>TK T (D++H) r/\
 (∃n A B,Hs r (.mk 13 n [A,B])/\∀H',P1 (H++H') (fs (up H' v)) (up H' A)/\El T D P1 (H++H') (fs (up H' v))/\
  ∀w q,P1 (H++H') w q->El T D P1 (H++H') w->Mt w (fs (up H' v))->P2 (H++H') (fs (up H' v)) [] (sn (up H' v)) (bT w 0 0 (up1 H' B)))/\(NeR v\/∃n ks,Hs v (.mk 14 n ks))
def IdP (D:List Tm)(P1:Pd)(a b:Tm):Pd:=λH v r=>TK T (D++H) r/\
 (∃n A x y,Hs r (.mk 10 n [A,x,y])/\Mt x (up H a)/\Mt y (up H b)/\∀H',(∃q,P1 (H++H') (up H' y) q)/\El T D P1 (H++H') (up H' y))/\(NeR v\/∃n c,Hs v (.mk 11 n [c])/\Mt c (up H a)/\Mt c (up H b))
inductive LR (U:Nat->List Tm->Tm->Prop) (i:Nat):List Tm->Tm->Pd->Prop
 | uni {D:List Tm} {A:Tm} {j:Nat} {ks:List Tm}:TK T D A->Hs A (.mk 2 (j:Int) ks)->j<i->LR U i D A (UP T U D j)
 | nat {D:List Tm} {A:Tm} {n:Int} {ks:List Tm}:TK T D A->Hs A (.mk 6 n ks)->LR U i D A (NP T D)
 | ne {D:List Tm} {A:Tm}:TK T D A->NeR A->LR U i D A (NeP T D)
 | pi {D:List Tm} {A A1 B1:Tm} {n:Int} {P1:Pd} {P2:List Tm->Tm->Pd}:TK T D A->Hs A (.mk 3 n [A1,B1])->LR U i D A1 P1->(∀H u q,P1 H u q->El T D P1 H u->LR U i (D++H) (bT u 0 0 (up1 H B1)) (P2 H u))->LR U i D A (PiP T D P1 P2)
 | sig {D:List Tm} {A A1 B1:Tm} {n:Int} {P1:Pd} {P2:List Tm->Tm->Pd}:TK T D A->Hs A (.mk 13 n [A1,B1])->LR U i D A1 P1->(∀H u q,P1 H u q->El T D P1 H u->LR U i (D++H) (bT u 0 0 (up1 H B1)) (P2 H u))->LR U i D A (SgP T D P1 P2)
 | idt {D:List Tm} {A A1 a b q1 q2:Tm} {n:Int} {P1:Pd}:TK T D A->Hs A (.mk 10 n [A1,a,b])->LR U i D A1 P1->P1 [] a q1->El T D P1 [] a->P1 [] b q2->El T D P1 [] b->LR U i D A (IdP T D P1 a b)
end
variable {T:List Tm->Tm->Prop}
theorem TK.up {D H:List Tm}{t:Tm}(h:TK T D t):TK T (D++H) (up H t):=λH'=>by
 have:=h (H++H');rwa [<- List.append_assoc,<- lL] at this
theorem TK.at {D:List Tm}{t:Tm}(h:TK T D t):T D t:=by
 have:=h [];rwa [List.append_nil,fF] at this
theorem fD (D H0:List Tm)(P:Pd)(H:List Tm)(v:Tm):El T (D++H0) (λH=>P (H0++H)) H v↔El T D P (H0++H) v:=by
 unfold El;rw [List.append_assoc]
theorem aQm (U:Nat->List Tm->Tm->Prop)(D H0:List Tm)(j:Nat):(λH=>UP T U D j (H0++H))=UP T U (D++H0) j:=by
 funext H v r;unfold UP;rw [List.append_assoc]
theorem aPx (D H0:List Tm):(λH=>NP T D (H0++H))=NP T (D++H0):=by
 funext H v r;unfold NP;rw [List.append_assoc]
theorem aKo (D H0:List Tm):(λH=>NeP T D (H0++H))=NeP T (D++H0):=by
 funext H v r;unfold NeP;rw [List.append_assoc]
theorem aMg (D H0:List Tm)(P1:Pd)(P2:List Tm->Tm->Pd):(λH=>PiP T D P1 P2 (H0++H))=PiP T (D++H0) (λH=>P1 (H0++H)) (λH=>P2 (H0++H)):=by
 funext H v r;unfold PiP;simp only [fD,List.append_assoc]
theorem aLt (D H0:List Tm)(P1:Pd)(P2:List Tm->Tm->Pd):(λH=>SgP T D P1 P2 (H0++H))=SgP T (D++H0) (λH=>P1 (H0++H)) (λH=>P2 (H0++H)):=by
 funext H v r;unfold SgP;simp only [fD,List.append_assoc]
theorem aMb (D H0:List Tm)(P1:Pd)(a b:Tm):(λH=>IdP T D P1 a b (H0++H))=IdP T (D++H0) (λH=>P1 (H0++H)) (up H0 a) (up H0 b):=by
 funext H v r;unfold IdP;simp only [fD,List.append_assoc,lL]
theorem gZ {A A1 B1:Tm}{k n:Int}(hk:k=3\/k=4\/k=13)(H:List Tm)(h:Hs A (.mk k n [A1,B1])):Hs (up H A) (.mk k n [up H A1,up1 H B1]):=by
 have:=aAm H h;rwa [aEw hk] at this
theorem gD {A:Tm}{k n:Int}{ks:List Tm}(hk:k≠1)(hb:binds k=false)(H:List Tm)(h:Hs A (.mk k n ks)):Hs (up H A) (.mk k n (ks.map (up H))):=by
 have:=aAm H h;rwa [aTj hk hb] at this
theorem LR.tk {U:Nat->List Tm->Tm->Prop}{i:Nat}{D:List Tm}{A:Tm}{P:Pd}(h:LR T U i D A P):TK T D A:=by
 cases h<;>assumption
theorem LR.ptk {U:Nat->List Tm->Tm->Prop}{i:Nat}{D:List Tm}{A:Tm}{P:Pd}(h:LR T U i D A P){H:List Tm}{v r:Tm}(hp:P H v r):TK T (D++H) r:=by
 cases h<;>exact hp.1
theorem Nt.up {D:List Tm}{v:Tm}(h:Nt T D v)(H:List Tm):Nt T (D++H) (up H v):=by
 induction h with
 | zer h=>exact .zer (gD Ah (by rfl) H h)
 | @suc v m h1 h2 h3 _ ih=>
  refine .suc (m:=Go.Proofs.YtjlaenhcemacdaaGreat.up H m) (gD Ah (by rfl) H h1) h2.up (λs hs=>?_) ih;obtain ⟨s0,rfl,h5⟩:=hs.up_inv;obtain ⟨h6,n',ks,h7⟩:=h3 s0 h5;exact ⟨h6.up,n',_,gD Ah (by rfl) H h7⟩
 | ne h=>exact .ne (mS h H)
section
variable {U:Nat->List Tm->Tm->Prop}{i:Nat}
theorem LR.pmono (hU:∀j D v H,U j D v->U j (D++H) (up H v)){D:List Tm}{A:Tm}{P:Pd}(h:LR T U i D A P){H:List Tm}(H':List Tm){v r:Tm}(hp:P H v r):P (H++H') (up H' v) (up H' r):=by
 cases h with
 | uni h1 h2 h3=>
  obtain ⟨p1,⟨ks,p2⟩,p3⟩:=hp;refine ⟨?_,⟨_,gD Ah (by rfl) H' p2⟩,?_⟩
  ·have:=p1.up (H:=H');rwa [List.append_assoc] at this
  ·have:=hU _ _ _ H' p3;rwa [List.append_assoc] at this
 | nat h1 h2=>
  obtain ⟨p1,⟨n,ks,p2⟩,p3⟩:=hp;refine ⟨?_,⟨n,_,gD Ah (by rfl) H' p2⟩,?_⟩
  ·have:=p1.up (H:=H');rwa [List.append_assoc] at this
  ·have:=p3.up H';rwa [List.append_assoc] at this
 | ne h1 h2=>
  obtain ⟨p1,p2,p3⟩:=hp;refine ⟨?_,mS p2 H',mS p3 H'⟩;have:=p1.up (H:=H');rwa [List.append_assoc] at this
 | pi h1 h2 h3 h4=>
  obtain ⟨p1,⟨n,A,B,p2,p3⟩,p4⟩:=hp;refine ⟨by have:=p1.up (H:=H');rwa [List.append_assoc] at this,⟨n,_,_,gZ (.inl rfl) H' p2,λH2 u q hu he=>?_⟩,?_⟩
  ·rw [List.append_assoc] at hu he⊢;rw [lL,mK];exact p3 (H'++H2) u q hu he
  ·rcases p4 with p4|⟨n,ks,p4⟩
   ·exact .inl (mS p4 H')
   ·right
    have:=aAm H' p4;rw [up,up,eQ Ah] at this;exact ⟨n,_,this⟩
 | sig h1 h2 h3 h4=>
  obtain ⟨p1,⟨n,A,B,p2,p3⟩,p4⟩:=hp;refine ⟨by have:=p1.up (H:=H');rwa [List.append_assoc] at this,⟨n,_,_,gZ (.inr (.inr rfl)) H' p2,λH2=>?_⟩,?_⟩
  ·rw [List.append_assoc,lL,lL,mK];exact p3 (H'++H2)
  ·rcases p4 with p4|⟨n,ks,p4⟩
   ·exact .inl (mS p4 H')
   ·exact .inr ⟨n,_,gD Ah (by rfl) H' p4⟩
 | idt h1 h2 h3 h4 h5 h6 h7=>
  obtain ⟨p1,⟨n,A,x,y,p2,p3,p4,p5⟩,p6⟩:=hp;refine ⟨by have:=p1.up (H:=H');rwa [List.append_assoc] at this,⟨n,_,_,_,gD Ah (by rfl) H' p2,?_,?_,λH2=>?_⟩,?_⟩
  ·rw [<- lL];exact p3.up H'
  ·rw [<- lL];exact p4.up H'
  ·rw [List.append_assoc,lL];exact p5 (H'++H2)
  ·rcases p6 with p6|⟨n,c,p6,p7,p8⟩
   ·exact .inl (mS p6 H')
   ·exact .inr ⟨n,_,gD Ah (by rfl) H' p6,by rw [<- lL];exact p7.up H',by rw [<- lL];exact p8.up H'⟩
theorem LR.emono (hU:∀j D v H,U j D v->U j (D++H) (up H v)){D:List Tm}{A:Tm}{P:Pd}(h:LR T U i D A P){H:List Tm}(H':List Tm){v:Tm}(hp:El T D P H v):El T D P (H++H') (up H' v):=by
 refine ⟨?_,λs hs=>?_⟩
 ·have:=hp.1.up (H:=H');rwa [List.append_assoc] at this
 ·rw [<- List.append_assoc] at hs;obtain ⟨s0,rfl,h1⟩:=hs.up_inv;exact h.pmono hU H' (hp.2 s0 h1)
theorem LR.mono (hU:∀j D v H,U j D v->U j (D++H) (up H v)){D:List Tm}{A:Tm}{P:Pd}(h:LR T U i D A P)(H0:List Tm):LR T U i (D++H0) (up H0 A) (λH=>P (H0++H)):=by
 induction h with
 | uni h1 h2 h3=>rw [aQm];exact .uni h1.up (gD Ah (by rfl) H0 h2) h3
 | nat h1 h2=>rw [aPx];exact .nat h1.up (gD Ah (by rfl) H0 h2)
 | ne h1 h2=>rw [aKo];exact .ne h1.up (mS h2 H0)
 | pi h1 h2 h3 h4 i3 i4=>
  rw [aMg];refine .pi h1.up (gZ (.inl rfl) H0 h2) i3 λH u q hu he=>?_
  rw [List.append_assoc,mK];exact h4 (H0++H) u q hu ((fD _ _ _ _ _).1 he)
 | sig h1 h2 h3 h4 i3 i4=>
  rw [aLt];refine .sig h1.up (gZ (.inr (.inr rfl)) H0 h2) i3 λH u q hu he=>?_
  rw [List.append_assoc,mK];exact h4 (H0++H) u q hu ((fD _ _ _ _ _).1 he)
 | @idt D A A1 a b q1 q2 n P1 h1 h2 h3 h4 h5 h6 h7 i3=>
  rw [aMb];have e:∀{v q:Tm},P1 [] v q->P1 (H0++[]) (up H0 v) (up H0 q):=λhp=>by
   have:=h3.pmono hU H0 hp;rw [List.append_nil];exact this
  have e2:∀{v:Tm},El T D P1 [] v->El T (D++H0) (λH=>P1 (H0++H)) [] (up H0 v):=λhp=>by
   have:=h3.emono hU H0 hp;rw [fD,List.append_nil];exact this
  exact .idt h1.up (gD Ah (by rfl) H0 h2) i3 (e h4) (e2 h5) (e h6) (e2 h7)
theorem aT {A A':Tm}{k n k' n':Int}{ks ks':List Tm}(h:Hs A (.mk k n ks))(hk:k=2\/k=3\/k=6\/k=10\/k=13)(h':Hs A' (.mk k' n' ks'))(hk':k'=2\/k'=3\/k'=6\/k'=10\/k'=13)(hM:Mt A A'):k=k'/\n=n'/\∀i,Mt (aI ks i) (aI ks' i):=aIh h (nh _ _ _ hk) h' (nh _ _ _ hk') hM
theorem dY {A A':Tm}{k n:Int}{ks:List Tm}(h:Hs A (.mk k n ks))(hk:k=2\/k=3\/k=6\/k=10\/k=13)(h':NeR A')(hM:Mt A A'):False:=by
 obtain ⟨u,h1,h2⟩:=h';have h3:=(aIh h (nh _ _ _ hk) h1 h2.hst hM).1;have h4:=h2.kind;have h5:k=u.k:=h3;omega
theorem Mt.sb2 {u A B:Tm}(h:Mt A B)(H:List Tm):Mt (bT u 0 0 (Go.Proofs.YtjlaenhcemacdaaGreat.up1 H A)) (bT u 0 0 (Go.Proofs.YtjlaenhcemacdaaGreat.up1 H B)):=(h.up1 H).sb u
theorem LR.irr {D:List Tm}{A:Tm}{P:Pd}(h:LR T U i D A P):∀{A':Tm} {P':Pd},LR T U i D A' P'->Mt A A'->P=P':=by
 induction h with
 | @uni D A j ks h1 h2 h3=>
  intro A' P' h' hM;cases h' with
  | uni g1 g2 g3=>
   have:=(aT h2 (.inl rfl) g2 (.inl rfl) hM).2.1;rw [Int.ofNat_inj.1 this]
  | nat g1 g2=>exact absurd (aT h2 (.inl rfl) g2 Ah hM).1 Ah
  | ne g1 g2=>exact (dY h2 (.inl rfl) g2 hM).elim
  | pi g1 g2=>exact absurd (aT h2 (.inl rfl) g2 Ah hM).1 Ah
  | sig g1 g2=>exact absurd (aT h2 (.inl rfl) g2 Ah hM).1 Ah
  | idt g1 g2=>exact absurd (aT h2 (.inl rfl) g2 Ah hM).1 Ah
 | nat h1 h2=>
  intro A' P' h' hM;cases h' with
  | uni g1 g2 g3=>exact absurd (aT h2 Ah g2 (.inl rfl) hM).1 Ah
  | nat g1 g2=>rfl
  | ne g1 g2=>exact (dY h2 Ah g2 hM).elim
  | pi g1 g2=>exact absurd (aT h2 Ah g2 Ah hM).1 Ah
  | sig g1 g2=>exact absurd (aT h2 Ah g2 Ah hM).1 Ah
  | idt g1 g2=>exact absurd (aT h2 Ah g2 Ah hM).1 Ah
 | ne h1 h2=>
  intro A' P' h' hM;cases h' with
  | uni g1 g2 g3=>exact (dY g2 (.inl rfl) h2 hM.symm).elim
  | nat g1 g2=>exact (dY g2 Ah h2 hM.symm).elim
  | ne g1 g2=>rfl
  | pi g1 g2=>exact (dY g2 Ah h2 hM.symm).elim
  | sig g1 g2=>exact (dY g2 Ah h2 hM.symm).elim
  | idt g1 g2=>exact (dY g2 Ah h2 hM.symm).elim
 | @pi D A A1 B1 n P1 P2 h1 h2 h3 h4 i3 i4=>
  intro A' P' h' hM;cases h' with
  | uni g1 g2 g3=>exact absurd (aT h2 Ah g2 (.inl rfl) hM).1 Ah
  | nat g1 g2=>exact absurd (aT h2 Ah g2 Ah hM).1 Ah
  | ne g1 g2=>exact (dY h2 Ah g2 hM).elim
  | @pi _ _ A2 B2 n2 P1' P2' g1 g2 g3 g4=>
   have hk:=(aT h2 Ah g2 Ah hM).2.2;obtain rfl:=i3 g3 (hk 0);have hP:∀H u q,P1 H u q->El T D P1 H u->P2 H u=P2' H u:=λH u q hu he=>i4 H u q hu he (g4 H u q hu he) ((hk 1).sb2 H)
   funext H v r
   unfold PiP;refine propext ⟨?_,?_⟩
   ·rintro ⟨p1,⟨m,X,Y,p2,p3⟩,p4⟩;exact ⟨p1,⟨m,X,Y,p2,λH' u q hu he=>by rw [<- hP _ u q hu he];exact p3 H' u q hu he⟩,p4⟩
   ·rintro ⟨p1,⟨m,X,Y,p2,p3⟩,p4⟩;exact ⟨p1,⟨m,X,Y,p2,λH' u q hu he=>by rw [hP _ u q hu he];exact p3 H' u q hu he⟩,p4⟩
  | sig g1 g2=>exact absurd (aT h2 Ah g2 Ah hM).1 Ah
  | idt g1 g2=>exact absurd (aT h2 Ah g2 Ah hM).1 Ah
 | @sig D A A1 B1 n P1 P2 h1 h2 h3 h4 i3 i4=>
  intro A' P' h' hM;cases h' with
  | uni g1 g2 g3=>exact absurd (aT h2 Ah g2 (.inl rfl) hM).1 Ah
  | nat g1 g2=>exact absurd (aT h2 Ah g2 Ah hM).1 Ah
  | ne g1 g2=>exact (dY h2 Ah g2 hM).elim
  | pi g1 g2=>exact absurd (aT h2 Ah g2 Ah hM).1 Ah
  | @sig _ _ A2 B2 n2 P1' P2' g1 g2 g3 g4=>
   have hk:=(aT h2 Ah g2 Ah hM).2.2;obtain rfl:=i3 g3 (hk 0);have hP:∀H u q,P1 H u q->El T D P1 H u->P2 H u=P2' H u:=λH u q hu he=>i4 H u q hu he (g4 H u q hu he) ((hk 1).sb2 H)
   funext H v r
   unfold SgP;refine propext ⟨?_,?_⟩
   ·rintro ⟨p1,⟨m,X,Y,p2,p3⟩,p4⟩;refine ⟨p1,⟨m,X,Y,p2,λH'=>?_⟩,p4⟩;obtain ⟨a1,a2,a3⟩:=p3 H';exact ⟨a1,a2,by rw [<- hP _ _ _ a1 a2];exact a3⟩
   ·rintro ⟨p1,⟨m,X,Y,p2,p3⟩,p4⟩;refine ⟨p1,⟨m,X,Y,p2,λH'=>?_⟩,p4⟩;obtain ⟨a1,a2,a3⟩:=p3 H';exact ⟨a1,a2,by rw [hP _ _ _ a1 a2];exact a3⟩
  | idt g1 g2=>exact absurd (aT h2 Ah g2 Ah hM).1 Ah
 | @idt D A A1 a b q1 q2 n P1 h1 h2 h3 h4 h5 h6 h7 i3=>
  intro A' P' h' hM;cases h' with
  | uni g1 g2 g3=>exact absurd (aT h2 Ah g2 (.inl rfl) hM).1 Ah
  | nat g1 g2=>exact absurd (aT h2 Ah g2 Ah hM).1 Ah
  | ne g1 g2=>exact (dY h2 Ah g2 hM).elim
  | pi g1 g2=>exact absurd (aT h2 Ah g2 Ah hM).1 Ah
  | sig g1 g2=>exact absurd (aT h2 Ah g2 Ah hM).1 Ah
  | @idt _ _ A2 a2 b2 _ _ n2 P1' g1 g2 g3 g4 g5 g6 g7=>
   have hk:=(aT h2 Ah g2 Ah hM).2.2;obtain rfl:=i3 g3 (hk 0);have ha:Mt a a2:=hk 1;have hb:Mt b b2:=hk 2;funext H v r;unfold IdP;refine propext ⟨?_,?_⟩
   ·rintro ⟨p1,⟨m,X,x,y,p2,p3,p4,p5⟩,p6⟩;refine ⟨p1,⟨m,X,x,y,p2,p3.trans (ha.up H),p4.trans (hb.up H),p5⟩,?_⟩;rcases p6 with p6|⟨n,c,p6,p7,p8⟩
    ·exact .inl p6
    ·exact .inr ⟨n,c,p6,p7.trans (ha.up H),p8.trans (hb.up H)⟩
   ·rintro ⟨p1,⟨m,X,x,y,p2,p3,p4,p5⟩,p6⟩;refine ⟨p1,⟨m,X,x,y,p2,p3.trans (ha.symm.up H),p4.trans (hb.symm.up H),p5⟩,?_⟩;rcases p6 with p6|⟨n,c,p6,p7,p8⟩
    ·exact .inl p6
    ·exact .inr ⟨n,c,p6,p7.trans (ha.symm.up H),p8.trans (hb.symm.up H)⟩
theorem LR.pi_inv {D:List Tm}{A A1 B1:Tm}{n:Int}{P:Pd}(h:LR T U i D A P)(hs:Hs A (.mk 3 n [A1,B1])):∃P1 P2,P=PiP T D P1 P2/\LR T U i D A1 P1/\∀H u q,P1 H u q->El T D P1 H u->LR T U i (D++H) (bT u 0 0 (up1 H B1)) (P2 H u):=by
 cases h with
 | uni h1 h2 h3=>exact absurd (aT h2 (.inl rfl) hs Ah (.refl _)).1 Ah
 | nat h1 h2=>exact absurd (aT h2 Ah hs Ah (.refl _)).1 Ah
 | ne h1 h2=>exact (dY hs Ah h2 (.refl _)).elim
 | pi h1 h2 h3 h4=>
  have:=h2.one_of hs Ah Ah;injection this with e1 e2 e3;injection e3 with e3 e4;injection e4 with e4 _;subst e3 e4;exact ⟨_,_,rfl,h3,h4⟩
 | sig h1 h2 h3 h4=>exact absurd (aT h2 Ah hs Ah (.refl _)).1 Ah
 | idt h1 h2 h3 h4 h5 h6 h7=>exact absurd (aT h2 Ah hs Ah (.refl _)).1 Ah
theorem LR.sig_inv {D:List Tm}{A A1 B1:Tm}{n:Int}{P:Pd}(h:LR T U i D A P)(hs:Hs A (.mk 13 n [A1,B1])):∃P1 P2,P=SgP T D P1 P2/\LR T U i D A1 P1/\∀H u q,P1 H u q->El T D P1 H u->LR T U i (D++H) (bT u 0 0 (up1 H B1)) (P2 H u):=by
 cases h with
 | uni h1 h2 h3=>exact absurd (aT h2 (.inl rfl) hs Ah (.refl _)).1 Ah
 | nat h1 h2=>exact absurd (aT h2 Ah hs Ah (.refl _)).1 Ah
 | ne h1 h2=>exact (dY hs Ah h2 (.refl _)).elim
 | pi h1 h2 h3 h4=>exact absurd (aT h2 Ah hs Ah (.refl _)).1 Ah
 | sig h1 h2 h3 h4=>
  have:=h2.one_of hs Ah Ah;injection this with e1 e2 e3;injection e3 with e3 e4;injection e4 with e4 _;subst e3 e4;exact ⟨_,_,rfl,h3,h4⟩
 | idt h1 h2 h3 h4 h5 h6 h7=>exact absurd (aT h2 Ah hs Ah (.refl _)).1 Ah
theorem LR.id_inv {D:List Tm}{A A1 a b:Tm}{n:Int}{P:Pd}(h:LR T U i D A P)(hs:Hs A (.mk 10 n [A1,a,b])):∃P1,P=IdP T D P1 a b/\LR T U i D A1 P1/\(∃q,P1 [] a q)/\El T D P1 [] a/\(∃q,P1 [] b q)/\El T D P1 [] b:=by
 cases h with
 | uni h1 h2 h3=>exact absurd (aT h2 (.inl rfl) hs Ah (.refl _)).1 Ah
 | nat h1 h2=>exact absurd (aT h2 Ah hs Ah (.refl _)).1 Ah
 | ne h1 h2=>exact (dY hs Ah h2 (.refl _)).elim
 | pi h1 h2 h3 h4=>exact absurd (aT h2 Ah hs Ah (.refl _)).1 Ah
 | sig h1 h2 h3 h4=>exact absurd (aT h2 Ah hs Ah (.refl _)).1 Ah
 | idt h1 h2 h3 h4 h5 h6 h7=>
  have:=h2.one_of hs Ah Ah;injection this with e1 e2 e3;injection e3 with e3 e4;injection e4 with e4 e5;injection e5 with e5 _;subst e3 e4 e5;exact ⟨_,rfl,h3,⟨_,h4⟩,h5,⟨_,h6⟩,h7⟩
theorem lE {D:List Tm}{A:Tm}{j:Int}{ks:List Tm}{P:Pd}(h:LR T U i D A P)(hs:Hs A (.mk 2 j ks)):∃j':Nat,j=(j':Int)/\j'<i/\P=UP T U D j':=by
 cases h with
 | @uni _ _ j' _ h1 h2 h3=>exact ⟨j',(aT hs (.inl rfl) h2 (.inl rfl) (.refl _)).2.1,h3,rfl⟩
 | nat h1 h2=>exact absurd (aT h2 Ah hs (.inl rfl) (.refl _)).1 Ah
 | ne h1 h2=>exact (dY hs (.inl rfl) h2 (.refl _)).elim
 | pi h1 h2 h3 h4=>exact absurd (aT h2 Ah hs (.inl rfl) (.refl _)).1 Ah
 | sig h1 h2 h3 h4=>exact absurd (aT h2 Ah hs (.inl rfl) (.refl _)).1 Ah
 | idt h1 h2 h3 h4 h5 h6 h7=>exact absurd (aT h2 Ah hs (.inl rfl) (.refl _)).1 Ah
end
structure TC (T:List Tm->Tm->Prop):Prop where
 node:∀(D:List Tm) (k n:Int) (ks:List Tm),binds k=false->k≠11->(∀i,i<ks.length->T D (aI ks i))->T D (.mk k n ks)
 rfx:∀(D:List Tm) (n:Int) (b:Tm),T D b->(∀s,ST (mX D) b s->T D s)->T D (.mk 11 n [b])
 bnd:∀(D:List Tm) (k n:Int) (A B:Tm),k=3\/k=13->T D A->T (D++[A]) B->T D (.mk k n [A,B])
 lam:∀(D:List Tm) (n:Int) (A b:Tm),T D A->T (D++[A]) b->(∀u,ST (mX (D++[A])) b u->T (D++[A]) u)->T D (.mk 4 n [A,b])
variable {T:List Tm->Tm->Prop}
theorem TK.node (hT:TC T){D:List Tm}{k n:Int}{ks:List Tm}(hb:binds k=false)(hk:k≠11)(h:∀i,i<ks.length->TK T D (aI ks i)):TK T D (.mk k n ks):=λH=>by
 rw [Go.Proofs.YtjlaenhcemacdaaGreat.up,bR];refine hT.node _ _ _ _ hb hk λi hi=>?_
 rw [cT] at hi;rw [jV hb];exact h i hi H
theorem tP (hT:TC T){D:List Tm}{k n:Int}(hb:binds k=false)(hk:k≠11):TK T D (.mk k n []):=TK.node hT hb hk λi hi=>absurd hi (Nat.not_lt_zero _)
theorem TK.ap (hT:TC T){D:List Tm}{a b:Tm}(ha:TK T D a)(hb:TK T D b):TK T D (eH a b):=TK.node hT (by rfl) Ah λi hi=>by
 have:i=0\/i=1:=by have:i<2:=hi;omega
 rcases this with rfl|rfl
 ·exact ha
 ·exact hb
theorem TK.one (hT:TC T){D:List Tm}{k n:Int}{a:Tm}(hb:binds k=false)(hk:k≠11)(ha:TK T D a):TK T D (.mk k n [a]):=TK.node hT hb hk λi hi=>by
 obtain rfl:i=0:=by have:i<1:=hi;omega
 exact ha
theorem TK.fs (hT:TC T){D:List Tm}{a:Tm}(ha:TK T D a):TK T D (fs a):=TK.one hT (by rfl) Ah ha
theorem vP (hT:TC T){D:List Tm}{a:Tm}(ha:TK T D a):TK T D (sn a):=TK.one hT (by rfl) Ah ha
theorem ST.ap_inv {p:Nat->Tm}{f u s:Tm}(h:ST p (eH f u) s):∃r m A B,ST p f r/\Hs r (.mk 3 m [A,B])/\s=bT u 0 0 B:=by
 generalize ht:eH f u=t at h;cases h with
 | app h1 h2=>injection ht with _ _ e;injection e with e1 e;injection e with e2 _;subst e1 e2;exact ⟨_,_,_,_,h1,h2,rfl⟩
 | bnd hk=>injection ht with e;subst e;rcases hk with hk|hk<;>cases hk
 | _=>injection ht with e;cases e
theorem ST.fs_inv {p:Nat->Tm}{q s:Tm}(h:ST p (fs q) s):∃r m A B,ST p q r/\Hs r (.mk 13 m [A,B])/\s=A:=by
 generalize ht:fs q=t at h;cases h with
 | fst h1 h2=>injection ht with _ _ e;injection e with e1 e;subst e1;exact ⟨_,_,_,_,h1,h2,rfl⟩
 | bnd hk=>injection ht with e;subst e;rcases hk with hk|hk<;>cases hk
 | _=>injection ht with e;cases e
theorem ST.sn_inv {p:Nat->Tm}{q s:Tm}(h:ST p (sn q) s):∃r m A B,ST p q r/\Hs r (.mk 13 m [A,B])/\s=bT (fs q) 0 0 B:=by
 generalize ht:sn q=t at h;cases h with
 | snd h1 h2=>injection ht with _ _ e;injection e with e1 e;subst e1;exact ⟨_,_,_,_,h1,h2,rfl⟩
 | bnd hk=>injection ht with e;subst e;rcases hk with hk|hk<;>cases hk
 | _=>injection ht with e;cases e
section
variable {U:Nat->List Tm->Tm->Prop}{i:Nat}
theorem rJ (P:Pd)(H:List Tm)(v r:Tm):(λH'=>P (H++H')) [] v r↔P H v r:=by show P (H++[]) v r↔_;rw [List.append_nil]
theorem zW (D:List Tm)(P:Pd)(H:List Tm)(v:Tm):El T (D++H) (λH'=>P (H++H')) [] v↔El T D P H v:=by rw [fD,List.append_nil]
theorem LR.ann (hU:∀j D v H,U j D v->U j (D++H) (up H v)){D:List Tm}{A:Tm}{P:Pd}(h:LR T U i D A P):∀{H:List Tm} {A':Tm} {P':Pd},LR T U i (D++H) A' P'->Mt (up H A) A'->∀{v r:Tm},P H v r->P H v A':=by
 induction h with
 | @uni D A j ks h1 h2 h3=>
  intro H A' P' h' hM v r hp;have h2':=gD Ah (by rfl) H h2;cases h' with
  | uni g1 g2 g3=>
   have e:=(aT h2' (.inl rfl) g2 (.inl rfl) hM).2.1;rw [<- e] at g2;exact ⟨g1,⟨_,g2⟩,hp.2.2⟩
  | nat g1 g2=>exact absurd (aT h2' (.inl rfl) g2 Ah hM).1 Ah
  | ne g1 g2=>exact (dY h2' (.inl rfl) g2 hM).elim
  | pi g1 g2=>exact absurd (aT h2' (.inl rfl) g2 Ah hM).1 Ah
  | sig g1 g2=>exact absurd (aT h2' (.inl rfl) g2 Ah hM).1 Ah
  | idt g1 g2=>exact absurd (aT h2' (.inl rfl) g2 Ah hM).1 Ah
 | nat h1 h2=>
  intro H A' P' h' hM v r hp;have h2':=gD Ah (by rfl) H h2;cases h' with
  | uni g1 g2 g3=>exact absurd (aT h2' Ah g2 (.inl rfl) hM).1 Ah
  | nat g1 g2=>exact ⟨g1,⟨_,_,g2⟩,hp.2.2⟩
  | ne g1 g2=>exact (dY h2' Ah g2 hM).elim
  | pi g1 g2=>exact absurd (aT h2' Ah g2 Ah hM).1 Ah
  | sig g1 g2=>exact absurd (aT h2' Ah g2 Ah hM).1 Ah
  | idt g1 g2=>exact absurd (aT h2' Ah g2 Ah hM).1 Ah
 | ne h1 h2=>
  intro H A' P' h' hM v r hp;have h2':=mS h2 H;cases h' with
  | uni g1 g2 g3=>exact (dY g2 (.inl rfl) h2' hM.symm).elim
  | nat g1 g2=>exact (dY g2 Ah h2' hM.symm).elim
  | ne g1 g2=>exact ⟨g1,g2,hp.2.2⟩
  | pi g1 g2=>exact (dY g2 Ah h2' hM.symm).elim
  | sig g1 g2=>exact (dY g2 Ah h2' hM.symm).elim
  | idt g1 g2=>exact (dY g2 Ah h2' hM.symm).elim
 | @pi D A A1 B1 n P1 P2 h1 h2 h3 h4 i3 i4=>
  intro H A' P' h' hM v r hp;have h2':=gZ (.inl rfl) H h2;cases h' with
  | uni g1 g2 g3=>exact absurd (aT h2' Ah g2 (.inl rfl) hM).1 Ah
  | nat g1 g2=>exact absurd (aT h2' Ah g2 Ah hM).1 Ah
  | ne g1 g2=>exact (dY h2' Ah g2 hM).elim
  | @pi _ _ A2 B2 n2 P1' P2' g1 g2 g3 g4=>
   have hk:=(aT h2' Ah g2 Ah hM).2.2;have e1:=(h3.mono hU H).irr g3 (hk 0);obtain ⟨p1,⟨m,X,Y,p2,p3⟩,p4⟩:=hp;refine ⟨g1,⟨_,_,_,g2,λH' u q hu he=>?_⟩,p4⟩;have g5:=g4 H' u q (by rw [<- e1];exact hu) (by rw [<- e1,fD];exact he);rw [List.append_assoc] at g5;rw [<- List.append_nil (D++(H++H'))] at g5;have hB:Mt (up [] (bT u 0 0 (up1 (H++H') B1))) (bT u 0 0 (up1 H' B2)):=by
    rw [fF,<- mK];exact Mt.sb2 (hk 1) H'
   exact i4 (H++H') u q hu he g5 hB (p3 H' u q hu he)
  | sig g1 g2=>exact absurd (aT h2' Ah g2 Ah hM).1 Ah
  | idt g1 g2=>exact absurd (aT h2' Ah g2 Ah hM).1 Ah
 | @sig D A A1 B1 n P1 P2 h1 h2 h3 h4 i3 i4=>
  intro H A' P' h' hM v r hp;have h2':=gZ (.inr (.inr rfl)) H h2;cases h' with
  | uni g1 g2 g3=>exact absurd (aT h2' Ah g2 (.inl rfl) hM).1 Ah
  | nat g1 g2=>exact absurd (aT h2' Ah g2 Ah hM).1 Ah
  | ne g1 g2=>exact (dY h2' Ah g2 hM).elim
  | pi g1 g2=>exact absurd (aT h2' Ah g2 Ah hM).1 Ah
  | @sig _ _ A2 B2 n2 P1' P2' g1 g2 g3 g4=>
   have hk:=(aT h2' Ah g2 Ah hM).2.2;have e1:=(h3.mono hU H).irr g3 (hk 0);obtain ⟨p1,⟨m,X,Y,p2,p3⟩,p4⟩:=hp;refine ⟨g1,⟨_,_,_,g2,λH'=>?_⟩,p4⟩;obtain ⟨a1,a2,a3⟩:=p3 H';refine ⟨?_,a2,λw q hw hew hmw=>?_⟩
   ·have g6:=g3.mono hU H';rw [List.append_assoc] at g6;exact i3 g6 (by rw [<- lL];exact (show Mt (up H A1) A2 from hk 0).up H') a1
   ·have g5:=g4 H' w q (by rw [<- e1];exact hw) (by rw [<- e1,fD];exact hew);rw [List.append_assoc] at g5;rw [<- List.append_nil (D++(H++H'))] at g5;have hB:Mt (up [] (bT (Go.Proofs.YtjlaenhcemacdaaGreat.fs (up H' v)) 0 0 (up1 (H++H') B1))) (bT w 0 0 (up1 H' B2)):=by
     rw [fF,<- mK];exact ((hmw.symm).sbu _).trans (Mt.sb2 (hk 1) H')
    exact i4 (H++H') _ _ a1 a2 g5 hB (a3 w q hw hew hmw)
  | idt g1 g2=>exact absurd (aT h2' Ah g2 Ah hM).1 Ah
 | @idt D A A1 a b q1 q2 n P1 h1 h2 h3 h4 h5 h6 h7 i3=>
  intro H A' P' h' hM v r hp;have h2':=gD Ah (by rfl) H h2;cases h' with
  | uni g1 g2 g3=>exact absurd (aT h2' Ah g2 (.inl rfl) hM).1 Ah
  | nat g1 g2=>exact absurd (aT h2' Ah g2 Ah hM).1 Ah
  | ne g1 g2=>exact (dY h2' Ah g2 hM).elim
  | pi g1 g2=>exact absurd (aT h2' Ah g2 Ah hM).1 Ah
  | sig g1 g2=>exact absurd (aT h2' Ah g2 Ah hM).1 Ah
  | @idt _ _ A2 a2 b2 y1 y2 n2 P1' g1 g2 g3 g4 g5 g6 g7=>
   have hk:=(aT h2' Ah g2 Ah hM).2.2;have e1:=(h3.mono hU H).irr g3 (hk 0);refine ⟨g1,⟨_,_,_,_,g2,(hk 1).symm,(hk 2).symm,λH'=>?_⟩,hp.2.2⟩;have g8:=g3.pmono hU H' g6;have g9:=g3.emono hU H' g7;rw [<- e1] at g8 g9;rw [fD] at g9;exact ⟨⟨_,g8⟩,g9⟩
def RE (T:List Tm->Tm->Prop)(U:Nat->List Tm->Tm->Prop)(i:Nat)(D:List Tm)(A v:Tm):Prop:=NeR v/\TK T D v/\∀s,ST (mX D) v s->(∃P,LR T U i D s P)/\Mt s A
theorem RE.up (hU:∀j D v H,U j D v->U j (D++H) (up H v)){D:List Tm}{A v:Tm}(h:RE T U i D A v)(H:List Tm):RE T U i (D++H) (Go.Proofs.YtjlaenhcemacdaaGreat.up H A) (Go.Proofs.YtjlaenhcemacdaaGreat.up H v):=by
 refine ⟨mS h.1 H,h.2.1.up,λs hs=>?_⟩;obtain ⟨s0,rfl,h1⟩:=hs.up_inv;obtain ⟨⟨P,h2⟩,h3⟩:=h.2.2 s0 h1;exact ⟨⟨_,h2.mono hU H⟩,h3.up H⟩
theorem LR.ref (hT:TC T)(hU:∀j D v H,U j D v->U j (D++H) (up H v))(hUn:∀j D v,j<i->NeR v->TK T D v->U j D v){D:List Tm}{A:Tm}{P:Pd}(h:LR T U i D A P):∀{H:List Tm} {A':Tm} {P':Pd},LR T U i (D++H) A' P'->Mt (up H A) A'->∀{v:Tm},RE T U i (D++H) (up H A) v->P H v A':=by
 induction h with
 | @uni D A j ks h1 h2 h3=>
  intro H A' P' h' hM v hv;have h2':=gD Ah (by rfl) H h2;cases h' with
  | uni g1 g2 g3=>
   have e:=(aT h2' (.inl rfl) g2 (.inl rfl) hM).2.1;rw [<- e] at g2;exact ⟨g1,⟨_,g2⟩,hUn _ _ _ h3 hv.1 hv.2.1⟩
  | nat g1 g2=>exact absurd (aT h2' (.inl rfl) g2 Ah hM).1 Ah
  | ne g1 g2=>exact (dY h2' (.inl rfl) g2 hM).elim
  | pi g1 g2=>exact absurd (aT h2' (.inl rfl) g2 Ah hM).1 Ah
  | sig g1 g2=>exact absurd (aT h2' (.inl rfl) g2 Ah hM).1 Ah
  | idt g1 g2=>exact absurd (aT h2' (.inl rfl) g2 Ah hM).1 Ah
 | nat h1 h2=>
  intro H A' P' h' hM v hv;have h2':=gD Ah (by rfl) H h2;cases h' with
  | uni g1 g2 g3=>exact absurd (aT h2' Ah g2 (.inl rfl) hM).1 Ah
  | nat g1 g2=>exact ⟨g1,⟨_,_,g2⟩,.ne hv.1⟩
  | ne g1 g2=>exact (dY h2' Ah g2 hM).elim
  | pi g1 g2=>exact absurd (aT h2' Ah g2 Ah hM).1 Ah
  | sig g1 g2=>exact absurd (aT h2' Ah g2 Ah hM).1 Ah
  | idt g1 g2=>exact absurd (aT h2' Ah g2 Ah hM).1 Ah
 | ne h1 h2=>
  intro H A' P' h' hM v hv;have h2':=mS h2 H;cases h' with
  | uni g1 g2 g3=>exact (dY g2 (.inl rfl) h2' hM.symm).elim
  | nat g1 g2=>exact (dY g2 Ah h2' hM.symm).elim
  | ne g1 g2=>exact ⟨g1,g2,hv.1⟩
  | pi g1 g2=>exact (dY g2 Ah h2' hM.symm).elim
  | sig g1 g2=>exact (dY g2 Ah h2' hM.symm).elim
  | idt g1 g2=>exact (dY g2 Ah h2' hM.symm).elim
 | @pi D A A1 B1 n P1 P2 h1 h2 h3 h4 i3 i4=>
  intro H A' P' h' hM v hv;have h2':=gZ (.inl rfl) H h2;cases h' with
  | uni g1 g2 g3=>exact absurd (aT h2' Ah g2 (.inl rfl) hM).1 Ah
  | nat g1 g2=>exact absurd (aT h2' Ah g2 Ah hM).1 Ah
  | ne g1 g2=>exact (dY h2' Ah g2 hM).elim
  | @pi _ _ A2 B2 n2 P1' P2' g1 g2 g3 g4=>
   have hk:=(aT h2' Ah g2 Ah hM).2.2;have e1:=(h3.mono hU H).irr g3 (hk 0);refine ⟨g1,⟨_,_,_,g2,λH' u q hu he=>?_⟩,.inl hv.1⟩;have g5:=g4 H' u q (by rw [<- e1];exact hu) (by rw [<- e1,fD];exact he);rw [List.append_assoc] at g5;rw [<- List.append_nil (D++(H++H'))] at g5;have hB:Mt (up [] (bT u 0 0 (up1 (H++H') B1))) (bT u 0 0 (up1 H' B2)):=by
    rw [fF,<- mK];exact Mt.sb2 (hk 1) H'
   refine i4 (H++H') u q hu he g5 hB ?_;have hv':=hv.up hU H';rw [List.append_assoc] at hv';rw [List.append_nil,fF];refine ⟨aUb hv'.1 u,TK.ap hT hv'.2.1 he.1,λs hs=>?_⟩;obtain ⟨s0,m,X,Y,hs1,hs2,rfl⟩:=hs.ap_inv;obtain ⟨⟨Q,q1⟩,q2⟩:=hv'.2.2 s0 hs1;obtain ⟨Q1,Q2,rfl,q3,q4⟩:=q1.pi_inv hs2;have hk2:=(aT (gZ (.inl rfl) (H++H') h2) Ah hs2 Ah (by rw [<- lL];exact q2.symm)).2.2;have h3':=h3.mono hU (H++H');have e2:=h3'.irr q3 (hk2 0);have q5:=q4 [] u q (by rw [<- e2,rJ];exact hu) (by rw [<- e2,zW];exact he);rw [List.append_nil,kD] at q5;exact ⟨⟨_,q5⟩,(Mt.sb (hk2 1) u).symm⟩
  | sig g1 g2=>exact absurd (aT h2' Ah g2 Ah hM).1 Ah
  | idt g1 g2=>exact absurd (aT h2' Ah g2 Ah hM).1 Ah
 | @sig D A A1 B1 n P1 P2 h1 h2 h3 h4 i3 i4=>
  intro H A' P' h' hM v hv;have h2':=gZ (.inr (.inr rfl)) H h2;cases h' with
  | uni g1 g2 g3=>exact absurd (aT h2' Ah g2 (.inl rfl) hM).1 Ah
  | nat g1 g2=>exact absurd (aT h2' Ah g2 Ah hM).1 Ah
  | ne g1 g2=>exact (dY h2' Ah g2 hM).elim
  | pi g1 g2=>exact absurd (aT h2' Ah g2 Ah hM).1 Ah
  | @sig _ _ A2 B2 n2 P1' P2' g1 g2 g3 g4=>
   have hk:=(aT h2' Ah g2 Ah hM).2.2;have e1:=(h3.mono hU H).irr g3 (hk 0);refine ⟨g1,⟨_,_,_,g2,λH'=>?_⟩,.inl hv.1⟩;have hv':=hv.up hU H';rw [List.append_assoc] at hv';have h3':=h3.mono hU (H++H');have rf:RE T U i (D++(H++H')) (up (H++H') A1) (Go.Proofs.YtjlaenhcemacdaaGreat.fs (up H' v)):=by
    refine ⟨aUm hv'.1,TK.fs hT hv'.2.1,λs hs=>?_⟩;obtain ⟨s0,m,X,Y,hs1,hs2,rfl⟩:=hs.fs_inv;obtain ⟨⟨Q,q1⟩,q2⟩:=hv'.2.2 s0 hs1;obtain ⟨Q1,Q2,rfl,q3,q4⟩:=q1.sig_inv hs2;have hk2:=(aT (gZ (.inr (.inr rfl)) (H++H') h2) Ah hs2 Ah (by rw [<- lL];exact q2.symm)).2.2;exact ⟨⟨_,q3⟩,(hk2 0).symm⟩
   have a1:∀{s:Tm} {Q:Pd},LR T U i (D++(H++H')) s Q->Mt (up (H++H') A1) s->P1 (H++H') (Go.Proofs.YtjlaenhcemacdaaGreat.fs (up H' v)) s:=λhs hm=>i3 hs hm rf
   have a2:El T D P1 (H++H') (Go.Proofs.YtjlaenhcemacdaaGreat.fs (up H' v)):=⟨rf.2.1,λs hs=>by
    obtain ⟨⟨Q,q1⟩,q2⟩:=rf.2.2 s hs;exact a1 q1 q2.symm⟩
   have g6:=g3.mono hU H';rw [List.append_assoc] at g6;have a0:=a1 g6 (by rw [<- lL];exact (show Mt (up H A1) A2 from hk 0).up H');refine ⟨a0,a2,λw q hw hew hmw=>?_⟩;have g5:=g4 H' w q (by rw [<- e1];exact hw) (by rw [<- e1,fD];exact hew);rw [List.append_assoc] at g5;rw [<- List.append_nil (D++(H++H'))] at g5;have hB:Mt (up [] (bT (Go.Proofs.YtjlaenhcemacdaaGreat.fs (up H' v)) 0 0 (up1 (H++H') B1))) (bT w 0 0 (up1 H' B2)):=by
    rw [fF,<- mK];exact ((hmw.symm).sbu _).trans (Mt.sb2 (hk 1) H')
   refine i4 (H++H') _ _ a0 a2 g5 hB ?_;rw [List.append_nil,fF];refine ⟨aUw hv'.1,vP hT hv'.2.1,λs hs=>?_⟩;obtain ⟨s0,m,X,Y,hs1,hs2,rfl⟩:=hs.sn_inv;obtain ⟨⟨Q,q1⟩,q2⟩:=hv'.2.2 s0 hs1;obtain ⟨Q1,Q2,rfl,q3,q4⟩:=q1.sig_inv hs2;have hk2:=(aT (gZ (.inr (.inr rfl)) (H++H') h2) Ah hs2 Ah (by rw [<- lL];exact q2.symm)).2.2;have e2:=h3'.irr q3 (hk2 0);have q5:=q4 [] _ _ (by rw [<- e2,rJ];exact a0) (by rw [<- e2,zW];exact a2);rw [List.append_nil,kD] at q5;exact ⟨⟨_,q5⟩,(Mt.sb (hk2 1) _).symm⟩
  | idt g1 g2=>exact absurd (aT h2' Ah g2 Ah hM).1 Ah
 | @idt D A A1 a b q1 q2 n P1 h1 h2 h3 h4 h5 h6 h7 i3=>
  intro H A' P' h' hM v hv;have h2':=gD Ah (by rfl) H h2;cases h' with
  | uni g1 g2 g3=>exact absurd (aT h2' Ah g2 (.inl rfl) hM).1 Ah
  | nat g1 g2=>exact absurd (aT h2' Ah g2 Ah hM).1 Ah
  | ne g1 g2=>exact (dY h2' Ah g2 hM).elim
  | pi g1 g2=>exact absurd (aT h2' Ah g2 Ah hM).1 Ah
  | sig g1 g2=>exact absurd (aT h2' Ah g2 Ah hM).1 Ah
  | @idt _ _ A2 a2 b2 y1 y2 n2 P1' g1 g2 g3 g4 g5 g6 g7=>
   have hk:=(aT h2' Ah g2 Ah hM).2.2;have e1:=(h3.mono hU H).irr g3 (hk 0);refine ⟨g1,⟨_,_,_,_,g2,(hk 1).symm,(hk 2).symm,λH'=>?_⟩,.inl hv.1⟩;have g8:=g3.pmono hU H' g6;have g9:=g3.emono hU H' g7;rw [<- e1] at g8 g9;rw [fD] at g9;exact ⟨⟨_,g8⟩,g9⟩
theorem NeR.heads {v v':Tm}(h:NeR v')(hs:Hs v v'):NeR v:=by obtain ⟨x,h1,h2⟩:=h;exact ⟨x,hs.trans h1,h2⟩
theorem Nt.head {D:List Tm}{v v':Tm}(h:Nt T D v')(hs:Hs v v'):Nt T D v:=by
 cases h with
 | zer h=>exact .zer (hs.trans h)
 | suc h1 h2 h3 h4=>exact .suc (hs.trans h1) h2 h3 h4
 | ne h=>obtain ⟨u,h1,h2⟩:=h;exact .ne ⟨u,hs.trans h1,h2⟩
theorem LR.hed (hT:TC T)(hU:∀j D v H,U j D v->U j (D++H) (up H v))(hUh:∀j D v v',Hs v v'->TK T D v->U j D v'->U j D v){D:List Tm}{A:Tm}{P:Pd}(h:LR T U i D A P):∀{H:List Tm} {v v':Tm},Hs v v'->TK T (D++H) v->(∀s,ST (mX (D++H)) v s->P H v' s)->∀{r:Tm},P H v' r->P H v r:=by
 induction h with
 | uni h1 h2 h3=>exact λhs ht hr r hp=>⟨hp.1,hp.2.1,hUh _ _ _ _ hs ht hp.2.2⟩
 | nat h1 h2=>exact λhs ht hr r hp=>⟨hp.1,hp.2.1,hp.2.2.head hs⟩
 | ne h1 h2=>exact λhs ht hr r hp=>⟨hp.1,hp.2.1,hp.2.2.heads hs⟩
 | @pi D A A1 B1 n P1 P2 h1 h2 h3 h4 i3 i4=>
  intro H v v' hs ht hr r hp;obtain ⟨p1,⟨m,X,Y,p2,p3⟩,p4⟩:=hp;refine ⟨p1,⟨m,X,Y,p2,λH' u q hu he=>?_⟩,?_⟩
  ·have ht':=ht.up (H:=H');rw [List.append_assoc] at ht';refine i4 (H++H') u q hu he (aTa (aAm H' hs) u) ?_ (λs hss=>?_) (p3 H' u q hu he)
   ·rw [List.append_nil];exact TK.ap hT ht' he.1
   ·rw [List.append_nil] at hss;obtain ⟨s0,m',X',Y',hs1,hs2,rfl⟩:=hss.ap_inv;rw [<- List.append_assoc] at hs1;obtain ⟨s1,rfl,hs3⟩:=hs1.up_inv;obtain ⟨_,⟨m2,X2,Y2,c2,c3⟩,_⟩:=hr s1 hs3;have:=(gZ (.inl rfl) H' c2).one_of hs2 Ah Ah;injection this with _ _ e;injection e with _ e;injection e with e _;subst e;exact c3 H' u q hu he
  ·rcases p4 with p4|⟨n,ks,p4⟩
   ·obtain ⟨x,h1,h2⟩:=p4;exact .inl ⟨x,hs.trans h1,h2⟩
   ·exact .inr ⟨n,ks,.trans hs p4⟩
 | @sig D A A1 B1 n P1 P2 h1 h2 h3 h4 i3 i4=>
  intro H v v' hs ht hr r hp;obtain ⟨p1,⟨m,X,Y,p2,p3⟩,p4⟩:=hp;refine ⟨p1,⟨m,X,Y,p2,λH'=>?_⟩,?_⟩
  ·have ht':=ht.up (H:=H');rw [List.append_assoc] at ht';obtain ⟨a1,a2,a3⟩:=p3 H';have hf:=aTd (aAm H' hs);have hrf:∀s,ST (mX (D++(H++H'))) (Go.Proofs.YtjlaenhcemacdaaGreat.fs (up H' v)) s->P1 (H++H') (Go.Proofs.YtjlaenhcemacdaaGreat.fs (up H' v')) s:=λs hss=>by
    obtain ⟨s0,m',X',Y',hs1,hs2,rfl⟩:=hss.fs_inv;rw [<- List.append_assoc] at hs1;obtain ⟨s1,rfl,hs3⟩:=hs1.up_inv;obtain ⟨_,⟨m2,X2,Y2,c2,c3⟩,_⟩:=hr s1 hs3;have:=(gZ (.inr (.inr rfl)) H' c2).one_of hs2 Ah Ah;injection this with _ _ e;injection e with e _;subst e;exact (c3 H').1
   have htf:=TK.fs hT ht';have b1:∀{s:Tm},P1 (H++H') (Go.Proofs.YtjlaenhcemacdaaGreat.fs (up H' v')) s->P1 (H++H') (Go.Proofs.YtjlaenhcemacdaaGreat.fs (up H' v)) s:=λhp=>i3 hf htf hrf hp
   have b2:El T D P1 (H++H') (Go.Proofs.YtjlaenhcemacdaaGreat.fs (up H' v)):=⟨htf,λs hss=>b1 (hrf s hss)⟩;have hmf:Mt (Go.Proofs.YtjlaenhcemacdaaGreat.fs (up H' v)) (Go.Proofs.YtjlaenhcemacdaaGreat.fs (up H' v')):=hf.ps.mt;have e2:P2 (H++H') (Go.Proofs.YtjlaenhcemacdaaGreat.fs (up H' v))=P2 (H++H') (Go.Proofs.YtjlaenhcemacdaaGreat.fs (up H' v')):=(h4 _ _ _ (b1 a1) b2).irr (h4 _ _ _ a1 a2) (hmf.sbu _);refine ⟨b1 a1,b2,λw q hw hew hmw=>?_⟩;refine i4 (H++H') _ _ (b1 a1) b2 (aSw (aAm H' hs)) ?_ (λs hss=>?_) (by rw [e2];exact a3 w q hw hew (hmw.trans hmf))
   ·rw [List.append_nil];exact vP hT ht'
   ·rw [List.append_nil] at hss;obtain ⟨s0,m',X',Y',hs1,hs2,rfl⟩:=hss.sn_inv;rw [<- List.append_assoc] at hs1;obtain ⟨s1,rfl,hs3⟩:=hs1.up_inv;obtain ⟨_,⟨m2,X2,Y2,c2,c3⟩,_⟩:=hr s1 hs3;have:=(gZ (.inr (.inr rfl)) H' c2).one_of hs2 Ah Ah;injection this with _ _ e;injection e with _ e;injection e with e _;subst e;rw [e2];exact (c3 H').2.2 _ _ (b1 a1) b2 hmf
  ·rcases p4 with p4|⟨n,ks,p4⟩
   ·obtain ⟨x,h1,h2⟩:=p4;exact .inl ⟨x,hs.trans h1,h2⟩
   ·exact .inr ⟨n,ks,.trans hs p4⟩
 | idt h1 h2 h3 h4 h5 h6 h7 i3=>
  intro H v v' hs ht hr r hp;obtain ⟨p1,p2,p6⟩:=hp;refine ⟨p1,p2,?_⟩;rcases p6 with p6|⟨n,c,p6,p7⟩
  ·obtain ⟨x,h1,h2⟩:=p6;exact .inl ⟨x,hs.trans h1,h2⟩
  ·exact .inr ⟨n,c,.trans hs p6,p7⟩
end
theorem LR.exps {T:List Tm->Tm->Prop}{U:Nat->List Tm->Tm->Prop}{i:Nat}{D:List Tm}{A A':Tm}{P:Pd}(h:LR T U i D A' P)(hs:Hs A A')(ht:TK T D A):LR T U i D A P:=by
 cases h with
 | uni h1 h2 h3=>exact .uni ht (hs.trans h2) h3
 | nat h1 h2=>exact .nat ht (hs.trans h2)
 | ne h1 h2=>obtain ⟨u,h3,h4⟩:=h2;exact .ne ht ⟨u,hs.trans h3,h4⟩
 | pi h1 h2 h3 h4=>exact .pi ht (hs.trans h2) h3 h4
 | sig h1 h2 h3 h4=>exact .sig ht (hs.trans h2) h3 h4
 | idt h1 h2 h3 h4 h5 h6 h7=>exact .idt ht (hs.trans h2) h3 h4 h5 h6 h7
def UU (T:List Tm->Tm->Prop):Nat->Nat->List Tm->Tm->Prop
 | 0=>λ_ _ _=>False
 | i+1=>λj D v=>if j=i then ∃P,LR T (UU T i) i D v P else UU T i j D v
variable {T:List Tm->Tm->Prop}
theorem zU:∀{i j:Nat} {D:List Tm} {v:Tm},j<i->(UU T i j D v↔∃P,LR T (UU T j) j D v P)
 | i+1,j,D,v,h=>by
  show (if j=i then ∃P,LR T (UU T i) i D v P else UU T i j D v)↔_;by_cases hj:j=i
  ·rw [Av hj,hj]
  ·rw [Aw hj];exact zU Ac
theorem uX:∀(i j:Nat) (D:List Tm) (v:Tm) (H:List Tm),UU T i j D v->UU T i j (D++H) (up H v)
 | i+1,j,D,v,H,h=>by
  show (if j=i then ∃P,LR T (UU T i) i (D++H) (up H v) P else UU T i j (D++H) (up H v));change (if j=i then ∃P,LR T (UU T i) i D v P else UU T i j D v) at h;by_cases hj:j=i
  ·rw [Av hj] at h⊢;obtain ⟨P,h⟩:=h;exact ⟨_,h.mono (uX i) H⟩
  ·rw [Aw hj] at h⊢;exact uX i j D v H h
theorem aXf (i j:Nat)(D:List Tm)(v:Tm)(hj:j<i)(hn:NeR v)(ht:TK T D v):UU T i j D v:=(zU hj).2 ⟨_,.ne ht hn⟩
theorem aTr:∀(i j:Nat) (D:List Tm) (v v':Tm),Hs v v'->TK T D v->UU T i j D v'->UU T i j D v
 | i+1,j,D,v,v',hs,ht,h=>by
  show (if j=i then ∃P,LR T (UU T i) i D v P else UU T i j D v);change (if j=i then ∃P,LR T (UU T i) i D v' P else UU T i j D v') at h;by_cases hj:j=i
  ·rw [Av hj] at h⊢;obtain ⟨P,h⟩:=h;exact ⟨_,h.exps hs ht⟩
  ·rw [Aw hj] at h⊢;exact aTr i j D v v' hs ht h
theorem LR.lift {i m:Nat}(hm:i<=m){D:List Tm}{A:Tm}{P:Pd}(h:LR T (UU T i) i D A P):LR T (UU T m) m D A P:=by
 induction h with
 | @uni D A j ks h1 h2 h3=>
  have e:UP T (UU T i) D j=UP T (UU T m) D j:=by
   funext H v r
   unfold UP;rw [propext (zU (T:=T) (D:=D++H) (v:=v) h3),propext (zU (T:=T) (i:=m) (D:=D++H) (v:=v) Ac)]
  rw [e];exact .uni h1 h2 Ac
 | nat h1 h2=>exact .nat h1 h2
 | ne h1 h2=>exact .ne h1 h2
 | pi h1 h2 h3 h4 i3 i4=>exact .pi h1 h2 i3 λH u q hu he=>i4 H u q hu he
 | sig h1 h2 h3 h4 i3 i4=>exact .sig h1 h2 i3 λH u q hu he=>i4 H u q hu he
 | idt h1 h2 h3 h4 h5 h6 h7 i3=>exact .idt h1 h2 i3 h4 h5 h6 h7
abbrev RT (T:List Tm->Tm->Prop)(D:List Tm)(A:Tm)(P:Pd):Prop:=LR T (UU T 4) 4 D A P
theorem RT.pmono {D:List Tm}{A:Tm}{P:Pd}(h:RT T D A P){H:List Tm}(H':List Tm){v r:Tm}(hp:P H v r):P (H++H') (up H' v) (up H' r):=LR.pmono (uX 4) h H' hp
theorem RT.emono {D:List Tm}{A:Tm}{P:Pd}(h:RT T D A P){H:List Tm}(H':List Tm){v:Tm}(hp:El T D P H v):El T D P (H++H') (up H' v):=LR.emono (uX 4) h H' hp
theorem RT.mono {D:List Tm}{A:Tm}{P:Pd}(h:RT T D A P)(H:List Tm):RT T (D++H) (up H A) (λH'=>P (H++H')):=LR.mono (uX 4) h H
theorem RT.ann {D:List Tm}{A A':Tm}{P P':Pd}(h:RT T D A P)(h':RT T D A' P')(hM:Mt A A'){v r:Tm}(hp:P [] v r):P [] v A':=LR.ann (uX 4) h (H:=[]) (P':=P') (by rw [List.append_nil];exact h') (by rw [fF];exact hM) hp
theorem RT.ref (hT:TC T){D:List Tm}{A A' v:Tm}{P P':Pd}(h:RT T D A P)(h':RT T D A' P')(hM:Mt A A')(hv:RE T (UU T 4) 4 D A v):P [] v A':=LR.ref hT (uX 4) (aXf 4) h (H:=[]) (P':=P') (by rw [List.append_nil];exact h') (by rw [fF];exact hM) (by rw [List.append_nil,fF];exact hv)
theorem RT.hed (hT:TC T){D:List Tm}{A v v' r:Tm}{P:Pd}(h:RT T D A P)(hs:Hs v v')(ht:TK T D v)(hr:∀s,ST (mX D) v s->P [] v' s)(hp:P [] v' r):P [] v r:=LR.hed hT (uX 4) (aTr 4) h (H:=[]) hs (by rw [List.append_nil];exact ht) (by rw [List.append_nil];exact hr) hp
theorem RT.ty {D:List Tm}{A:Tm}{j:Int}{ks:List Tm}{P:Pd}{v r:Tm}(h:RT T D A P)(hs:Hs A (.mk 2 j ks))(hp:P [] v r):∃l:Nat,j=(l:Int)/\l<4/\∃Q,LR T (UU T l) l D v Q:=by
 obtain ⟨l,h1,h2,rfl⟩:=lE h hs;have:=(zU h2).1 hp.2.2;rw [List.append_nil] at this;exact ⟨l,h1,h2,this⟩
inductive SS (T:List Tm->Tm->Prop) (D:List Tm):List Tm->(Nat->Tm)->(Nat->Tm)->Prop
 | nil {s p:Nat->Tm}:SS T D [] s p
 | snoc {G:List Tm} {A:Tm} {s p:Nat->Tm} {P:Pd}:SS T D G (λn=>s (n+1)) (λn=>p (n+1))->RT T D (ins (λn=>s (n+1)) A) P->P [] (s 0) (p 0)->El T D P [] (s 0)->cX A=true->SS T D (G++[A]) s p
theorem SS.push {D G:List Tm}{A v q:Tm}{s p:Nat->Tm}{P:Pd}(h:SS T D G s p)(hA:RT T D (ins s A) P)(hp:P [] v q)(he:El T D P [] v)(hw:cX A=true):SS T D (G++[A]) (sO v s) (sO q p):=.snoc h hA hp he hw
theorem gR (H:List Tm)(s:Nat->Tm){t:Tm}(hw:cX t=true):up H (ins s t)=ins (λn=>up H (s n)) t:=(aGp (H.length:Int) Ac).1 t s 0 hw Ah
theorem SS.up {D G:List Tm}{s p:Nat->Tm}(h:SS T D G s p)(H:List Tm):SS T (D++H) G (λn=>Go.Proofs.YtjlaenhcemacdaaGreat.up H (s n)) (λn=>Go.Proofs.YtjlaenhcemacdaaGreat.up H (p n)):=by
 induction h with
 | nil=>exact .nil
 | @snoc G A s p P h1 h2 h3 h4 h5 ih=>
  have h6:=h2.mono H;rw [gR H _ h5] at h6;refine .snoc ih h6 ?_ ?_ h5
  ·have:=h2.pmono H h3;show P (H++[]) _ _;rw [List.append_nil];exact this
  ·have:=h2.emono H h4;rw [zW];exact this
theorem SS.real {D G:List Tm}{s p:Nat->Tm}(h:SS T D G s p):∀{p':Nat->Tm},(∀n,p' n=p n\/ST (mX D) (s n) (p' n))->SS T D G s p':=by
 induction h with
 | nil=>exact λ_=>.nil
 | @snoc G A s p P h1 h2 h3 h4 h5 ih=>
  intro p' hp;refine .snoc (ih λn=>hp (n+1)) h2 ?_ h4 h5;rcases hp 0 with h|h
  ·rw [h];exact h3
  ·exact h4.2 _ (by rw [List.append_nil];exact h)
theorem wf_sh:(∀(t:Tm) (b c:Int),cX t=true->0<=b->cX (bR b c t)=true)/\∀(ts:List Tm) (b k c:Int) (i:Nat),pI ts=true->0<=b->pI (bK b k c i ts)=true:=by
 refine bA (λk n ks ih b c hw hb=>?_) (λb k c i hw hb=>rfl) (λt ts h1 h2 b k c i hw hb=>?_)
 ·rw [bR];obtain ⟨h1,h2⟩:=wf_iff.1 hw;refine wf_iff.2 ⟨λe=>?_,ih b k c 0 h2 hb⟩;obtain ⟨h3,rfl⟩:=h1 e;exact ⟨by split<;>omega,rfl⟩
 ·rw [pI,Bool.and_eq_true] at hw;rw [bK,pI,h1 _ _ hw.1 hb,h2 _ _ _ _ hw.2 hb];rfl
theorem SS.wf {D G:List Tm}{s p:Nat->Tm}(h:SS T D G s p):∀n,cX (mX G n)=true:=by
 induction h with
 | nil=>intro n;rw [mX,Aw Ag];rfl
 | @snoc G A s p P h1 h2 h3 h4 h5 ih=>
  intro n;rw [kH];cases n with
  | zero=>exact wf_sh.1 _ _ _ h5 Ah
  | succ n=>exact wf_sh.1 _ _ _ (ih n) Ah
theorem SS.get {D G:List Tm}{s p:Nat->Tm}(h:SS T D G s p):∀n,n<G.length->∃P,RT T D (ins s (mX G n)) P/\P [] (s n) (p n)/\El T D P [] (s n):=by
 induction h with
 | nil=>exact λn hn=>absurd hn (Nat.not_lt_zero _)
 | @snoc G A s p P h1 h2 h3 h4 h5 ih=>
  intro n hn;rw [kH];cases n with
  | zero=>
   refine ⟨P,?_,h3,h4⟩;have:=tC 1 s h5;rw [lfa,show (1:Int)=((1:Nat):Int) from rfl,this];exact h2
  | succ n=>
   obtain ⟨Q,h6,h7,h8⟩:=ih n (by simpa using hn);refine ⟨Q,?_,h7,h8⟩;have:=tC 1 s (h1.wf n);rw [lfa,show (1:Int)=((1:Nat):Int) from rfl,this];exact h6
theorem SS.lift (hT:TC T){D G:List Tm}{A:Tm}{s p:Nat->Tm}{P:Pd}(h:SS T D G s p)(hA:RT T D (ins s A) P)(hw:cX A=true):SS T (D++[ins s A]) (G++[A]) (lft s) (lfa (ins s A) p):=by
 have h1:=h.up [ins s A];have h2:=hA.mono [ins s A];have ht:TK T (D++[ins s A]) (.mk 1 0 []):=λH=>by
  rw [Go.Proofs.YtjlaenhcemacdaaGreat.up,kU Ah,bK];exact hT.node _ 1 _ [] rfl Ah λi hi=>absurd hi (Nat.not_lt_zero _)
 have hs:∀u,ST (mX (D++[ins s A])) (.mk 1 0 []) u->u=Go.Proofs.YtjlaenhcemacdaaGreat.up [ins s A] (ins s A):=λu hu=>by
  cases hu with
  | var _=>rw [kH];rfl
 have hre:RE T (UU T 4) 4 (D++[ins s A]) (Go.Proofs.YtjlaenhcemacdaaGreat.up [ins s A] (ins s A)) (.mk 1 0 []):=⟨⟨_,.refl _,.var _ _⟩,ht,λu hu=>by
  rw [hs u hu];exact ⟨⟨_,h2⟩,.refl _⟩⟩
 have h3:=h2.ref hT h2 (.refl _) hre;rw [gR _ _ hw] at h2;refine .snoc h1 h2 h3 ⟨by rw [List.append_nil];exact ht,λu hu=>?_⟩ hw;rw [List.append_nil] at hu;rw [hs u hu];exact h3
theorem ST.det {p:Nat->Tm}{t u:Tm}(h:ST p t u):∀{u':Tm},ST p t u'->u=u':=by
 induction h with
 | var _=>intro u' h';cases h' with
  | var _=>rfl
  | bnd hk=>rcases hk with hk|hk<;>cases hk
 | srt=>intro u' h';cases h' with
  | srt=>rfl
  | bnd hk=>rcases hk with hk|hk<;>cases hk
 | nat=>intro u' h';cases h' with
  | nat=>rfl
  | bnd hk=>rcases hk with hk|hk<;>cases hk
 | zer=>intro u' h';cases h' with
  | zer=>rfl
  | bnd hk=>rcases hk with hk|hk<;>cases hk
 | suc=>intro u' h';cases h' with
  | suc=>rfl
  | bnd hk=>rcases hk with hk|hk<;>cases hk
 | @bnd p k n i j A B a b ka kb hk h1 hs1 h2 hs2 i1 i2=>
  intro u' h';generalize ht:Tm.mk k n [A,B]=t at h';cases h' with
  | bnd hk' g1 gs1 g2 gs2=>
   injection ht with e1 e2 e3;injection e3 with e3 e4;injection e4 with e4 _;subst e1 e2 e3 e4;have x:=i1 g1;have y:=i2 g2;subst x y;have x:=hs1.one_of gs1 (.inl rfl) (.inl rfl);have y:=hs2.one_of gs2 (.inl rfl) (.inl rfl);injection x with _ x;injection y with _ y;subst x y;rfl
  | lam=>injection ht with e;subst e;rcases hk with hk|hk<;>cases hk
  | app=>injection ht with e;subst e;rcases hk with hk|hk<;>cases hk
  | _=>injection ht with e1 e2 e3;subst e1;rcases hk with hk|hk<;>cases hk
 | lam h1 i1=>
  intro u' h';cases h' with
  | lam g1=>rw [i1 g1]
  | bnd hk=>rcases hk with hk|hk<;>cases hk
 | app h1 hs1 i1=>
  intro u' h';cases h' with
  | app g1 gs1=>
   have x:=i1 g1;subst x;have x:=hs1.one_of gs1 Ah Ah;injection x with _ _ x;injection x with _ x;injection x with x _;rw [x]
  | bnd hk=>rcases hk with hk|hk<;>cases hk
 | elm=>intro u' h';cases h' with
  | elm=>rfl
 | idt h1 hs1 i1=>
  intro u' h';cases h' with
  | idt g1 gs1=>
   have x:=i1 g1;subst x;have x:=hs1.one_of gs1 (.inl rfl) (.inl rfl);injection x with _ x;rw [x]
 | rfx h1 i1=>intro u' h';cases h' with
  | rfx g1=>rw [i1 g1]
 | mov h1 hs1 i1=>
  intro u' h';cases h' with
  | mov g1 gs1=>
   have x:=i1 g1;subst x;have x:=hs1.one_of gs1 Ah Ah;injection x with _ _ x;injection x with _ x;injection x with _ x;injection x with x _;rw [x]
 | pai=>intro u' h';cases h' with
  | pai=>rfl
 | fst h1 hs1 i1=>
  intro u' h';cases h' with
  | fst g1 gs1=>
   have x:=i1 g1;subst x;have x:=hs1.one_of gs1 Ah Ah;injection x with _ _ x;injection x with x _
 | snd h1 hs1 i1=>
  intro u' h';cases h' with
  | snd g1 gs1=>
   have x:=i1 g1;subst x;have x:=hs1.one_of gs1 Ah Ah;injection x with _ _ x;injection x with _ x;injection x with x _;rw [x]
theorem Pr.ins {t u:Tm}(h:Pr t u):∀(s:Nat->Tm),cX t=true->Pr (Go.Proofs.YtjlaenhcemacdaaGreat.ins s t) (Go.Proofs.YtjlaenhcemacdaaGreat.ins s u)/\cX u=true:=by
 induction h with
 | @node k n ks ls hl hk ih=>
  intro s hw;have hw2:=wf_iff.1 hw;refine ⟨?_,wf_iff.2 ⟨λe=>⟨(hw2.1 e).1,by have:=(hw2.1 e).2;subst this;exact List.length_eq_zero_iff.1 hl.symm⟩,wfL_iff.2 λt ht=>?_⟩⟩
  ·by_cases h1:k=1
   ·subst h1;rw [eL,eL];exact .refl _
   ·rw [dK h1,dK h1];refine (PrL.of (by rw [eO,eO];exact hl) λi hi=>?_).node k n;rw [eO] at hi;rw [lN,lN];exact (ih i hi _ (cQ hw i)).1
  ·obtain ⟨i,hi,rfl⟩:=List.getElem_of_mem ht;have:=(ih i Ac s (cQ hw i)).2;rwa [cO hi] at this
 | @red k n ks ls hr hl hk ih=>
  intro s hw;have hP:PrL ks ls:=PrL.of hl hk;have hk1:k≠1:=by have:=uS hr;omega
  have hr2:rdx k ls≠0:=by rw [hP.rdx hr];exact hr
  have hw2:cX (.mk k n ls)=true:=wf_iff.2 ⟨λe=>absurd e hk1,wfL_iff.2 λt ht=>by
   obtain ⟨i,hi,rfl⟩:=List.getElem_of_mem ht;have:=(ih i Ac s (cQ hw i)).2;rwa [cO hi] at this⟩
  refine ⟨?_,aPl hw2 hr2⟩;rw [aJs hw2 hr2,dK hk1,dK hk1];refine (PrL.of (by rw [eO,eO];exact hl) λi hi=>?_).red n (by rw [aCz hr];exact hr);rw [eO] at hi;rw [lN,lN];exact (ih i hi _ (cQ hw i)).1
theorem Ps.ins {t u:Tm}(h:Ps t u)(s:Nat->Tm):cX t=true->Ps (Go.Proofs.YtjlaenhcemacdaaGreat.ins s t) (Go.Proofs.YtjlaenhcemacdaaGreat.ins s u):=by
 induction h with
 | refl t=>exact λ_=>.refl _
 | step h1 _ ih=>exact λhw=>.step (h1.ins s hw).1 (ih (h1.ins s hw).2)
theorem Mt.ins {a b:Tm}(h:Mt a b)(s:Nat->Tm)(ha:cX a=true)(hb:cX b=true):Mt (Go.Proofs.YtjlaenhcemacdaaGreat.ins s a) (Go.Proofs.YtjlaenhcemacdaaGreat.ins s b):=by obtain ⟨c,h1,h2⟩:=h;exact ⟨_,h1.ins s ha,h2.ins s hb⟩
variable {T:List Tm->Tm->Prop}
def Sem (T:List Tm->Tm->Prop)(D:List Tm)(σ ρ:Nat->Tm)(t s:Tm):Prop:=∃P,RT T D (ins σ s) P/\(∃r,An σ ρ t r)/\(∀r,An σ ρ t r->P [] (ins σ t) r)/\T D (ins σ t)
def Val (T:List Tm->Tm->Prop)(G:List Tm)(t s:Tm):Prop:=∀D σ ρ,SS T D G σ ρ->Sem T D σ ρ t s
theorem aIi (q σ ρ:Nat->Tm):∃ρ':Nat->Tm,RealT q σ ρ'/\∀n,ρ' n=ρ n\/ST q (σ n) (ρ' n):=by
 have h:∀n,∃u,(∀v,ST q (σ n) v->v=u)/\(u=ρ n\/ST q (σ n) u):=λn=>by
  by_cases h:∃u,ST q (σ n) u
  ·obtain ⟨u,hu⟩:=h;exact ⟨u,λv hv=>hv.det hu,.inr hu⟩
  ·exact ⟨ρ n,λv hv=>absurd ⟨v,hv⟩ h,.inl rfl⟩
 obtain ⟨f,hf⟩:=Classical.axiomOfChoice h;exact ⟨f,λn u hu=>(hf n).1 u hu,λn=>(hf n).2⟩
theorem Val.get {G:List Tm}{t s:Tm}(h:Val T G t s)(hw:cX t=true){D:List Tm}{σ ρ:Nat->Tm}(hS:SS T D G σ ρ) :
  ∃P,RT T D (ins σ s) P/\(∃r,An σ ρ t r/\P [] (ins σ t) r)/\(∀r,An σ ρ t r->P [] (ins σ t) r)/\El T D P [] (ins σ t)/\T D (ins σ t):=by
 obtain ⟨P,h1,⟨r,h2⟩,h3,h4⟩:=h D σ ρ hS;refine ⟨P,h1,⟨r,h2,h3 r h2⟩,h3,⟨λH=>?_,λu hu=>?_⟩,h4⟩
 ·rw [List.append_nil,gR H σ hw];obtain ⟨_,_,_,_,h5⟩:=h _ _ _ (hS.up H);exact h5
 ·rw [List.append_nil] at hu;obtain ⟨ρ',h5,h6⟩:=aIi (mX D) σ ρ;obtain ⟨Q,h7,_,h8,_⟩:=h _ _ _ (hS.real h6);rw [h1.irr h7 (.refl _)];exact h8 u (hu.an hw rfl h5)
theorem pV {σ:Nat->Tm}{a:Tm}{l:Int}{ka:List Tm}(h:Hs a (.mk 2 l ka))(hw:cX a=true):∃ka',Hs (ins σ a) (.mk 2 l ka'):=by
 have:=(h.ins σ hw).1;rw [dK Ah] at this;exact ⟨_,this⟩
theorem nU {σ:Nat->Tm}{a A B:Tm}{k m:Int}(hk:k=3\/k=13)(h:Hs a (.mk k m [A,B]))(hw:cX a=true):Hs (ins σ a) (.mk k m [ins σ A,ins (lft σ) B])/\cX A=true/\cX B=true:=by
 have h1:=h.ins σ hw;have h2:=h1.1;rw [dK Ac] at h2;have e:eM σ k 0 [A,B]=[ins σ A,ins (lft σ) B]:=by
  rcases hk with rfl|rfl
  ·simp only [eM];rw [Av Ah,Aw Ah]
  ·simp only [eM];rw [Av Ah,Aw Ah]
 rw [e] at h2;exact ⟨h2,wf2 h1.2⟩
theorem aLn {σ:Nat->Tm}{a A x y:Tm}{m:Int}(h:Hs a (.mk 10 m [A,x,y]))(hw:cX a=true):Hs (ins σ a) (.mk 10 m [ins σ A,ins σ x,ins σ y])/\cX A=true/\cX x=true/\cX y=true:=by
 have h1:=h.ins σ hw;have h2:=h1.1;rw [dK Ah,iZ (by rfl)] at h2;exact ⟨h2,cQ h1.2 0,cQ h1.2 1,cQ h1.2 2⟩
theorem Val.ty {G:List Tm}{A a:Tm}{l:Int}{ka:List Tm}(h:Val T G A a)(ha:cX a=true)(hs:Hs a (.mk 2 l ka)){D:List Tm}{σ ρ:Nat->Tm}(hS:SS T D G σ ρ):∃j:Nat,l=(j:Int)/\j<4/\∃Q,LR T (UU T j) j D (ins σ A) Q:=by
 obtain ⟨P,h1,⟨r,h2⟩,h3,h4⟩:=h D σ ρ hS;obtain ⟨ka',h5⟩:=pV (σ:=σ) hs ha;exact h1.ty h5 (h3 r h2)
theorem Val.rt {G:List Tm}{A a:Tm}{l:Int}{ka:List Tm}(h:Val T G A a)(ha:cX a=true)(hs:Hs a (.mk 2 l ka)){D:List Tm}{σ ρ:Nat->Tm}(hS:SS T D G σ ρ):∃P,RT T D (ins σ A) P:=by
 obtain ⟨j,_,h1,Q,h2⟩:=h.ty ha hs hS;exact ⟨Q,h2.lift Ac⟩
theorem RT.pi_of {D:List Tm}{A X Y:Tm}{n:Int}{P:Pd}(h:RT T D A P)(hM:Mt A (.mk 3 n [X,Y])):∃A1 B1 P1 P2,Hs A (.mk 3 n [A1,B1])/\P=PiP T D P1 P2/\RT T D A1 P1/\(∀H u q,P1 H u q->El T D P1 H u->RT T (D++H) (bT u 0 0 (up1 H B1)) (P2 H u))/\Mt A1 X/\Mt B1 Y:=by
 have hx:Hs (Tm.mk 3 n [X,Y]) (.mk 3 n [X,Y]):=.refl _;cases h with
 | uni h1 h2 h3=>exact absurd (aT h2 (.inl rfl) hx Ah hM).1 Ah
 | nat h1 h2=>exact absurd (aT h2 Ah hx Ah hM).1 Ah
 | ne h1 h2=>exact (dY hx Ah h2 hM.symm).elim
 | pi h1 h2 h3 h4=>
  have hk:=aT h2 Ah hx Ah hM;obtain rfl:=hk.2.1;exact ⟨_,_,_,_,h2,rfl,h3,h4,hk.2.2 0,hk.2.2 1⟩
 | sig h1 h2 h3 h4=>exact absurd (aT h2 Ah hx Ah hM).1 Ah
 | idt h1 h2 h3 h4 h5 h6 h7=>exact absurd (aT h2 Ah hx Ah hM).1 Ah
theorem PiP.app {D:List Tm}{P1:Pd}{P2:List Tm->Tm->Pd}{f r u q A B:Tm}{m:Int}(h:PiP T D P1 P2 [] f r)(hr:Hs r (.mk 3 m [A,B]))(hu:P1 [] u q)(he:El T D P1 [] u):P2 [] u [] (eH f u) (bT u 0 0 B):=by
 obtain ⟨_,⟨n,A',B',h2,h3⟩,_⟩:=h;have:=h2.one_of hr Ah Ah;injection this with _ _ e;injection e with _ e;injection e with e _;subst e;have:=h3 [] u q hu he;rwa [fF,kD] at this
theorem PiP.hs {D:List Tm}{P1:Pd}{P2:List Tm->Tm->Pd}{f r:Tm}(h:PiP T D P1 P2 [] f r):∃m A B,Hs r (.mk 3 m [A,B]):=by
 obtain ⟨_,⟨n,A',B',h2,_⟩,_⟩:=h;exact ⟨n,A',B',h2⟩
theorem dT {σ:Nat->Tm}{k n:Int}{ks:List Tm}(h:k≠1)(hb:binds k=false):ins σ (.mk k n ks) = .mk k n (ks.map (ins σ)):=by rw [dK h,iZ hb]
theorem xG {σ:Nat->Tm}{k n:Int}{a b:Tm}(h:k=3\/k=4\/k=13):ins σ (.mk k n [a,b]) = .mk k n [ins σ a,ins (lft σ) b]:=by
 rw [dK Ac];simp only [eM];have:=tE h;rw [this.1,this.2,Av rfl,Aw Ah]
theorem aMo {a b:Tm}(h:tR a b = .ok ()):Mt a b/\aE a=true/\aE b=true:=by
 unfold tR at h;split at h
 ·rename_i hv;split at h
  ·rename_i hc;exact ⟨aKy hv.1 hv.2 hc,hv.1,hv.2⟩
  ·split at h<;>cases h
 ·cases h
theorem fO {N:Nat}{G:List Tm}{t w:Tm}(h:gP (bE N) G t w=some (.ok ())):∃s,bE N G t=some (.ok s)/\Mt s w/\aE w=true:=by
 obtain ⟨s,h1,h2⟩:=bM h;have:=aMo (Option.some.inj h2);exact ⟨s,h1,this.1,this.2.2⟩
variable {T:List Tm->Tm->Prop}
theorem El.tk {D:List Tm}{P:Pd}{v:Tm}(h:El T D P [] v):TK T D v:=by have:=h.1;rwa [List.append_nil] at this
theorem El.st {D:List Tm}{P:Pd}{v s:Tm}(h:El T D P [] v)(hs:ST (mX D) v s):P [] v s:=h.2 s (by rw [List.append_nil];exact hs)
theorem El.mk {D:List Tm}{P:Pd}{v:Tm}(h:TK T D v)(hs:∀s,ST (mX D) v s->P [] v s):El T D P [] v:=⟨by rw [List.append_nil];exact h,λs h1=>hs s (by rw [List.append_nil] at h1;exact h1)⟩
theorem nP (hT:TC T)(D:List Tm)(n:Int):TK T D (.mk 2 n []):=tP hT (by rfl) Ah
theorem uG (hT:TC T)(D:List Tm)(n:Int):TK T D (.mk 6 n []):=tP hT (by rfl) Ah
theorem xA (hT:TC T)(D:List Tm):RT T D (.mk 6 0 []) (NP T D):=.nat (uG hT D 0) (.refl _)
theorem aVo (hT:TC T)(D:List Tm)(i:Nat):LR T (UU T i) i D (.mk 6 0 []) (NP T D):=.nat (uG hT D 0) (.refl _)
theorem aIu (hT:TC T){D:List Tm}{j:Nat}(hj:j<4){v r:Tm}{ks:List Tm}(hr:TK T D r)(hs:Hs r (.mk 2 (j:Int) ks)){Q:Pd}(hq:LR T (UU T j) j D v Q):UP T (UU T 4) D j [] v r:=by
 refine ⟨by rw [List.append_nil];exact hr,⟨ks,hs⟩,?_⟩;rw [List.append_nil];exact (zU hj).2 ⟨Q,hq⟩
theorem vX (hT:TC T)(D:List Tm){j:Nat}(hj:j<4):RT T D (.mk 2 (j:Int) []) (UP T (UU T 4) D j):=.uni (nP hT D j) (.refl _) hj
theorem aUn {G:List Tm}{n:Int}{ks:List Tm}(h0:0<=n)(hn:n<(G.length:Int)):Val T G (.mk 1 n ks) (mX G n.toNat):=λD σ ρ hS=>by
 obtain ⟨P,h1,h2,h3⟩:=hS.get n.toNat Ac;refine ⟨P,h1,⟨_,.var⟩,λr hr=>?_,?_⟩
 ·rw [eL];cases hr with
  | var=>exact h2
  | bnd hk=>rcases hk with hk|hk<;>cases hk
 ·rw [eL];exact h3.tk.at
theorem aSo (hT:TC T){G:List Tm}{n:Int}(h0:0<=n)(hn:n<3):Val T G (.mk 2 n []) (.mk 2 (n+1) []):=λD σ ρ hS=>by
 obtain ⟨j,rfl⟩:=Int.eq_ofNat_of_zero_le h0;have e:∀m:Int,ins σ (.mk 2 m []) = .mk 2 m []:=λm=>by rw [dT Ah (by rfl)];rfl
 have h1:=vX hT D (j:=j+1) Ac;refine ⟨_,by rw [e];exact h1,⟨_,.srt⟩,λr hr=>?_,by rw [e];exact (nP hT D _).at⟩;cases hr with
 | srt=>
  rw [e];exact aIu hT Ac (nP hT D _) (.refl _) (Q:=UP T (UU T (j+1)) D j) (.uni (nP hT D _) (.refl _) Ac)
theorem aTx (hT:TC T){G:List Tm}:Val T G (.mk 6 0 []) (.mk 2 0 []):=λD σ ρ hS=>by
 have h1:=vX hT D (j:=0) Ac;refine ⟨_,by rw [dT Ah (by rfl)];exact h1,⟨_,.nat⟩,λr hr=>?_,by rw [dT Ah (by rfl)];exact (uG hT D _).at⟩;cases hr with
 | nat=>
  rw [dT Ah (by rfl)];exact aIu hT Ac (nP hT D _) (.refl _) (aVo hT D 0)
theorem aJq {D:List Tm}{v r:Tm}{n:Int}{ks:List Tm}(h1:TK T D r)(h2:Hs r (.mk 6 n ks))(h3:Nt T D v):NP T D [] v r:=by
 refine ⟨by rw [List.append_nil];exact h1,⟨n,ks,h2⟩,by rw [List.append_nil];exact h3⟩
theorem aGs {D:List Tm}{v r:Tm}(h:NP T D [] v r):TK T D r/\(∃n ks,Hs r (.mk 6 n ks))/\Nt T D v:=by
 obtain ⟨h1,h2,h3⟩:=h;rw [List.append_nil] at h1 h3;exact ⟨h1,h2,h3⟩
theorem aSg (hT:TC T){G:List Tm}:Val T G (.mk 7 0 []) (.mk 6 0 []):=λD σ ρ hS=>by
 have e:∀m:Int,ins σ (.mk m 0 [])=ins σ (.mk m 0 []):=λ_=>rfl
 refine ⟨NP T D,by rw [dT Ah (by rfl)];exact xA hT D,⟨_,.zer⟩,λr hr=>?_,?_⟩
 ·cases hr with
  | zer=>rw [dT Ah (by rfl)];exact aJq (uG hT D 0) (.refl _) (.zer (.refl _))
 ·rw [dT Ah (by rfl)];exact (tP (T:=T) (D:=D) (k:=7) (n:=0) hT (by rfl) Ah).at
theorem aDb (σ:Nat->Tm):ins σ nT=nT:=by rw [nT,dT Ah (by rfl)];rfl
theorem aNg:cX nT=true:=rfl
theorem Val.num (hT:TC T){G:List Tm}{m sm:Tm}(h:Val T G m sm)(hw:cX m=true)(hws:cX sm=true)(hM:Mt sm nT){D:List Tm}{σ ρ:Nat->Tm}(hS:SS T D G σ ρ) :
  (∃ r, An σ ρ m r /\ NP T D [] (ins σ m) r) /\ El T D (NP T D) [] (ins σ m) /\ T D (ins σ m) := by
 obtain ⟨P,h1,h2,h3,h4,h5⟩:=h.get hw hS;have hm:=hM.ins σ hws aNg;rw [aDb] at hm;obtain rfl:=h1.irr (xA hT D) hm;exact ⟨h2,h4,h5⟩
theorem aUg (hT:TC T){G:List Tm}{m sm:Tm}(h:Val T G m sm)(hw:cX m=true)(hws:cX sm=true)(hM:Mt sm nT):Val T G (.mk 8 0 [m]) nT:=λD σ ρ hS=>by
 obtain ⟨⟨r,h1,h2⟩,h3,h4⟩:=h.num hT hw hws hM hS;have e:ins σ (.mk 8 0 [m]) = .mk 8 0 [ins σ m]:=by rw [dT Ah (by rfl)];rfl
 refine ⟨NP T D,by rw [aDb];exact xA hT D,⟨_,.suc⟩,λr hr=>?_,?_⟩
 ·cases hr with
  | suc=>
   rw [e];refine aJq (uG hT D 0) (.refl _) (.suc (.refl _) h3.tk (λs hs=>?_) (aGs h2).2.2);have:=aGs (h3.st hs);exact ⟨this.1,this.2.1⟩
 ·rw [e];exact (TK.one hT (by rfl) Ah h3.tk).at
theorem sN (H:List Tm)(σ:Nat->Tm){t:Tm}(hw:cX t=true):up1 H (ins (lft σ) t)=ins (lft λn=>up H (σ n)) t:=by
 have hf:=aGj (b:=(H.length:Int)) (c:=0) Ac Ah;have h1:=hf.ins 1 t (lft σ) hw;have h2:=hf.lft 0 σ;simp only [Int.zero_add,Int.natCast_zero] at h1 h2;rw [h2] at h1;exact h1
theorem pO (H:List Tm)(u:Tm)(σ:Nat->Tm){t:Tm}(hw:cX t=true):bT u 0 0 (up1 H (ins (lft σ) t))=ins (sO u λn=>up H (σ n)) t:=by rw [sN H σ hw,aBj _ _ hw]
theorem aGl (hT:TC T){D:List Tm}{k n:Int}{A B:Tm}(hk:k=3\/k=13)(hA:TK T D A)(hB:∀H,T (D++H++[up H A]) (up1 H B)):TK T D (.mk k n [A,B]):=λH=>by
 rw [aEw Ac];exact hT.bnd _ _ _ _ _ hk (hA H) (hB H)
theorem aCs {D G:List Tm}{A:Tm}{σ ρ:Nat->Tm}{P:Pd}(hS:SS T D G σ ρ)(hA:RT T D (ins σ A) P)(hw:cX A=true){H:List Tm}{u q:Tm}(hu:P H u q)(he:El T D P H u):SS T (D++H) (G++[A]) (sO u λn=>up H (σ n)) (sO q λn=>up H (ρ n)):=by
 have h1:=hA.mono H;rw [gR H σ hw] at h1;exact (hS.up H).push h1 ((rJ _ _ _ _).2 hu) ((zW _ _ _ _).2 he) hw
theorem aOc {R:List Tm->Tm->Pd->Prop}(P1:List Tm->Tm->Prop)(h:∀H u,P1 H u->∃Q,R H u Q):∃P2:List Tm->Tm->Pd,∀H u,P1 H u->R H u (P2 H u):=by
 have h2:∀x:List Tm × Tm,∃Q:Pd,P1 x.1 x.2->R x.1 x.2 Q:=λx=>by
  by_cases hx:P1 x.1 x.2
  ·obtain ⟨Q,hq⟩:=h _ _ hx;exact ⟨Q,λ_=>hq⟩
  ·exact ⟨λ_ _ _=>False,λh=>absurd h hx⟩
 obtain ⟨f,hf⟩:=Classical.axiomOfChoice h2;exact ⟨λH u=>f (H,u),λH u hx=>hf (H,u) hx⟩
theorem An.bnd_inv {σ ρ:Nat->Tm}{k n:Int}{A B r:Tm}(hk:k=3\/k=13)(h:An σ ρ (.mk k n [A,B]) r):∃i j a b ka kb,An σ ρ A a/\Hs a (.mk 2 i ka)/\An (lft σ) (lfa (ins σ A) ρ) B b/\Hs b (.mk 2 j kb)/\r = .mk 2 (if j<i then i else j) []:=by
 rcases hk with rfl|rfl
 ·cases h with
  | bnd _ c1 c2 c3 c4=>exact ⟨_,_,_,_,_,_,c1,c2,c3,c4,rfl⟩
 ·cases h with
  | bnd _ c1 c2 c3 c4=>exact ⟨_,_,_,_,_,_,c1,c2,c3,c4,rfl⟩
theorem aTs (hT:TC T){G:List Tm}{k n i j:Int}{A B a b:Tm}{ka kb:List Tm}(hk:k=3\/k=13)(hA:Val T G A a)(ha:Hs a (.mk 2 i ka))(hB:Val T (G++[A]) B b)(hb:Hs b (.mk 2 j kb))(wA:cX A=true)(wB:cX B=true)(wa:cX a=true)(wb:cX b=true):Val T G (.mk k n [A,B]) (.mk 2 (if j<i then i else j) []):=λD σ ρ hS=>by
 obtain ⟨i',rfl,hi,Q1,hQ1⟩:=hA.ty wa ha hS;have hR1:RT T D (ins σ A) Q1:=hQ1.lift Ac;have hj:∀{D':List Tm} {σ' ρ':Nat->Tm},SS T D' (G++[A]) σ' ρ'->∃j':Nat,j=(j':Int)/\j'<4/\∃Q,LR T (UU T j') j' D' (ins σ' B) Q:=λh=>hB.ty wb hb h
 have hl:=hS.lift hT hR1 wA;obtain ⟨j',rfl,hj4,_⟩:=hj hl;obtain ⟨P2,hP2⟩:=aOc (R:=λH u Q=>LR T (UU T j') j' (D++H) (bT u 0 0 (up1 H (ins (lft σ) B))) Q) (λH u=>(∃q,Q1 H u q)/\El T D Q1 H u) λH u ⟨⟨q,hq⟩,he⟩=>by
  obtain ⟨j2,e,_,Q,hQ⟩:=hj (aCs hS hR1 wA hq he);obtain rfl:=Int.ofNat_inj.1 e;rw [pO H u σ wB];exact ⟨Q,hQ⟩
 obtain ⟨PA,h1,⟨ra,h2,h3⟩,h4,h5,h6⟩:=hA.get wA hS;obtain ⟨PB,g1,⟨rb,g2,g3⟩,g4,g5,g6⟩:=hB.get wB hl;have e:ins σ (.mk k n [A,B]) = .mk k n [ins σ A,ins (lft σ) B]:=xG Ac;have htk:TK T D (.mk k n [ins σ A,ins (lft σ) B]):=aGl hT hk h5.tk λH=>by
  have h7:=hR1.mono H;rw [gR H σ wA] at h7⊢;rw [sN H σ wB];obtain ⟨_,_,_,_,h8⟩:=hB _ _ _ ((hS.up H).lift hT h7 wA);exact h8
 obtain ⟨m,hm⟩:∃m:Nat,(if (j':Int)<(i':Int) then (i':Int) else (j':Int))=(m:Int)/\m<4/\i'<=m/\j'<=m:=by
  by_cases h:(j':Int)<i'
  ·rw [Av h];exact ⟨i',rfl,hi,mC _,by omega⟩
  ·rw [Aw h];exact ⟨j',rfl,hj4,by omega,mC _⟩
 have hsA:∀{r:Tm},An σ ρ A r->∃ks,Hs r (.mk 2 (i':Int) ks):=λhr=>by
  obtain ⟨ka',h7⟩:=pV (σ:=σ) ha wa;obtain ⟨l,h8,h9,rfl⟩:=lE h1 h7;rw [h8];exact (h4 _ hr).2.1
 have hsB:∀{r:Tm},An (lft σ) (lfa (ins σ A) ρ) B r->∃ks,Hs r (.mk 2 (j':Int) ks):=λhr=>by
  obtain ⟨kb',h7⟩:=pV (σ:=lft σ) hb wb;obtain ⟨l,h8,h9,rfl⟩:=lE g1 h7;rw [h8];exact (g4 _ hr).2.1
 have hel:∃Q,LR T (UU T m) m D (.mk k n [ins σ A,ins (lft σ) B]) Q:=by
  rcases hk with rfl|rfl
  ·exact ⟨_,.pi htk (.refl _) (hQ1.lift hm.2.2.1) λH u q hq he=>(hP2 H u ⟨⟨q,hq⟩,he⟩).lift hm.2.2.2⟩
  ·exact ⟨_,.sig htk (.refl _) (hQ1.lift hm.2.2.1) λH u q hq he=>(hP2 H u ⟨⟨q,hq⟩,he⟩).lift hm.2.2.2⟩
 obtain ⟨Q,hQ⟩:=hel;rw [hm.1];refine ⟨_,by rw [dT Ah (by rfl)];exact vX hT D hm.2.1,?_,λr hr=>?_,by rw [e];exact htk.at⟩
 ·obtain ⟨k1,h7⟩:=hsA h2;obtain ⟨k2,h8⟩:=hsB g2;exact ⟨_,.bnd hk h2 h7 g2 h8⟩
 ·rw [e];obtain ⟨i2,j2,a2,b2,k3,k4,c1,c2,c3,c4,rfl⟩:=hr.bnd_inv hk;obtain ⟨k1,h7⟩:=hsA c1;obtain ⟨k2,h8⟩:=hsB c3;have x:=c2.one_of h7 (.inl rfl) (.inl rfl);have y:=c4.one_of h8 (.inl rfl) (.inl rfl);injection x with _ x;injection y with _ y;subst x y;rw [hm.1];exact aIu hT hm.2.1 (nP hT D _) (.refl _) hQ
end Go.Proofs.YtjlaenhcemacdaaGreat
