/- Parts of the proof. No condition. -/
import Derived.Test.YtjlaenhcemacdaaGreatK17
import Derived.Test.YtjlaenhcemacdaaGreatK18
open Go.Proofs.Tryz
namespace Go.Proofs.YtjlaenhcemacdaaGreat
open Go.RowKit
set_option maxHeartbeats 8000000
set_option maxRecDepth 100000
set_option linter.unusedSimpArgs false
set_option linter.unusedVariables false
def lft (s:Nat->Tm):Nat->Tm
 | 0=>.mk 1 0 []
 | n+1=>bR 1 0 (s n)
mutual
def ins (s:Nat->Tm):Tm->Tm
 | .mk k n ks=>if k=1 then s n.toNat else .mk k n (eM s k 0 ks)
def eM (s:Nat->Tm)(k:Int):Nat->List Tm->List Tm
 | _,[]=>[]
 | i,t::ts=>ins (if aN k (i:Int)=0 then s else lft s) t::eM s k (i+1) ts
end
mutual
def cX:Tm->Bool
 | .mk k n ks=>(if k=1 then decide (0<=n) && ks.isEmpty else true) && pI ks
def pI:List Tm->Bool
 | []=>true
 | t::ts=>cX t && pI ts
end
theorem wf_iff {k n:Int}{ks:List Tm}:cX (.mk k n ks)=true↔(k=1->0<=n/\ks=[])/\pI ks=true:=by
 rw [cX,Bool.and_eq_true];by_cases h:k=1
 ·simp only [h,if_true,Bool.and_eq_true,decide_eq_true_eq,List.isEmpty_iff,forall_const]
 ·simp only [h,if_false,true_and,false_imp_iff]
theorem wfL_iff:∀{ts:List Tm},pI ts=true↔∀t,t∈ts->cX t=true
 | []=>⟨λ_ t ht=>absurd ht List.not_mem_nil,λ_=>rfl⟩
 | t::ts=>by
  rw [pI,Bool.and_eq_true,wfL_iff (ts:=ts)];exact ⟨λh u hu=>(List.mem_cons.1 hu).elim (λe=>e▸h.1) (h.2 u),λh=>⟨h t List.mem_cons_self,λu hu=>h u (List.mem_cons_of_mem _ hu)⟩⟩
theorem cQ {k n:Int}{ks:List Tm}(h:cX (.mk k n ks)=true)(i:Nat):cX (aI ks i)=true:=by
 by_cases hi:i<ks.length
 ·exact wfL_iff.1 (wf_iff.1 h).2 _ (fG hi)
 ·rw [fP Ac];rfl
theorem aFp:∀(d:Nat) (t:Tm),shape d t=true->cX t=true
 | d,.mk k n ks,h=>by
  obtain ⟨q,rfl,ha,h0,h1,hk⟩:=cD h;refine wf_iff.2 ⟨λe=>⟨h0,?_⟩,wfL_iff.2 λt ht=>aFp q t (hk t ht)⟩;subst e;exact List.length_eq_zero_iff.1 (by have:aX 1=0:=rfl;omega)
theorem kI {t:Tm}(h:aE t=true):cX t=true:=aFp 30 t (aY h)
theorem eL {s:Nat->Tm}{n:Int}{ks:List Tm}:ins s (.mk 1 n ks)=s n.toNat:=by rw [ins,Av rfl]
theorem dK {s:Nat->Tm}{k n:Int}{ks:List Tm}(h:k≠1):ins s (.mk k n ks) = .mk k n (eM s k 0 ks):=by rw [ins,Aw h]
theorem eO (s:Nat->Tm)(k:Int):∀(ts:List Tm) (i:Nat),(eM s k i ts).length=ts.length
 | [],i=>rfl
 | t::ts,i=>by rw [eM,List.length_cons,List.length_cons,eO s k ts (i+1)]
theorem aEm (s:Nat->Tm)(k:Int):∀(ts:List Tm) (i j:Nat),aI (eM s k i ts) j=if j<ts.length then ins (if aN k ((i+j:Nat):Int)=0 then s else lft s) (aI ts j) else default
 | [],i,j=>by rw [eM,wM,Aw Ag]
 | t::ts,i,0=>by rw [eM,lI,lI];exact (Av (Nat.zero_lt_succ _)).symm
 | t::ts,i,j+1=>by
  rw [eM,iI,iI,aEm s k ts (i+1) j,show i+1+j=i+(j+1) by omega];by_cases h:j<ts.length
  ·rw [Av h];exact (Av (Nat.succ_lt_succ h)).symm
  ·rw [Aw h];exact (Aw λh2=>h (Nat.lt_of_succ_lt_succ h2)).symm
theorem aEk (s:Nat->Tm):ins s default=default:=by
 show ins s (.mk 0 0 [])=_;rw [dK Ah,eM];rfl
theorem lN (s:Nat->Tm)(k:Int)(ts:List Tm)(j:Nat):aI (eM s k 0 ts) j=ins (if aN k (j:Int)=0 then s else lft s) (aI ts j):=by
 rw [aEm,Nat.zero_add];by_cases h:j<ts.length
 ·rw [Av h]
 ·rw [Aw h,fP Ac,aEk]
theorem fN {s:Nat->Tm}{k:Int}{ts:List Tm}(hb:binds k=false)(j:Nat):aI (eM s k 0 ts) j=ins s (aI ts j):=by
 rw [lN,Av (by unfold aN;rw [Aw (by rw [hb];rintro ⟨-,h⟩;cases h)])]
theorem aCo {s:Nat->Tm}{t:Tm}(h:t.k≠1)(j:Nat):aI (ins s t).ks j=ins (if aN t.k (j:Int)=0 then s else lft s) (aI t.ks j):=by
 obtain ⟨k,n,ks⟩:=t;have h':k≠1:=h;rw [dK h'];exact lN s k ks j
theorem aSx {s:Nat->Tm}{t:Tm}(h:t.k≠1):(ins s t).k=t.k:=by
 obtain ⟨k,n,ks⟩:=t;have h':k≠1:=h;rw [dK h'];rfl
theorem ins_ext:(∀(t:Tm) (s s':Nat->Tm),(∀n,s n=s' n)->ins s t=ins s' t)/\∀(ts:List Tm) (k:Int) (i:Nat) (s s':Nat->Tm),(∀n,s n=s' n)->eM s k i ts=eM s' k i ts:=by
 refine bA (λk n ks ih s s' h=>?_) (λk i s s' h=>?_) (λt ts h1 h2 k i s s' h=>?_)
 ·rw [ins,ins,ih k 0 s s' h,h]
 ·rfl
 ·rw [eM,eM,h2 k (i+1) s s' h];congr 1;split
  ·exact h1 _ _ h
  ·refine h1 _ _ λn=>?_
   cases n with
   | zero=>rfl
   | succ n=>rw [lft,lft,h]
theorem aGp (b:Int)(hb:0<=b):(∀(t:Tm) (s:Nat->Tm) (c:Int),cX t=true->0<=c->bR b c (ins s t)=ins (λn=>bR b c (s n)) t)/\
  ∀(ts:List Tm) (k:Int) (i:Nat) (s:Nat->Tm) (c:Int),pI ts=true->0<=c->bK b k c i (eM s k i ts)=eM (λn=>bR b c (s n)) k i ts:=by
 refine bA (λk n ks ih s c hw hc=>?_) (λk i s c hw hc=>?_) (λt ts h1 h2 k i s c hw hc=>?_)
 ·by_cases hk:k=1
  ·subst hk;rw [eL,eL]
  ·rw [dK hk,dK hk,eQ hk,ih k 0 s c (wf_iff.1 hw).2 hc]
 ·simp only [eM,bK]
 ·rw [pI,Bool.and_eq_true] at hw;simp only [eM,bK];rw [h2 k (i+1) s c hw.2 hc];congr 1;rcases vR k i with hu|hu
  ·rw [hu,Av rfl,Av rfl,Int.add_zero,h1 _ _ hw.1 hc]
  ·rw [hu,Aw Ah,Aw Ah,h1 _ _ hw.1 Ac];refine ins_ext.1 t _ _ λn=>?_
   cases n with
   | zero=>rw [lft,oJ Ac,lft,bK]
   | succ n=>rw [lft,lft,(aIe 1 b Ah hb).1 (s n) 0 c hc]
theorem aNj (v:Tm):(∀(t:Tm) (s:Nat->Tm) (x d:Int),cX t=true->0<=d->d<=x->bT v x d (ins s t)=ins (λn=>bT v x d (s n)) t)/\
  ∀(ts:List Tm) (k:Int) (i:Nat) (s:Nat->Tm) (x d:Int),pI ts=true->0<=d->d<=x->cE v k x d i (eM s k i ts)=eM (λn=>bT v x d (s n)) k i ts:=by
 refine bA (λk n ks ih s x d hw hd hx=>?_) (λk i s x d hw hd hx=>?_) (λt ts h1 h2 k i s x d hw hd hx=>?_)
 ·by_cases hk:k=1
  ·subst hk;rw [eL,eL]
  ·rw [dK hk,dK hk,mN hk,ih k 0 s x d (wf_iff.1 hw).2 hd hx]
 ·simp only [eM,cE]
 ·rw [pI,Bool.and_eq_true] at hw;simp only [eM,cE];rw [h2 k (i+1) s x d hw.2 hd hx];congr 1;rcases vR k i with hu|hu
  ·rw [hu,Av rfl,Av rfl,Int.add_zero,Int.add_zero,h1 _ _ _ hw.1 hd hx]
  ·rw [hu,Aw Ah,Aw Ah,h1 _ _ _ hw.1 Ac Ac];refine ins_ext.1 t _ _ λn=>?_
   cases n with
   | zero=>rw [lft,gY Ac,lft,cE]
   | succ n=>rw [lft,lft,(aHi v 1 Ah).1 (s n) 0 d x Ac hd hx]
def sO (v:Tm)(s:Nat->Tm):Nat->Tm
 | 0=>v
 | n+1=>s n
theorem uZ (t:Tm)(c:Int):bR 0 c t=t:=(show (∀(t:Tm) (c:Int),bR 0 c t=t)/\(∀(ts:List Tm) (k c:Int) (i:Nat),bK 0 k c i ts=ts) by
 refine bA (λk n ks ih c=>?_) (λk c i=>?_) (λt ts h1 h2 k c i=>?_)
 ·rw [bR,ih];simp
 ·rw [bK]
 ·rw [bK,h1,h2]).1 t c
theorem aBj (v:Tm)(s:Nat->Tm){t:Tm}(hw:cX t=true):bT v 0 0 (ins (lft s) t)=ins (sO v s) t:=by
 rw [(aNj v).1 t (lft s) 0 0 hw Ah Ah];refine ins_ext.1 t _ _ λn=>?_
 cases n with
 | zero=>rw [lft,wL rfl,sO,uZ]
 | succ n=>
  rw [lft,sO];have:=(vL v 0 Ah).1 (s n) 0 0 0 Ah Ah;rw [Int.zero_add] at this;rw [this,uZ]
def lfn:Nat->(Nat->Tm)->Nat->Tm
 | 0,s=>s
 | e+1,s=>lft (lfn e s)
theorem yG:∀(e:Nat) (s:Nat->Tm) (n:Nat),n<e->lfn e s n = .mk 1 (n:Int) []
 | e+1,s,0,_=>rfl
 | e+1,s,n+1,h=>by
  rw [lfn,lft,yG e s n Ac,kU Ac,bK];rfl
theorem rW:∀(e:Nat) (s:Nat->Tm) (n:Nat),lfn e s (n+e)=bR (e:Int) 0 (s n)
 | 0,s,n=>by rw [lfn,Nat.add_zero];exact (uZ _ _).symm
 | e+1,s,n=>by
  rw [lfn,show n+(e+1)=(n+e)+1 by omega,lft,rW e s n,(nG 1 (e:Int) Ac).1 _ 0 0 Ah Ac];congr 1;omega
theorem aUc (b:Nat):(∀(t:Tm) (s:Nat->Tm) (e:Nat),cX t=true->ins (lfn e s) (bR (b:Int) (e:Int) t)=ins (lfn e λn=>s (n+b)) t)/\
  ∀(ts:List Tm) (k:Int) (i:Nat) (s:Nat->Tm) (e:Nat),pI ts=true->eM (lfn e s) k i (bK (b:Int) k (e:Int) i ts)=eM (lfn e λn=>s (n+b)) k i ts:=by
 refine bA (λk n ks ih s e hw=>?_) (λk i s e hw=>?_) (λt ts h1 h2 k i s e hw=>?_)
 ·by_cases hk:k=1
  ·subst hk;obtain ⟨h0,rfl⟩:=(wf_iff.1 hw).1 rfl;obtain ⟨m,rfl⟩:=Int.eq_ofNat_of_zero_le h0;by_cases hm:e<=m
   ·rw [kU Ac,eL,eL,show ((m:Int)+(b:Int)).toNat=(m - e+b)+e by omega,rW,Int.toNat_natCast];conv=>rhs;rw [show m=(m - e)+e by omega,rW]
   ·rw [oJ Ac,eL,eL,Int.toNat_natCast,yG _ _ _ Ac,yG _ _ _ Ac]
  ·rw [eQ hk,dK hk,dK hk,ih k 0 s e (wf_iff.1 hw).2]
 ·simp only [eM,bK]
 ·rw [pI,Bool.and_eq_true] at hw;simp only [eM,bK];rw [h2 k (i+1) s e hw.2];congr 1;rcases vR k i with hu|hu
  ·rw [hu,Av rfl,Av rfl,Int.add_zero,h1 s e hw.1]
  ·rw [hu,Aw Ah,Aw Ah];exact h1 s (e+1) hw.1
theorem tC (b:Nat)(s:Nat->Tm){t:Tm}(hw:cX t=true):ins s (bR (b:Int) 0 t)=ins (λn=>s (n+b)) t:=(aUc b).1 t s 0 hw
theorem aVk (u:Tm)(hu:cX u=true):(∀(t:Tm) (s:Nat->Tm) (e:Nat),cX t=true->ins (lfn e s) (bT u (e:Int) (e:Int) t)=ins (lfn e (sO (ins s u) s)) t)/\
  ∀(ts:List Tm) (k:Int) (i:Nat) (s:Nat->Tm) (e:Nat),pI ts=true->eM (lfn e s) k i (cE u k (e:Int) (e:Int) i ts)=eM (lfn e (sO (ins s u) s)) k i ts:=by
 refine bA (λk n ks ih s e hw=>?_) (λk i s e hw=>?_) (λt ts h1 h2 k i s e hw=>?_)
 ·by_cases hk:k=1
  ·subst hk;obtain ⟨h0,rfl⟩:=(wf_iff.1 hw).1 rfl;obtain ⟨m,rfl⟩:=Int.eq_ofNat_of_zero_le h0;rw [show ins (lfn e (sO (ins s u) s)) (.mk 1 (m:Int) [])=lfn e (sO (ins s u) s) m from eL];by_cases hm:m<e
   ·rw [gY Ac,cE,eL,Int.toNat_natCast,yG _ _ _ hm,yG _ _ _ hm]
   ·by_cases he:m=e
    ·subst he;have h2:lfn m (sO (ins s u) s) m=bR (m:Int) 0 (ins s u):=by
      have:=rW m (sO (ins s u) s) 0;rw [Nat.zero_add] at this;exact this
     rw [wL rfl,h2,tC m _ hu,(aGp (m:Int) Ac).1 u s 0 hu Ah];exact ins_ext.1 u _ _ λn=>rW m s n
    ·rw [jD Ac,cE,eL,show ((m:Int) - 1).toNat=(m - 1 - e)+e by omega,rW];conv=>rhs;rw [show m=(m - 1 - e+1)+e by omega,rW]
     rfl
  ·rw [mN hk,dK hk,dK hk,ih k 0 s e (wf_iff.1 hw).2]
 ·simp only [eM,cE]
 ·rw [pI,Bool.and_eq_true] at hw;simp only [eM,cE];rw [h2 k (i+1) s e hw.2];congr 1;rcases vR k i with hu|hu
  ·rw [hu,Av rfl,Av rfl,Int.add_zero,h1 s e hw.1]
  ·rw [hu,Aw Ah,Aw Ah];exact h1 s (e+1) hw.1
theorem vU (s:Nat->Tm){u t:Tm}(hu:cX u=true)(ht:cX t=true):ins s (bT u 0 0 t)=bT (ins s u) 0 0 (ins (lft s) t):=by
 rw [aBj _ _ ht];exact (aVk u hu).1 t s 0 ht
def idS:Nat->Tm:=λn=>.mk 1 (n:Int) []
theorem ins_id:(∀(t:Tm) (s:Nat->Tm),cX t=true->(∀n,s n = .mk 1 (n:Int) [])->ins s t=t)/\∀(ts:List Tm) (k:Int) (i:Nat) (s:Nat->Tm),pI ts=true->(∀n,s n = .mk 1 (n:Int) [])->eM s k i ts=ts:=by
 refine bA (λk n ks ih s hw hs=>?_) (λk i s hw hs=>?_) (λt ts h1 h2 k i s hw hs=>?_)
 ·by_cases hk:k=1
  ·subst hk;obtain ⟨h0,rfl⟩:=(wf_iff.1 hw).1 rfl;rw [eL,hs,Int.toNat_of_nonneg h0]
  ·rw [dK hk,ih k 0 s (wf_iff.1 hw).2 hs]
 ·rfl
 ·rw [pI,Bool.and_eq_true] at hw;rw [eM,h2 k (i+1) s hw.2 hs];congr 1;split
  ·exact h1 s hw.1 hs
  ·refine h1 _ hw.1 λn=>?_
   cases n with
   | zero=>rfl
   | succ n=>rw [lft,hs,kU Ac,bK];rfl
inductive Pr:Tm->Tm->Prop
 | node {k n:Int} {ks ls:List Tm}:ks.length=ls.length->(∀i,i<ks.length->Pr (aI ks i) (aI ls i))->Pr (.mk k n ks) (.mk k n ls)
 | red {k n:Int} {ks ls:List Tm}:rdx k ks≠0->ks.length=ls.length->(∀i,i<ks.length->Pr (aI ks i) (aI ls i))->Pr (.mk k n ks) (eF (.mk k n ls))
theorem Pr.refl:∀t,Pr t t:=jG λk n ks ih=>.node rfl λi hi=>ih _ (fG hi)
def PrL (ks ls:List Tm):Prop:=ks.length=ls.length/\∀i,Pr (aI ks i) (aI ls i)
theorem PrL.of {ks ls:List Tm}(h:ks.length=ls.length)(hk:∀i,i<ks.length->Pr (aI ks i) (aI ls i)):PrL ks ls:=⟨h,λi=>by
 by_cases hi:i<ks.length
 ·exact hk i hi
 ·rw [fP Ac,fP Ac];exact .refl _⟩
theorem PrL.node {ks ls:List Tm}(k n:Int)(h:PrL ks ls):Pr (.mk k n ks) (.mk k n ls):=.node h.1 λi _=>h.2 i
theorem PrL.red {ks ls:List Tm}{k:Int}(n:Int)(hr:rdx k ks≠0)(h:PrL ks ls):Pr (.mk k n ks) (eF (.mk k n ls)):=.red hr h.1 λi _=>h.2 i
theorem PrL.refl (ks:List Tm):PrL ks ks:=⟨rfl,λi=>.refl _⟩
theorem uS {k:Int}{ks:List Tm}(h:rdx k ks≠0):k=5\/k=9\/k=12\/k=15\/k=16:=by
 rcases fC h with h|h|h|h|h|h<;>omega
theorem Pr.stay {t u:Tm}(h:Pr t u)(hk:¬(t.k=5\/t.k=9\/t.k=12\/t.k=15\/t.k=16)):u.k=t.k/\u.n=t.n/\PrL t.ks u.ks:=by
 cases h with
 | node h1 h2=>exact ⟨rfl,rfl,PrL.of h1 h2⟩
 | red hr _ _=>exact absurd (uS hr) hk
theorem PrL.rdx {k:Int}{ks ls:List Tm}(h:PrL ks ls)(hr:rdx k ks≠0):rdx k ls=rdx k ks:=by
 have hs:∀i (m:Int),gN ks i=m->(m=4\/m=7\/m=8\/m=11\/m=14)->gN ls i=m:=λi m e hm=>by
  have h1:=((h.2 i).stay (by have:(aI ks i).k=m:=e;omega)).1;exact h1.trans e
 rcases fC hr with ⟨h1,rfl,h2⟩|⟨h1,rfl,h2⟩|⟨h1,rfl,h2⟩|⟨h1,rfl,h2⟩|⟨h1,rfl,h2⟩|⟨h1,rfl,h2⟩<;>
  (have h3 := hs _ _ h2 Ah; unfold Go.Proofs.YtjlaenhcemacdaaGreat.rdx; simp [h2, h3])
theorem Pr.sh {t u:Tm}(h:Pr t u){b:Int}(hb:0<=b):∀{c:Int},0<=c->Pr (bR b c t) (bR b c u):=by
 induction h with
 | @node k n ks ls hl hk ih=>
  intro c hc;rw [bR,bR];refine (PrL.of (by rw [cT,cT];exact hl) λi hi=>?_).node k _;rw [cT] at hi;rw [nW,nW];exact ih i hi (by have:=dA k i;omega)
 | @red k n ks ls hr hl hk ih=>
  intro c hc;have hP:PrL ks ls:=PrL.of hl hk;have h1:k≠1:=by have:=uS hr;omega
  rw [aQf hb hc (by rw [hP.rdx hr];exact hr),eQ h1,eQ h1];refine (PrL.of (by rw [cT,cT];exact hl) λi hi=>?_).red n (by rw [aCg];exact hr);rw [cT] at hi;rw [nW,nW];exact ih i hi (by have:=dA k i;omega)
theorem Pr.sb {t t' u u':Tm}(h:Pr t t')(hu:Pr u u'):∀{x d:Int},0<=d->d<=x->Pr (bT u x d t) (bT u' x d t'):=by
 induction h with
 | @node k n ks ls hl hk ih=>
  intro x d hd hx;have hP:PrL (cE u k x d 0 ks) (cE u' k x d 0 ls):=PrL.of (by rw [dQ,dQ];exact hl) λi hi=>by
   rw [dQ] at hi;rw [oS,oS];have:=dA k i;exact ih i hi Ac Ac
  rw [bT,bT];by_cases h1:k=1/\n=x
  ·rw [Av h1,Av h1];exact hu.sh hd Ac
  ·rw [Aw h1,Aw h1];exact hP.node k _
 | @red k n ks ls hr hl hk ih=>
  intro x d hd hx;have hP:PrL ks ls:=PrL.of hl hk;have h1:k≠1:=by have:=uS hr;omega
  rw [aQd hd hx (by rw [hP.rdx hr];exact hr),mN h1,mN h1];refine (PrL.of (by rw [dQ,dQ];exact hl) λi hi=>?_).red n (by rw [aHf hr];exact hr);rw [dQ] at hi;rw [oS,oS];have:=dA k i;exact ih i hi Ac Ac
theorem aWf {a b a' b':Tm}(h1:Pr a a')(h2:Pr b b'):PrL [a,b] [a',b']:=PrL.of rfl λi hi=>by
 have:i=0\/i=1:=by have:i<2:=hi;omega
 rcases this with rfl|rfl
 ·exact h1
 ·exact h2
theorem aXt {a b c e a' b' c' e':Tm}(h1:Pr a a')(h2:Pr b b')(h3:Pr c c')(h4:Pr e e'):PrL [a,b,c,e] [a',b',c',e']:=PrL.of rfl λi hi=>by
 have:i=0\/i=1\/i=2\/i=3:=by have:i<4:=hi;omega
 rcases this with rfl|rfl|rfl|rfl
 ·exact h1
 ·exact h2
 ·exact h3
 ·exact h4
theorem PrL.ctr {k n:Int}{ls ms:List Tm}(h:PrL ls ms)(hr:Go.Proofs.YtjlaenhcemacdaaGreat.rdx k ls≠0):Pr (eF (.mk k n ls)) (eF (.mk k n ms)):=by
 have hm:=h.rdx hr;have hin:∀i j (m:Int),gN ls i=m->(m=4\/m=7\/m=8\/m=11\/m=14)->Pr (aI (aI ls i).ks j) (aI (aI ms i).ks j):=λi j m e hm=>((h.2 i).stay (by have:(aI ls i).k=m:=e;omega)).2.2.2 j
 rcases fC hr with ⟨h1,rfl,h2⟩|⟨h1,rfl,h2⟩|⟨h1,rfl,h2⟩|⟨h1,rfl,h2⟩|⟨h1,rfl,h2⟩|⟨h1,rfl,h2⟩
 ·rw [nY h1,nY (hm.trans h1)];exact (hin 0 1 4 h2 Ah).sb (h.2 1) Ah Ah
 ·rw [oQ h1,oQ (hm.trans h1)];exact h.2 1
 ·rw [pC h1,pC (hm.trans h1)];have h3:=hin 3 0 8 h2 Ah;exact (aWf ((aWf (h.2 2) h3).node 5 0) ((aXt (h.2 0) (h.2 1) (h.2 2) h3).node 9 0)).node 5 0
 ·rw [oK h1,oK (hm.trans h1)];exact h.2 2
 ·rw [oW h1,oW (hm.trans h1)];exact hin 0 1 14 h2 Ah
 ·rw [oT h1,oT (hm.trans h1)];exact hin 0 2 14 h2 Ah
mutual
def dv:Tm->Tm
 | .mk k n ks=>if rdx k ks=0 then .mk k n (dvL ks) else eF (.mk k n (dvL ks))
def dvL:List Tm->List Tm
 | []=>[]
 | t::ts=>dv t::dvL ts
end
theorem rS:∀ks,(dvL ks).length=ks.length
 | []=>rfl
 | t::ts=>by rw [dvL,List.length_cons,List.length_cons,rS ts]
theorem aBw:∀(ks:List Tm) (i:Nat),i<ks.length->aI (dvL ks) i=dv (aI ks i)
 | t::ts,0,_=>by rw [dvL];rfl
 | t::ts,i+1,h=>by rw [dvL,iI,iI];exact aBw ts i (by simpa using h)
theorem Pr.dev {t u:Tm}(h:Pr t u):Pr u (dv t):=by
 induction h with
 | @node k n ks ls hl hk ih=>
  have hP:PrL ks ls:=PrL.of hl hk;have hQ:PrL ls (dvL ks):=PrL.of (by rw [rS];exact hl.symm) λi hi=>by rw [aBw _ _ Ac];exact ih i Ac
  rw [dv];by_cases h0:Go.Proofs.YtjlaenhcemacdaaGreat.rdx k ks=0
  ·rw [Av h0];exact hQ.node k n
  ·rw [Aw h0];exact hQ.red n (by rw [hP.rdx h0];exact h0)
 | @red k n ks ls hr hl hk ih=>
  have hP:PrL ks ls:=PrL.of hl hk;have hQ:PrL ls (dvL ks):=PrL.of (by rw [rS];exact hl.symm) λi hi=>by rw [aBw _ _ Ac];exact ih i Ac
  rw [dv,Aw hr];exact hQ.ctr (by rw [hP.rdx hr];exact hr)
inductive Ps:Tm->Tm->Prop
 | refl (t:Tm):Ps t t
 | step {t u v:Tm}:Pr t u->Ps u v->Ps t v
theorem Ps.trans {t u v:Tm}(h:Ps t u)(h2:Ps u v):Ps t v:=by
 induction h with
 | refl t=>exact h2
 | step h1 _ ih=>exact .step h1 (ih h2)
theorem aWr {t u v:Tm}(h:Pr t u)(h2:Ps t v):∃w,Ps u w/\Pr v w:=by
 induction h2 generalizing u with
 | refl t=>exact ⟨u,.refl _,h⟩
 | @step t a b h1 h2 ih=>
  obtain ⟨w,h3,h4⟩:=ih h1.dev;exact ⟨w,.step h.dev h3,h4⟩
theorem aXi {t u v:Tm}(h:Ps t u)(h2:Ps t v):∃w,Ps u w/\Ps v w:=by
 induction h generalizing v with
 | refl t=>exact ⟨v,h2,.refl _⟩
 | @step t a b h1 h3 ih=>
  obtain ⟨w,h4,h5⟩:=aWr h1 h2;obtain ⟨z,h6,h7⟩:=ih h4;exact ⟨z,h6,.step h5 h7⟩
def Mt (a b:Tm):Prop:=∃c,Ps a c/\Ps b c
theorem Mt.refl (a:Tm):Mt a a:=⟨a,.refl _,.refl _⟩
theorem Mt.symm {a b:Tm}(h:Mt a b):Mt b a:=by obtain ⟨c,h1,h2⟩:=h;exact ⟨c,h2,h1⟩
theorem Mt.trans {a b c:Tm}(h:Mt a b)(h2:Mt b c):Mt a c:=by
 obtain ⟨x,h3,h4⟩:=h;obtain ⟨y,h5,h6⟩:=h2;obtain ⟨z,h7,h8⟩:=aXi h4 h5;exact ⟨z,h3.trans h7,h6.trans h8⟩
theorem Ps.mt {a b:Tm}(h:Ps a b):Mt a b:=⟨b,h,.refl _⟩
theorem Ps.sb {t t':Tm}(h:Ps t t')(u:Tm):Ps (bT u 0 0 t) (bT u 0 0 t'):=by
 induction h with
 | refl t=>exact .refl _
 | step h1 _ ih=>exact .step (h1.sb (.refl u) Ah Ah) ih
theorem Mt.sb {a b:Tm}(h:Mt a b)(u:Tm):Mt (bT u 0 0 a) (bT u 0 0 b):=by obtain ⟨c,h1,h2⟩:=h;exact ⟨_,h1.sb u,h2.sb u⟩
theorem step_pr:(∀(t u:Tm),eA t=some u->Pr t u)/\∀(ts us:List Tm),gO ts=some us->PrL ts us:=by
 refine bA (λk n ks ih u h=>?_) (λus h=>?_) (λt ts h1 h2 us h=>?_)
 ·rw [eA] at h;by_cases h0:rdx k ks=0
  ·rw [Av h0] at h;cases hs:gO ks with
   | none=>rw [hs] at h;cases h
   | some ls=>
    rw [hs] at h;obtain rfl:=Option.some.inj h;exact (ih ls hs).node k n
  ·rw [Aw h0] at h;obtain rfl:=Option.some.inj h;exact (PrL.refl ks).red n h0
 ·rw [gO] at h;cases h
 ·rw [gO] at h;cases hs:eA t with
  | some u=>
   rw [hs] at h;obtain rfl:=Option.some.inj h;refine PrL.of rfl λi hi=>?_
   cases i with
   | zero=>exact h1 u hs
   | succ i=>exact .refl _
  | none=>
   rw [hs] at h;simp only at h;cases hs2:gO ts with
   | none=>rw [hs2] at h;cases h
   | some vs=>
    rw [hs2] at h;obtain rfl:=Option.some.inj h;have h3:=h2 vs hs2;refine PrL.of (by simp [h3.1]) λi hi=>?_
    cases i with
    | zero=>exact .refl _
    | succ i=>exact h3.2 i
theorem aCy:∀(f:Nat) (t x:Tm) (c:Int),fQ f t=(some x,c)->Ps t x/\eA x=none
 | f,t,x,c,h=>by
  rw [fQ] at h;cases hs:eA t with
  | none=>
   rw [hs] at h;injection h with h _;obtain rfl:=Option.some.inj h;exact ⟨.refl _,hs⟩
  | some t'=>
   rw [hs] at h;cases f with
   | zero=>injection h with h _;cases h
   | succ f=>
    simp only at h;split at h
    ·obtain ⟨h1,h2⟩:=aCy f t' x c h;exact ⟨.step (step_pr.1 t t' hs) h1,h2⟩
    ·injection h with h _;cases h
theorem zL:∀(f:Nat) (t:Tm),(∃x,fQ f t=(some x,0))\/∃c,fQ f t=(none,c)/\c≠0
 | f,t=>by
  rw [fQ];cases hs:eA t with
  | none=>exact .inl ⟨t,rfl⟩
  | some t'=>
   cases f with
   | zero=>exact .inr ⟨1,rfl,by decide⟩
   | succ f=>
    simp only;by_cases h:aE t'=true
    ·rw [Av h];exact zL f t'
    ·rw [Aw h];exact .inr ⟨2,rfl,by decide⟩
theorem aEg {f:Nat}{t:Tm}(h:(fQ f t).2=0):∃x,fQ f t=(some x,0):=by
 rcases zL f t with h1|⟨c,h1,h2⟩
 ·exact h1
 ·rw [h1] at h;exact absurd h h2
theorem aKy {a b:Tm}(ha:aE a=true)(hb:aE b=true)(h:dJ 200 a b=1):Mt a b:=by
 rw [dJ,<- nB 200 a ha,<- nB 200 b hb] at h;split at h
 ·rename_i he;rw [tmEq_iff.1 he];exact .refl _
 ·split at h
  ·cases h
  ·rename_i h1 h2;obtain ⟨x,hx⟩:=aEg (Classical.byContradiction λh=>h2 (.inl h));obtain ⟨y,hy⟩:=aEg (Classical.byContradiction λh=>h2 (.inr h));rw [hx,hy] at h;split at h
   ·rename_i he;have:=tmEq_iff.1 he;change x=y at this;subst this;exact ⟨x,(aCy _ _ _ _ hx).1,(aCy _ _ _ _ hy).1⟩
   ·cases h
theorem aNt {k:Int}{ks ls:List Tm}(h:gN ls (bF k).toNat=gN ks (bF k).toNat):rdx k ls=rdx k ks:=by
 unfold rdx;by_cases h5:k=5
 ·subst h5;rw [show (bF 5).toNat=0 from rfl] at h;rw [h];simp
 ·by_cases h9:k=9
  ·subst h9;rw [show (bF 9).toNat=3 from rfl] at h;rw [h];simp
  ·by_cases h12:k=12
   ·subst h12;rw [show (bF 12).toNat=1 from rfl] at h;rw [h];simp
   ·by_cases h15:k=15
    ·subst h15;rw [show (bF 15).toNat=0 from rfl] at h;rw [h];simp
    ·by_cases h16:k=16
     ·subst h16;rw [show (bF 16).toNat=0 from rfl] at h;rw [h];simp
     ·simp only [h5,h9,h12,h15,h16,if_false]
theorem cO {ks:List Tm}{i:Nat}(h:i<ks.length):aI ks i=ks[i]:=by simp [aI,List.getD,sE h]
theorem aNz {ks:List Tm}{j:Nat}(hj:j<ks.length)(h:xP j ks=none):cH (aI ks j)=none:=by
 rw [oO ks j hj] at h;rw [cO hj];cases hs:cH ks[j] with
 | none=>rfl
 | some _=>rw [hs] at h;cases h
theorem aMn:∀(t u:Tm),cH t=none->Pr t u->u.k=t.k/\cH u=none/\PrL t.ks u.ks:=by
 refine jG λk n ks ih u h hp=>?_
 rw [cH] at h;by_cases h0:rdx k ks=0
 ·rw [Av h0] at h;cases hp with
  | red a b c=>exact absurd h0 a
  | @node _ _ _ ls hl hk=>
   have hP:=PrL.of hl hk;by_cases hm:bF k<0
   ·refine ⟨rfl,?_,hP⟩;have:rdx k ls=0:=aCv ls λhk=>by
     unfold bF at hm;rcases hk with rfl|rfl|rfl|rfl|rfl<;>simp at hm
    rw [cH,Av this,Av hm]
   ·rw [Aw hm] at h;have hL:xP (bF k).toNat ks=none:=by cases hs:xP (bF k).toNat ks with|none=>rfl|some _=>rw [hs] at h;cases h
    have hk2:gN ls (bF k).toNat=gN ks (bF k).toNat/\xP (bF k).toNat ls=none:=by
     by_cases hj:(bF k).toNat<ks.length
     ·obtain ⟨h1,h2,_⟩:=ih _ (fG hj) _ (aNz hj hL) (hP.2 _);refine ⟨h1,?_⟩;rw [oO ls _ Ac,<- cO Ac,h2];rfl
     ·refine ⟨?_,(eR ls _ Ac).2⟩;rw [mG,mG,fP Ac,fP Ac]
    refine ⟨rfl,?_,hP⟩;rw [cH,Av ((aNt hk2.1).trans h0),Aw hm,hk2.2];rfl
 ·rw [Aw h0] at h;cases h
theorem aNb {t u:Tm}(h:Ps t u):cH t=none->u.k=t.k/\∀i,Ps (aI t.ks i) (aI u.ks i):=by
 induction h with
 | refl t=>exact λ_=>⟨rfl,λi=>.refl _⟩
 | @step t u v h1 _ ih=>
  intro h;obtain ⟨h2,h3,h4⟩:=aMn _ _ h h1;obtain ⟨h5,h6⟩:=ih h3;exact ⟨h5.trans h2,λi=>.step (h4.2 i) (h6 i)⟩
theorem aMr:∀(t u:Tm),cH t=some u->Pr t u:=by
 refine jG λk n ks ih u h=>?_
 rw [cH] at h;by_cases h0:rdx k ks=0
 ·rw [Av h0] at h;split at h
  ·cases h
  ·cases hs:xP (bF k).toNat ks with
   | none=>rw [hs] at h;cases h
   | some ls=>
    rw [hs] at h;obtain rfl:=Option.some.inj h;have hj:(bF k).toNat<ks.length:=Classical.byContradiction λhn=>by rw [(eR ks _ Ac).2] at hs;cases hs
    rw [oO ks _ hj] at hs;cases hv:cH ks[(bF k).toNat] with
    | none=>rw [hv] at hs;cases hs
    | some v=>
     rw [hv] at hs;obtain rfl:=Option.some.inj hs;refine (PrL.of Ag λi hi=>?_).node k n;by_cases hij:i=(bF k).toNat
     ·subst hij;rw [cO hj,cO (by simpa using hj),List.getElem_set_self];exact ih _ (gM hj) v hv
     ·rw [cO hi,cO (by simpa using hi),List.getElem_set_ne (λh=>hij h.symm)];exact .refl _
 ·rw [Aw h0] at h;obtain rfl:=Option.some.inj h;exact (PrL.refl ks).red n h0
theorem aNq {N:Nat}(ih:oF N)(ctx:List Tm)(C:Ba)(cc:Nat)(k n:Int)(A:Ba)(c:Nat)(ka na:Int)(sa:List Tm)(kb nb:Int)(sb:List Tm)(r:Rs Tm)(w:Bb)(hs:aKl (bE N) ctx (.mk ka na sa) (.mk kb nb sb)=some r)(hva:aE (.mk ka na sa)=true)(hvb:aE (.mk kb nb sb)=true)(hvc:∀u,u∈ctx->aE u=true)(hm:ctx.length<=20)(hrc:Rd w C 0 ctx)(hr:Rd w A 0 [.mk ka na sa,.mk kb nb sb]) :
  Calls prog 120 #[.slice C ctx.length cc,.agg (Ro k n A 2 c)] w (pP w r):=by
 obtain ⟨bk,ok,Aa,ca,rfl,a1,a2,a3,hla,ra⟩:=mU hr;obtain ⟨Ab,cb,b1,b2,b3,hlb,rb⟩:=sB hr;simp only [Nat.zero_mul,Nat.add_zero,Nat.one_mul,Nat.reduceMul] at a1 a2 a3 b1 b2 b3;have lbp:=kF _ _ a1;rcases aM hs with ⟨b,h1,rfl⟩|⟨li,h1,hs⟩
 ·have hS1:=aD (λ(w:Bb) (hrc:Rd w C 0 ctx) (hra:Rd w Aa 0 sa)=>eE ih ctx C cc ka na sa Aa ca _ w h1 hva hvc Ac hrc hra);have qb:=eV b;clear hs h1 hva hvb hvc ih;go_enter func120,ntmps120;go_wp2_with (go_at_call 43;refine (hS1.out _ ((hrc.alloc _).alloc _) ((ra.alloc _).alloc _)).mono ?_;rintro e w1 ⟨l1,rfl,hb1⟩;have hTw1:Blk w1 w.heap.size (Ro k n (some ⟨bk,ok,none⟩) 2 c):=((aC w 32 (Ro k n (some ⟨bk,ok,none⟩) 2 c) rfl).alloc _).keep hb1;have hZw1:Blk w1 (w.heap.size+1) Zr:=(aC _ 32 Zr Ag).keep hb1;have kww1:Bw w w1:=bN bw2 hb1;obtain ⟨d0,d1,d2,e0,e1,e2,lz⟩:=dN hZw1);refine bodyPost_ret (v:=.tuple #[.agg Zr,.int .i64 (dB b)]) (by simp [results,results120,go_sem,d0,d1,d2]) rfl ⟨0,0,none,0,0,rfl,?_⟩;exact ((kww1.setCell Al _).setCell Al _).setCell Al _
 ·have hS1:=aD (λ(w:Bb) (hrc:Rd w C 0 ctx) (hra:Rd w Aa 0 sa)=>eE ih ctx C cc ka na sa Aa ca _ w h1 hva hvc Ac hrc hra);rcases aM hs with ⟨b,h2,rfl⟩|⟨⟨k1,n1,s1⟩,h2,hs⟩
  ·obtain ⟨cx,hcx⟩:∃cx,ctx++[.mk ka na sa]=cx:=⟨_,rfl⟩;have hP:=aD (show ∀(w:Bb) (hrc:Rd w C 0 ctx) (hra:Rd w Aa 0 sa),Calls prog 91 #[.slice C ctx.length cc,.agg (Ro ka na Aa sa.length ca)] w (aAg w cx) from λw hrc hra=>by rw [<- hcx];exact nF ctx C cc ka na sa Aa ca w Ac hla hrc hra);have hcl:cx.length<=21:=(by rw [<- hcx];simp;omega);have hcv:∀u,u∈cx->aE u=true:=(by rw [<- hcx];exact λu hu=>(List.mem_append.1 hu).elim (hvc u) (λh=>by rw [List.mem_singleton.1 h];exact hva));rw [hcx] at h2;clear hcx;have hI:=aD (λ(D:Ba) (d:Nat) (w:Bb) (hrD:Rd w D 0 cx) (hrb:Rd w Ab 0 sb)=>gtz (ih cx kb nb sb _ h2 hvb hcv hcl D d Ab cb w hrD hrb));have qb:=eV b;clear hs h1 h2 hva hvb hvc ih hcv;go_enter func120,ntmps120;go_upto_region 4 with (go_at_call 43;refine (hS1.out _ ((hrc.alloc _).alloc _) ((ra.alloc _).alloc _)).mono ?_;rintro e w1 ⟨rfl,hb1⟩;have hTw1:Blk w1 w.heap.size (Ro k n (some ⟨bk,ok,none⟩) 2 c):=((aC w 32 (Ro k n (some ⟨bk,ok,none⟩) 2 c) rfl).alloc _).keep hb1;have hZw1:Blk w1 (w.heap.size+1) Zr:=(aC _ 32 Zr Ag).keep hb1;have kww1:Bw w w1:=bN bw2 hb1)
   refine uH hTw1 hZw1 kww1 ?_;intro wx hTwx hZwx kwwx;have v2:=aF hTwx.three.2.2;obtain ⟨ua1,ua2,ua3⟩:=fR kwwx a1 a2 a3;obtain ⟨ub1,ub2,ub3⟩:=fR kwwx b1 b2 b3;go_cut [8,9] (λvp vc wy=>∃(gz:Nat),vp = .pointer (some ⟨gz,0,none⟩)/\vc = .int .i64 (dB b)/\Bw wx wy)
   case first=>
    refine eK wx [11,12,13,15,16] [0,1,2,3,4,6,7,8,9] 17 8 (lT:=[_,_,_,_,_,_,_,_,_]) ?_;intro q0 bq0;refine bU (aD ?_);refine mW 5 14 ?_ ?_
    ·go_wp2_with (go_at_call 91;refine (hP.out _ ((hrc.below kwwx).below bq0) ((ra.below kwwx).below bq0)).mono ?_;rintro e q1 ⟨D,d,rfl,rDq1,hbq1⟩);refine aV bq0 hbq1 ?_;intro bq1 lq1;refine mW 10 14 ?_ ?_
     ·go_wp2_with (go_at_call 74;refine (hI.out _ _ _ rDq1 ((rb.below kwwx).below bq1)).mono ?_;rintro e q2 ⟨k1,n1,A1,l1,c1,rfl,hbq2⟩);have Dq2:=rDq1.below hbq2;refine aV bq1 hbq2 ?_;intro bq2 lq2;refine fB [11,12,13] 3 (lT:=[_,_,_]) ?_;refine bU (aD ?_);refine aZ 14 ?_
      ·go_wp2_with fail;refine aL ?_;intro q3 hn;have hbq3:Bw q2 q3:=by rw [hn];exact bw1
       have zq3:Blk q3 q2.heap.size Zr:=by rw [hn];exact aC _ 32 _ rfl
       have seq3:q2.heap.size<q3.heap.size:=by rw [hn];simp
       clear hn;have Dq3:=Dq2.below hbq3;refine aV bq2 hbq3 ?_;intro bq3 lq3;refine cK [15,16] (lB:=[_,_]) ?_;refine gS (aD ?_);obtain ⟨d0,d1,d2,e0,e1,e2⟩:=bZ zq3;have szb:wx.heap.size<=q2.heap.size:=bq2.size;go_wp2_with fail;go_meet
       exact ⟨q2.heap.size,rfl,rfl,((bq3.setCell szb _).setCell szb _).setCell szb _⟩
     ·go_wp2_with fail;refine aL ?_;intro q4 hn;have hbq4:Bw q1 q4:=by rw [hn];exact bw1
      have zq4:Blk q4 q1.heap.size Zr:=by rw [hn];exact aC _ 32 _ rfl
      have seq4:q1.heap.size<q4.heap.size:=by rw [hn];simp
      clear hn;have Dq4:=rDq1.below hbq4;refine aV bq1 hbq4 ?_;intro bq4 lq4;refine aZ 10 ?_
      ·go_wp2_with (go_at_call 74;refine (hI.out _ _ _ Dq4 ((rb.below kwwx).below bq4)).mono ?_;rintro e q5 ⟨k1,n1,A1,l1,c1,rfl,hbq5⟩);have Dq5:=Dq4.below hbq5;have Zq5:=zq4.keep hbq5;refine aV bq4 hbq5 ?_;intro bq5 lq5;refine fB [11,12,13] 2 (lT:=[_,_,_]) ?_;refine bU (aD ?_);refine cK [15,16] (lB:=[_,_]) ?_;refine gS (aD ?_);obtain ⟨d0,d1,d2,e0,e1,e2⟩:=bZ Zq5;have szb:wx.heap.size<=q1.heap.size:=bq1.size;go_wp2_with fail;go_meet
       exact ⟨q1.heap.size,rfl,rfl,((bq5.setCell szb _).setCell szb _).setCell szb _⟩
    ·go_wp2_with fail;refine aL ?_;intro q6 hn;have hbq6:Bw q0 q6:=by rw [hn];exact bw1
     have zq6:Blk q6 q0.heap.size Zr:=by rw [hn];exact aC _ 32 _ rfl
     have seq6:q0.heap.size<q6.heap.size:=by rw [hn];simp
     clear hn;refine aV bq0 hbq6 ?_;intro bq6 lq6;refine aZ 5 ?_
     ·go_wp2_with (go_at_call 91;refine (hP.out _ ((hrc.below kwwx).below bq6) ((ra.below kwwx).below bq6)).mono ?_;rintro e q7 ⟨D,d,rfl,rDq7,hbq7⟩);have Zq7:=zq6.keep hbq7;refine aV bq6 hbq7 ?_;intro bq7 lq7;refine aZ 10 ?_
      ·go_wp2_with (go_at_call 74;refine (hI.out _ _ _ rDq7 ((rb.below kwwx).below bq7)).mono ?_;rintro e q8 ⟨k1,n1,A1,l1,c1,rfl,hbq8⟩);have Zq8:=Zq7.keep hbq8;have Dq8:=rDq7.below hbq8;refine aV bq7 hbq8 ?_;intro bq8 lq8;refine fB [11,12,13] 2 (lT:=[_,_,_]) ?_;refine bU (aD ?_);refine cK [15,16] (lB:=[_,_]) ?_;refine gS (aD ?_);obtain ⟨d0,d1,d2,e0,e1,e2⟩:=bZ Zq8;have szb:wx.heap.size<=q0.heap.size:=bq0.size;go_wp2_with fail;go_meet
       exact ⟨q0.heap.size,rfl,rfl,((bq8.setCell szb _).setCell szb _).setCell szb _⟩
   case rest=>
    obtain ⟨gz,rfl,rfl,hxy⟩:=hcut;have hZy:=hZwx.keep hxy;have gy:=kwwx.trans (hxy.mono kwwx.size);obtain ⟨d0,d1,d2,e0,e1,e2,lz⟩:=dN hZy;go_wp2_with fail;refine bodyPost_ret (v:=.tuple #[.agg Zr,.int .i64 (dB b)]) (by simp [results,results120,go_sem,d0,d1,d2]) rfl ⟨0,0,none,0,0,rfl,?_⟩;exact ((gy.setCell Al _).setCell Al _).setCell Al _
  ·obtain ⟨cx,hcx⟩:∃cx,ctx++[.mk ka na sa]=cx:=⟨_,rfl⟩;have hP:=aD (show ∀(w:Bb) (hrc:Rd w C 0 ctx) (hra:Rd w Aa 0 sa),Calls prog 91 #[.slice C ctx.length cc,.agg (Ro ka na Aa sa.length ca)] w (aAg w cx) from λw hrc hra=>by rw [<- hcx];exact nF ctx C cc ka na sa Aa ca w Ac hla hrc hra);have hcl:cx.length<=21:=(by rw [<- hcx];simp;omega);have hcv:∀u,u∈cx->aE u=true:=(by rw [<- hcx];exact λu hu=>(List.mem_append.1 hu).elim (hvc u) (λh=>by rw [List.mem_singleton.1 h];exact hva));rw [hcx] at h2;clear hcx;have hI:=aD (λ(D:Ba) (d:Nat) (w:Bb) (hrD:Rd w D 0 cx) (hrb:Rd w Ab 0 sb)=>gtz (ih cx kb nb sb _ h2 hvb hcv hcl D d Ab cb w hrD hrb));have hv1:=aD (dD h2);have hvl:=aD (show ∀t,t∈[Tm.mk ka na sa,Tm.mk k1 n1 s1]->aE t=true from λt ht=>by
    have hd:=dD h2;rcases List.mem_cons.1 ht with rfl|ht
    ·exact hva
    ·rw [List.mem_singleton.1 ht];exact hd)
   rcases aM hs with ⟨b,h3,rfl⟩|⟨⟨k8,n8,s8⟩,h3,hs⟩
   ·have hB:=aD (λ(A:Ba) (c:Nat) (w:Bb) (hrc:Rd w C 0 ctx) (hr:Rd w A 0 [.mk ka na sa,.mk k1 n1 s1])=>sA ih ctx C cc 3 0 A c ka na sa k1 n1 s1 _ w h3 hva (dD h2) hvc hm hrc hr);clear hs h1 h2 h3 hva hvb hvc ih hcv;go_enter func120,ntmps120;go_upto_region 4 with (go_at_call 43;refine (hS1.out _ ((hrc.alloc _).alloc _) ((ra.alloc _).alloc _)).mono ?_;rintro e w1 ⟨rfl,hb1⟩;have hTw1:Blk w1 w.heap.size (Ro k n (some ⟨bk,ok,none⟩) 2 c):=((aC w 32 (Ro k n (some ⟨bk,ok,none⟩) 2 c) rfl).alloc _).keep hb1;have hZw1:Blk w1 (w.heap.size+1) Zr:=(aC _ 32 Zr Ag).keep hb1;have kww1:Bw w w1:=bN bw2 hb1)
    refine uH hTw1 hZw1 kww1 ?_;intro wx hTwx hZwx kwwx;have v2:=aF hTwx.three.2.2;obtain ⟨ua1,ua2,ua3⟩:=fR kwwx a1 a2 a3;obtain ⟨ub1,ub2,ub3⟩:=fR kwwx b1 b2 b3;go_cut [8,9] (λvp vc wy=>∃(gz:Nat) (Az:Ba) (cz:Nat),vp = .pointer (some ⟨gz,0,none⟩)/\vc = .int .i64 0/\s1.length<=9223372036854775807/\Blk wy gz (Ro k1 n1 Az s1.length cz)/\Rd wy Az 0 s1/\Bw wx wy/\wx.heap.size<=gz)
    case first=>
     refine eK wx [11,12,13,15,16] [0,1,2,3,4,6,7,8,9] 17 8 (lT:=[_,_,_,_,_,_,_,_,_]) ?_;intro q0 bq0;refine bU (aD ?_);refine mW 5 14 ?_ ?_
     ·go_wp2_with (go_at_call 91;refine (hP.out _ ((hrc.below kwwx).below bq0) ((ra.below kwwx).below bq0)).mono ?_;rintro e q1 ⟨D,d,rfl,rDq1,hbq1⟩);refine aV bq0 hbq1 ?_;intro bq1 lq1;refine mW 10 14 ?_ ?_
      ·go_wp2_with (go_at_call 74;refine (hI.out _ _ _ rDq1 ((rb.below kwwx).below bq1)).mono ?_;rintro e q2 ⟨A1,c1,rfl,hl1,rUq2,hbq2⟩);have Dq2:=rDq1.below hbq2;refine aV bq1 hbq2 ?_;intro bq2 lq2;refine fB [11,12,13] 3 (lT:=[_,_,_]) ?_;refine bU (aD ?_);refine aZ 14 ?_
       ·go_wp2_with fail;refine aL ?_;intro q3 hn;have hbq3:Bw q2 q3:=by rw [hn];exact bw1
        have zq3:Blk q3 q2.heap.size Zr:=by rw [hn];exact aC _ 32 _ rfl
        have seq3:q2.heap.size<q3.heap.size:=by rw [hn];simp
        clear hn;have Dq3:=Dq2.below hbq3;have Uq3:=rUq2.below hbq3;refine aV bq2 hbq3 ?_;intro bq3 lq3;refine cK [15,16] (lB:=[_,_]) ?_;refine gS (aD ?_);obtain ⟨d0,d1,d2,e0,e1,e2⟩:=bZ zq3;have szb:wx.heap.size<=q2.heap.size:=bq2.size;go_wp2_with fail;go_meet
        exact ⟨q2.heap.size,A1,c1,rfl,rfl,hl1,((zq3.set_ 0 _).set_ 1 _).set_ 2 _,iX zq3 hv1.out Uq3 _ _ _,((bq3.setCell szb _).setCell szb _).setCell szb _,szb⟩
      ·go_wp2_with fail;refine aL ?_;intro q4 hn;have hbq4:Bw q1 q4:=by rw [hn];exact bw1
       have zq4:Blk q4 q1.heap.size Zr:=by rw [hn];exact aC _ 32 _ rfl
       have seq4:q1.heap.size<q4.heap.size:=by rw [hn];simp
       clear hn;have Dq4:=rDq1.below hbq4;refine aV bq1 hbq4 ?_;intro bq4 lq4;refine aZ 10 ?_
       ·go_wp2_with (go_at_call 74;refine (hI.out _ _ _ Dq4 ((rb.below kwwx).below bq4)).mono ?_;rintro e q5 ⟨A1,c1,rfl,hl1,rUq5,hbq5⟩);have Dq5:=Dq4.below hbq5;have Zq5:=zq4.keep hbq5;refine aV bq4 hbq5 ?_;intro bq5 lq5;refine fB [11,12,13] 2 (lT:=[_,_,_]) ?_;refine bU (aD ?_);refine cK [15,16] (lB:=[_,_]) ?_;refine gS (aD ?_);obtain ⟨d0,d1,d2,e0,e1,e2⟩:=bZ Zq5;have szb:wx.heap.size<=q1.heap.size:=bq1.size;go_wp2_with fail;go_meet
        exact ⟨q1.heap.size,A1,c1,rfl,rfl,hl1,((Zq5.set_ 0 _).set_ 1 _).set_ 2 _,iX Zq5 hv1.out rUq5 _ _ _,((bq5.setCell szb _).setCell szb _).setCell szb _,szb⟩
     ·go_wp2_with fail;refine aL ?_;intro q6 hn;have hbq6:Bw q0 q6:=by rw [hn];exact bw1
      have zq6:Blk q6 q0.heap.size Zr:=by rw [hn];exact aC _ 32 _ rfl
      have seq6:q0.heap.size<q6.heap.size:=by rw [hn];simp
      clear hn;refine aV bq0 hbq6 ?_;intro bq6 lq6;refine aZ 5 ?_
      ·go_wp2_with (go_at_call 91;refine (hP.out _ ((hrc.below kwwx).below bq6) ((ra.below kwwx).below bq6)).mono ?_;rintro e q7 ⟨D,d,rfl,rDq7,hbq7⟩);have Zq7:=zq6.keep hbq7;refine aV bq6 hbq7 ?_;intro bq7 lq7;refine aZ 10 ?_
       ·go_wp2_with (go_at_call 74;refine (hI.out _ _ _ rDq7 ((rb.below kwwx).below bq7)).mono ?_;rintro e q8 ⟨A1,c1,rfl,hl1,rUq8,hbq8⟩);have Zq8:=Zq7.keep hbq8;have Dq8:=rDq7.below hbq8;refine aV bq7 hbq8 ?_;intro bq8 lq8;refine fB [11,12,13] 2 (lT:=[_,_,_]) ?_;refine bU (aD ?_);refine cK [15,16] (lB:=[_,_]) ?_;refine gS (aD ?_);obtain ⟨d0,d1,d2,e0,e1,e2⟩:=bZ Zq8;have szb:wx.heap.size<=q0.heap.size:=bq0.size;go_wp2_with fail;go_meet
        exact ⟨q0.heap.size,A1,c1,rfl,rfl,hl1,((Zq8.set_ 0 _).set_ 1 _).set_ 2 _,iX Zq8 hv1.out rUq8 _ _ _,((bq8.setCell szb _).setCell szb _).setCell szb _,szb⟩
    case rest=>
     obtain ⟨gz,Az,cz,rfl,rfl,hlz,hGy,rUy,hxy,hgz⟩:=hcut;clear v2 ua1 ua2 ua3 ub1 ub2 ub3;have hTy:=hTwx.keep hxy;have hZy:=hZwx.keep hxy;have gy:=kwwx.trans (hxy.mono kwwx.size);go_upto_region 7 with fail
     refine rM hTy hZy hGy gy ?_;intro wu hTwu hZwu hGwu kwwu hwu;have rUu:Rd wu Az 0 s1:=by rw [hwu];exact rUy
     clear hwu;have v2:=aF hTwu.three.2.2;obtain ⟨z0,z1,z2⟩:=fW hGwu;obtain ⟨ua1,ua2,ua3⟩:=fR kwwu a1 a2 a3;go_cut [10] (λvp wz=>∃(gp:Nat) (Ap:Ba) (cp:Nat),vp = .pointer (some ⟨gp,0,none⟩)/\Blk wz gp (Ro 3 0 Ap 2 cp)/\Rd wz Ap 0 [.mk ka na sa,.mk k1 n1 s1]/\Bw wu wz/\wu.heap.size<=gp)
     case first=>
      refine eK wu [8] [0,1,2,3,4] 9 4 (lT:=[_,_,_,_,_]) ?_;intro q0 bq0;refine bU (aD ?_);refine mW 5 7 ?_ ?_
      ·go_wp2_with fail;refine aL ?_;intro q1 hn;have hbq1:Bw q0 q1:=by rw [hn];exact bw1
       have zq1:Blk q1 q0.heap.size #[.int .i64 ka,.int .i64 na,.slice Aa sa.length ca,.int .i64 k1,.int .i64 n1,.slice Az s1.length cz]:=by rw [hn];exact aC _ 32 _ rfl
       have seq1:q0.heap.size<q1.heap.size:=by rw [hn];simp
       clear hn;refine aV bq0 hbq1 ?_;intro bq1 lq1;refine mW 6 7 ?_ ?_
       ·go_wp2_with (go_at_call 67;refine (bL 3 (aO hla ((ra.below kwwu).below bq1).rdp (aO hlz (rUu.below bq1).rdp bX)) 2 rfl Ac _ _ zq1).mono ?_;rintro e q2 ⟨A7,c7,rfl,r7q2,hbq2⟩);have Bq2:=zq1.keep hbq2;refine aV bq1 hbq2 ?_;intro bq2 lq2;refine aZ 7 ?_
        ·go_wp2_with fail;refine aL ?_;intro q3 hn;have hbq3:Bw q2 q3:=by rw [hn];exact bw1
         have zq3:Blk q3 q2.heap.size Zr:=by rw [hn];exact aC _ 32 _ rfl
         have seq3:q2.heap.size<q3.heap.size:=by rw [hn];simp
         clear hn;have Bq3:=Bq2.keep hbq3;have Nq3:=r7q2.below hbq3;refine aV bq2 hbq3 ?_;intro bq3 lq3;refine cK [8] (lB:=[_]) ?_;refine gS (aD ?_);obtain ⟨d0,d1,d2,e0,e1,e2⟩:=bZ zq3;have szb:wu.heap.size<=q2.heap.size:=bq2.size;go_wp2_with fail;go_meet
         exact ⟨q2.heap.size,A7,c7,rfl,((zq3.set_ 0 _).set_ 1 _).set_ 2 _,eJ zq3 hvl.out Nq3 _ _ _,((bq3.setCell szb _).setCell szb _).setCell szb _,szb⟩
       ·go_wp2_with fail;refine aL ?_;intro q4 hn;have hbq4:Bw q1 q4:=by rw [hn];exact bw1
        have zq4:Blk q4 q1.heap.size Zr:=by rw [hn];exact aC _ 32 _ rfl
        have seq4:q1.heap.size<q4.heap.size:=by rw [hn];simp
        clear hn;have Bq4:=zq1.keep hbq4;refine aV bq1 hbq4 ?_;intro bq4 lq4;refine aZ 6 ?_
        ·go_wp2_with (go_at_call 67;refine (bL 3 (aO hla ((ra.below kwwu).below bq4).rdp (aO hlz (rUu.below bq4).rdp bX)) 2 rfl Ac _ _ Bq4).mono ?_;rintro e q5 ⟨A7,c7,rfl,r7q5,hbq5⟩);have Bq5:=Bq4.keep hbq5;have Zq5:=zq4.keep hbq5;refine aV bq4 hbq5 ?_;intro bq5 lq5;refine cK [8] (lB:=[_]) ?_;refine gS (aD ?_);obtain ⟨d0,d1,d2,e0,e1,e2⟩:=bZ Zq5;have szb:wu.heap.size<=q1.heap.size:=bq1.size;go_wp2_with fail;go_meet
         exact ⟨q1.heap.size,A7,c7,rfl,((Zq5.set_ 0 _).set_ 1 _).set_ 2 _,eJ Zq5 hvl.out r7q5 _ _ _,((bq5.setCell szb _).setCell szb _).setCell szb _,szb⟩
      ·go_wp2_with fail;refine aL ?_;intro q6 hn;have hbq6:Bw q0 q6:=by rw [hn];exact bw1
       have zq6:Blk q6 q0.heap.size Zr:=by rw [hn];exact aC _ 32 _ rfl
       have seq6:q0.heap.size<q6.heap.size:=by rw [hn];simp
       clear hn;refine aV bq0 hbq6 ?_;intro bq6 lq6;refine aZ 5 ?_
       ·go_wp2_with fail;refine aL ?_;intro q7 hn;have hbq7:Bw q6 q7:=by rw [hn];exact bw1
        have zq7:Blk q7 q6.heap.size #[.int .i64 ka,.int .i64 na,.slice Aa sa.length ca,.int .i64 k1,.int .i64 n1,.slice Az s1.length cz]:=by rw [hn];exact aC _ 32 _ rfl
        have seq7:q6.heap.size<q7.heap.size:=by rw [hn];simp
        clear hn;have Zq7:=zq6.keep hbq7;refine aV bq6 hbq7 ?_;intro bq7 lq7;refine aZ 6 ?_
        ·go_wp2_with (go_at_call 67;refine (bL 3 (aO hla ((ra.below kwwu).below bq7).rdp (aO hlz (rUu.below bq7).rdp bX)) 2 rfl Ac _ _ zq7).mono ?_;rintro e q8 ⟨A7,c7,rfl,r7q8,hbq8⟩);have Zq8:=Zq7.keep hbq8;have Bq8:=zq7.keep hbq8;refine aV bq7 hbq8 ?_;intro bq8 lq8;refine cK [8] (lB:=[_]) ?_;refine gS (aD ?_);obtain ⟨d0,d1,d2,e0,e1,e2⟩:=bZ Zq8;have szb:wu.heap.size<=q0.heap.size:=bq0.size;go_wp2_with fail;go_meet
         exact ⟨q0.heap.size,A7,c7,rfl,((Zq8.set_ 0 _).set_ 1 _).set_ 2 _,eJ Zq8 hvl.out r7q8 _ _ _,((bq8.setCell szb _).setCell szb _).setCell szb _,szb⟩
     case rest=>
      obtain ⟨gp,Ap,cp,rfl,hPz,rPz,hyz,hgp⟩:=hcut;clear v2 z0 z1 z2 ua1 ua2 ua3;have hZz:=hZwu.keep hyz;have gz1:=kwwu.trans (hyz.mono kwwu.size);obtain ⟨p0,p1,p2⟩:=hPz.three;have lpz:=hPz.lt;have lzz:=hZwu.lt;have npz:gp≠w.heap.size+1:=by omega
      go_wp2_with (go_at_call 119;refine (hB.out _ _ _ (hrc.below gz1) rPz).mono ?_;rintro e w8 ⟨k8,n8,A8,l8,c8,rfl,hb8⟩;have hP8:=(hPz.keep hb8).alloc (.cells (Ro k8 n8 A8 l8 c8) 32);have hZ8:=(hZz.keep hb8).alloc (.cells (Ro k8 n8 A8 l8 c8) 32);have g8:=(gz1.trans (hb8.mono gz1.size)).alloc (by have:=gz1.size;have:=hb8.size;omega) (.cells (Ro k8 n8 A8 l8 c8) 32);have rP8:=(rPz.below hb8).alloc (.cells (Ro k8 n8 A8 l8 c8) 32);clear p0 p1 p2;obtain ⟨p0,p1,p2⟩:=hP8.three;obtain ⟨d0,d1,d2,e0,e1,e2,lz⟩:=dN hZ8;have lp8:=hP8.lt);refine bodyPost_ret (v:=.tuple #[.agg (Ro 3 0 Ap 2 cp),.int .i64 (dB b)]) (by simp [results,results120,go_sem,d0,d1,d2]) rfl ⟨3,0,Ap,2,cp,rfl,?_⟩;exact bV g8
   ·have hB:=aD (λ(A:Ba) (c:Nat) (w:Bb) (hrc:Rd w C 0 ctx) (hr:Rd w A 0 [.mk ka na sa,.mk k1 n1 s1])=>sA ih ctx C cc 3 0 A c ka na sa k1 n1 s1 _ w h3 hva (dD h2) hvc hm hrc hr);injection hs with hs;subst hs;clear h1 h2 h3 hva hvb hvc ih hcv;go_enter func120,ntmps120;go_upto_region 4 with (go_at_call 43;refine (hS1.out _ ((hrc.alloc _).alloc _) ((ra.alloc _).alloc _)).mono ?_;rintro e w1 ⟨rfl,hb1⟩;have hTw1:Blk w1 w.heap.size (Ro k n (some ⟨bk,ok,none⟩) 2 c):=((aC w 32 (Ro k n (some ⟨bk,ok,none⟩) 2 c) rfl).alloc _).keep hb1;have hZw1:Blk w1 (w.heap.size+1) Zr:=(aC _ 32 Zr Ag).keep hb1;have kww1:Bw w w1:=bN bw2 hb1)
    refine uH hTw1 hZw1 kww1 ?_;intro wx hTwx hZwx kwwx;have v2:=aF hTwx.three.2.2;obtain ⟨ua1,ua2,ua3⟩:=fR kwwx a1 a2 a3;obtain ⟨ub1,ub2,ub3⟩:=fR kwwx b1 b2 b3;go_cut [8,9] (λvp vc wy=>∃(gz:Nat) (Az:Ba) (cz:Nat),vp = .pointer (some ⟨gz,0,none⟩)/\vc = .int .i64 0/\s1.length<=9223372036854775807/\Blk wy gz (Ro k1 n1 Az s1.length cz)/\Rd wy Az 0 s1/\Bw wx wy/\wx.heap.size<=gz)
    case first=>
     refine eK wx [11,12,13,15,16] [0,1,2,3,4,6,7,8,9] 17 8 (lT:=[_,_,_,_,_,_,_,_,_]) ?_;intro q0 bq0;refine bU (aD ?_);refine mW 5 14 ?_ ?_
     ·go_wp2_with (go_at_call 91;refine (hP.out _ ((hrc.below kwwx).below bq0) ((ra.below kwwx).below bq0)).mono ?_;rintro e q1 ⟨D,d,rfl,rDq1,hbq1⟩);refine aV bq0 hbq1 ?_;intro bq1 lq1;refine mW 10 14 ?_ ?_
      ·go_wp2_with (go_at_call 74;refine (hI.out _ _ _ rDq1 ((rb.below kwwx).below bq1)).mono ?_;rintro e q2 ⟨A1,c1,rfl,hl1,rUq2,hbq2⟩);have Dq2:=rDq1.below hbq2;refine aV bq1 hbq2 ?_;intro bq2 lq2;refine fB [11,12,13] 3 (lT:=[_,_,_]) ?_;refine bU (aD ?_);refine aZ 14 ?_
       ·go_wp2_with fail;refine aL ?_;intro q3 hn;have hbq3:Bw q2 q3:=by rw [hn];exact bw1
        have zq3:Blk q3 q2.heap.size Zr:=by rw [hn];exact aC _ 32 _ rfl
        have seq3:q2.heap.size<q3.heap.size:=by rw [hn];simp
        clear hn;have Dq3:=Dq2.below hbq3;have Uq3:=rUq2.below hbq3;refine aV bq2 hbq3 ?_;intro bq3 lq3;refine cK [15,16] (lB:=[_,_]) ?_;refine gS (aD ?_);obtain ⟨d0,d1,d2,e0,e1,e2⟩:=bZ zq3;have szb:wx.heap.size<=q2.heap.size:=bq2.size;go_wp2_with fail;go_meet
        exact ⟨q2.heap.size,A1,c1,rfl,rfl,hl1,((zq3.set_ 0 _).set_ 1 _).set_ 2 _,iX zq3 hv1.out Uq3 _ _ _,((bq3.setCell szb _).setCell szb _).setCell szb _,szb⟩
      ·go_wp2_with fail;refine aL ?_;intro q4 hn;have hbq4:Bw q1 q4:=by rw [hn];exact bw1
       have zq4:Blk q4 q1.heap.size Zr:=by rw [hn];exact aC _ 32 _ rfl
       have seq4:q1.heap.size<q4.heap.size:=by rw [hn];simp
       clear hn;have Dq4:=rDq1.below hbq4;refine aV bq1 hbq4 ?_;intro bq4 lq4;refine aZ 10 ?_
       ·go_wp2_with (go_at_call 74;refine (hI.out _ _ _ Dq4 ((rb.below kwwx).below bq4)).mono ?_;rintro e q5 ⟨A1,c1,rfl,hl1,rUq5,hbq5⟩);have Dq5:=Dq4.below hbq5;have Zq5:=zq4.keep hbq5;refine aV bq4 hbq5 ?_;intro bq5 lq5;refine fB [11,12,13] 2 (lT:=[_,_,_]) ?_;refine bU (aD ?_);refine cK [15,16] (lB:=[_,_]) ?_;refine gS (aD ?_);obtain ⟨d0,d1,d2,e0,e1,e2⟩:=bZ Zq5;have szb:wx.heap.size<=q1.heap.size:=bq1.size;go_wp2_with fail;go_meet
        exact ⟨q1.heap.size,A1,c1,rfl,rfl,hl1,((Zq5.set_ 0 _).set_ 1 _).set_ 2 _,iX Zq5 hv1.out rUq5 _ _ _,((bq5.setCell szb _).setCell szb _).setCell szb _,szb⟩
     ·go_wp2_with fail;refine aL ?_;intro q6 hn;have hbq6:Bw q0 q6:=by rw [hn];exact bw1
      have zq6:Blk q6 q0.heap.size Zr:=by rw [hn];exact aC _ 32 _ rfl
      have seq6:q0.heap.size<q6.heap.size:=by rw [hn];simp
      clear hn;refine aV bq0 hbq6 ?_;intro bq6 lq6;refine aZ 5 ?_
      ·go_wp2_with (go_at_call 91;refine (hP.out _ ((hrc.below kwwx).below bq6) ((ra.below kwwx).below bq6)).mono ?_;rintro e q7 ⟨D,d,rfl,rDq7,hbq7⟩);have Zq7:=zq6.keep hbq7;refine aV bq6 hbq7 ?_;intro bq7 lq7;refine aZ 10 ?_
       ·go_wp2_with (go_at_call 74;refine (hI.out _ _ _ rDq7 ((rb.below kwwx).below bq7)).mono ?_;rintro e q8 ⟨A1,c1,rfl,hl1,rUq8,hbq8⟩);have Zq8:=Zq7.keep hbq8;have Dq8:=rDq7.below hbq8;refine aV bq7 hbq8 ?_;intro bq8 lq8;refine fB [11,12,13] 2 (lT:=[_,_,_]) ?_;refine bU (aD ?_);refine cK [15,16] (lB:=[_,_]) ?_;refine gS (aD ?_);obtain ⟨d0,d1,d2,e0,e1,e2⟩:=bZ Zq8;have szb:wx.heap.size<=q0.heap.size:=bq0.size;go_wp2_with fail;go_meet
        exact ⟨q0.heap.size,A1,c1,rfl,rfl,hl1,((Zq8.set_ 0 _).set_ 1 _).set_ 2 _,iX Zq8 hv1.out rUq8 _ _ _,((bq8.setCell szb _).setCell szb _).setCell szb _,szb⟩
    case rest=>
     obtain ⟨gz,Az,cz,rfl,rfl,hlz,hGy,rUy,hxy,hgz⟩:=hcut;clear v2 ua1 ua2 ua3 ub1 ub2 ub3;have hTy:=hTwx.keep hxy;have hZy:=hZwx.keep hxy;have gy:=kwwx.trans (hxy.mono kwwx.size);go_upto_region 7 with fail
     refine rM hTy hZy hGy gy ?_;intro wu hTwu hZwu hGwu kwwu hwu;have rUu:Rd wu Az 0 s1:=by rw [hwu];exact rUy
     clear hwu;have v2:=aF hTwu.three.2.2;obtain ⟨z0,z1,z2⟩:=fW hGwu;obtain ⟨ua1,ua2,ua3⟩:=fR kwwu a1 a2 a3;go_cut [10] (λvp wz=>∃(gp:Nat) (Ap:Ba) (cp:Nat),vp = .pointer (some ⟨gp,0,none⟩)/\Blk wz gp (Ro 3 0 Ap 2 cp)/\Rd wz Ap 0 [.mk ka na sa,.mk k1 n1 s1]/\Bw wu wz/\wu.heap.size<=gp)
     case first=>
      refine eK wu [8] [0,1,2,3,4] 9 4 (lT:=[_,_,_,_,_]) ?_;intro q0 bq0;refine bU (aD ?_);refine mW 5 7 ?_ ?_
      ·go_wp2_with fail;refine aL ?_;intro q1 hn;have hbq1:Bw q0 q1:=by rw [hn];exact bw1
       have zq1:Blk q1 q0.heap.size #[.int .i64 ka,.int .i64 na,.slice Aa sa.length ca,.int .i64 k1,.int .i64 n1,.slice Az s1.length cz]:=by rw [hn];exact aC _ 32 _ rfl
       have seq1:q0.heap.size<q1.heap.size:=by rw [hn];simp
       clear hn;refine aV bq0 hbq1 ?_;intro bq1 lq1;refine mW 6 7 ?_ ?_
       ·go_wp2_with (go_at_call 67;refine (bL 3 (aO hla ((ra.below kwwu).below bq1).rdp (aO hlz (rUu.below bq1).rdp bX)) 2 rfl Ac _ _ zq1).mono ?_;rintro e q2 ⟨A7,c7,rfl,r7q2,hbq2⟩);have Bq2:=zq1.keep hbq2;refine aV bq1 hbq2 ?_;intro bq2 lq2;refine aZ 7 ?_
        ·go_wp2_with fail;refine aL ?_;intro q3 hn;have hbq3:Bw q2 q3:=by rw [hn];exact bw1
         have zq3:Blk q3 q2.heap.size Zr:=by rw [hn];exact aC _ 32 _ rfl
         have seq3:q2.heap.size<q3.heap.size:=by rw [hn];simp
         clear hn;have Bq3:=Bq2.keep hbq3;have Nq3:=r7q2.below hbq3;refine aV bq2 hbq3 ?_;intro bq3 lq3;refine cK [8] (lB:=[_]) ?_;refine gS (aD ?_);obtain ⟨d0,d1,d2,e0,e1,e2⟩:=bZ zq3;have szb:wu.heap.size<=q2.heap.size:=bq2.size;go_wp2_with fail;go_meet
         exact ⟨q2.heap.size,A7,c7,rfl,((zq3.set_ 0 _).set_ 1 _).set_ 2 _,eJ zq3 hvl.out Nq3 _ _ _,((bq3.setCell szb _).setCell szb _).setCell szb _,szb⟩
       ·go_wp2_with fail;refine aL ?_;intro q4 hn;have hbq4:Bw q1 q4:=by rw [hn];exact bw1
        have zq4:Blk q4 q1.heap.size Zr:=by rw [hn];exact aC _ 32 _ rfl
        have seq4:q1.heap.size<q4.heap.size:=by rw [hn];simp
        clear hn;have Bq4:=zq1.keep hbq4;refine aV bq1 hbq4 ?_;intro bq4 lq4;refine aZ 6 ?_
        ·go_wp2_with (go_at_call 67;refine (bL 3 (aO hla ((ra.below kwwu).below bq4).rdp (aO hlz (rUu.below bq4).rdp bX)) 2 rfl Ac _ _ Bq4).mono ?_;rintro e q5 ⟨A7,c7,rfl,r7q5,hbq5⟩);have Bq5:=Bq4.keep hbq5;have Zq5:=zq4.keep hbq5;refine aV bq4 hbq5 ?_;intro bq5 lq5;refine cK [8] (lB:=[_]) ?_;refine gS (aD ?_);obtain ⟨d0,d1,d2,e0,e1,e2⟩:=bZ Zq5;have szb:wu.heap.size<=q1.heap.size:=bq1.size;go_wp2_with fail;go_meet
         exact ⟨q1.heap.size,A7,c7,rfl,((Zq5.set_ 0 _).set_ 1 _).set_ 2 _,eJ Zq5 hvl.out r7q5 _ _ _,((bq5.setCell szb _).setCell szb _).setCell szb _,szb⟩
      ·go_wp2_with fail;refine aL ?_;intro q6 hn;have hbq6:Bw q0 q6:=by rw [hn];exact bw1
       have zq6:Blk q6 q0.heap.size Zr:=by rw [hn];exact aC _ 32 _ rfl
       have seq6:q0.heap.size<q6.heap.size:=by rw [hn];simp
       clear hn;refine aV bq0 hbq6 ?_;intro bq6 lq6;refine aZ 5 ?_
       ·go_wp2_with fail;refine aL ?_;intro q7 hn;have hbq7:Bw q6 q7:=by rw [hn];exact bw1
        have zq7:Blk q7 q6.heap.size #[.int .i64 ka,.int .i64 na,.slice Aa sa.length ca,.int .i64 k1,.int .i64 n1,.slice Az s1.length cz]:=by rw [hn];exact aC _ 32 _ rfl
        have seq7:q6.heap.size<q7.heap.size:=by rw [hn];simp
        clear hn;have Zq7:=zq6.keep hbq7;refine aV bq6 hbq7 ?_;intro bq7 lq7;refine aZ 6 ?_
        ·go_wp2_with (go_at_call 67;refine (bL 3 (aO hla ((ra.below kwwu).below bq7).rdp (aO hlz (rUu.below bq7).rdp bX)) 2 rfl Ac _ _ zq7).mono ?_;rintro e q8 ⟨A7,c7,rfl,r7q8,hbq8⟩);have Zq8:=Zq7.keep hbq8;have Bq8:=zq7.keep hbq8;refine aV bq7 hbq8 ?_;intro bq8 lq8;refine cK [8] (lB:=[_]) ?_;refine gS (aD ?_);obtain ⟨d0,d1,d2,e0,e1,e2⟩:=bZ Zq8;have szb:wu.heap.size<=q0.heap.size:=bq0.size;go_wp2_with fail;go_meet
         exact ⟨q0.heap.size,A7,c7,rfl,((Zq8.set_ 0 _).set_ 1 _).set_ 2 _,eJ Zq8 hvl.out r7q8 _ _ _,((bq8.setCell szb _).setCell szb _).setCell szb _,szb⟩
     case rest=>
      obtain ⟨gp,Ap,cp,rfl,hPz,rPz,hyz,hgp⟩:=hcut;clear v2 z0 z1 z2 ua1 ua2 ua3;have hZz:=hZwu.keep hyz;have gz1:=kwwu.trans (hyz.mono kwwu.size);obtain ⟨p0,p1,p2⟩:=hPz.three;have lpz:=hPz.lt;have lzz:=hZwu.lt;have npz:gp≠w.heap.size+1:=by omega
      go_wp2_with (go_at_call 119;refine (hB.out _ _ _ (hrc.below gz1) rPz).mono ?_;rintro e w8 ⟨A8,c8,rfl,hl8,r8,hb8⟩;have hP8:=(hPz.keep hb8).alloc (.cells (Ro k8 n8 A8 s8.length c8) 32);have hZ8:=(hZz.keep hb8).alloc (.cells (Ro k8 n8 A8 s8.length c8) 32);have g8:=(gz1.trans (hb8.mono gz1.size)).alloc (by have:=gz1.size;have:=hb8.size;omega) (.cells (Ro k8 n8 A8 s8.length c8) 32);have rP8:=(rPz.below hb8).alloc (.cells (Ro k8 n8 A8 s8.length c8) 32);clear p0 p1 p2;obtain ⟨p0,p1,p2⟩:=hP8.three;obtain ⟨d0,d1,d2,e0,e1,e2,lz⟩:=dN hZ8;have lp8:=hP8.lt);refine bodyPost_ret (v:=.tuple #[.agg (Ro 3 0 Ap 2 cp),.int .i64 0]) (by simp [results,results120,go_sem,d0,d1,d2]) rfl ⟨Ap,cp,rfl,by simp,eJ hZ8 hvl.out rP8 _ _ _,?_⟩;exact bV g8
theorem aOg {by_ k n n':Int}{ks s:List Tm}(h:bR by_ 0 (.mk k n ks) = .mk k n' s):(if k=1/\0<=n then n+by_ else n)=n'/\bK by_ k 0 0 ks=s:=by
 rw [bR] at h;injection h with _ h2 h3;exact ⟨h2,h3⟩
mutual
def pK:Tm->Bool
 | .mk k _ ks=>(k != 0) && rF ks
def rF:List Tm->Bool
 | []=>true
 | t::ts=>pK t && rF ts
end
theorem shape_nz:(∀(t:Tm) (d:Nat),shape d t=true->pK t=true)/\∀(ts:List Tm) (d:Nat),(∀t,t∈ts->shape d t=true)->rF ts=true:=by
 refine bA (λk n ks ih d h=>?_) (λd _=>rfl) (λt ts h1 h2 d h=>?_)
 ·obtain ⟨q,rfl,ha,_,_,hk⟩:=cD h;rw [pK,ih q hk,Bool.and_true,bne_iff_ne];rintro rfl;have:aX 0 = -1:=rfl;omega
 ·rw [rF,h1 d (h t Ag),h2 d (λu hu=>h u (by simp [hu]))];rfl
theorem aCi (by_:Int):(∀(t:Tm) (c:Int),pK (bR by_ c t)=pK t)/\∀(ts:List Tm) (k c:Int) (i:Nat),rF (bK by_ k c i ts)=rF ts:=by
 refine bA (λk n ks ih c=>?_) (λk c i=>rfl) (λt ts h1 h2 k c i=>?_)
 ·rw [bR,pK,pK,ih]
 ·rw [bK,rF,rF,h1,h2]
theorem aNd {w:Bb}{z:Nat}(hZ:Blk w z Zr):(∀t b off i,pK t=true->RdC w b off i t->RdPC (·≠z) w b off i t)/\(∀(ks:List Tm) A i,rF ks=true->Rd w A i ks->RdP (·≠z) w A i ks):=by
 refine bA (λk n ks ih b off i hs hr=>?_) (λA i _ _=>RdP.nil) (λt ts h1 h2 A i hs hr=>?_)
 ·rw [pK,Bool.and_eq_true,bne_iff_ne] at hs;obtain ⟨c1,c2,A,c,c3,hl,hr'⟩:=RdC.iff.1 hr;refine RdPC.iff.2 ⟨λe=>?_,c1,c2,A,c,c3,hl,ih A 0 hs.2 hr'⟩;subst e;have h0:=hs.1;rw [hZ.cell] at c1;generalize off+i*3=j at c1;rcases j with _|_|_|j
  ·simp at c1;exact h0 c1.symm
  ·simp at c1;exact h0 c1.symm
  ·simp at c1
  ·simp at c1
 ·rw [rF,Bool.and_eq_true] at hs;obtain ⟨⟨b,off,e,hc⟩,hr'⟩:=Rd.cons_iff.1 hr;exact RdP.cons_iff.2 ⟨⟨b,off,e,h1 b off i hs.1 hc⟩,h2 A (i+1) hs.2 hr'⟩
theorem aGt (kp np:Int)(sp:List Tm)(Ap:Ba)(cp:Nat)(n1 n2:Int)(s1 s2:List Tm)(w:Bb)(hv:aE (.mk kp np sp)=true)(h1:bR 1 0 (.mk kp np sp)=Tm.mk kp n1 s1)(h2:bR 2 0 (.mk kp np sp)=Tm.mk kp n2 s2)(rp:Rd w Ap 0 sp) :
  Calls prog 152 #[.agg (Ro kp np Ap sp.length cp)] w (aYe w 3 0 [Tm.mk 6 0 [],Tm.mk 3 0 [Tm.mk 5 0 [Tm.mk kp n1 s1,Tm.mk 1 0 []],Tm.mk 5 0 [Tm.mk kp n2 s2,Tm.mk 8 0 [Tm.mk 1 1 []]]]]):=by
 have hsz:=aH hv;obtain ⟨q1,q2⟩:=aOg h1;obtain ⟨q3,q4⟩:=aOg h2;have hS1:=aD (show ∀(w:Bb) (hr:Rd w Ap 0 sp),Calls prog 29 #[.agg (Ro kp np Ap sp.length cp),.int .i64 1,.int .i64 0] w (rQ w kp n1 s1) from λw hr=>by
  have:=gI _ kp np sp Ap cp 1 0 30 w (mV _) Ac (aY hv) Ac Ac Ac hr;rwa [q1,q2] at this)
 have hS2:=aD (show ∀(w:Bb) (hr:Rd w Ap 0 sp),Calls prog 29 #[.agg (Ro kp np Ap sp.length cp),.int .i64 2,.int .i64 0] w (rQ w kp n2 s2) from λw hr=>by
  have:=gI _ kp np sp Ap cp 2 0 30 w (mV _) Ac (aY hv) Ac Ac Ac hr;rwa [q3,q4] at this)
 have hnz:=aD (show rF [Tm.mk 6 0 [],Tm.mk 3 0 [Tm.mk 5 0 [Tm.mk kp n1 s1,Tm.mk 1 0 []],Tm.mk 5 0 [Tm.mk kp n2 s2,Tm.mk 8 0 [Tm.mk 1 1 []]]]]=true by
  have z0:=shape_nz.1 _ _ (aY hv);have z1:=(aCi 1).1 (.mk kp np sp) 0;have z2:=(aCi 2).1 (.mk kp np sp) 0;rw [h1,z0] at z1;rw [h2,z0] at z2;simp only [pK,rF] at z1 z2⊢;simp [z1,z2])
 clear h1 h2 q1 q2 q3 q4;go_enter func152,ntmps152;go_upto_region 4 with (first
  | (go_at_call 67;have _t:=tok7;refine (bL 5 (aO hl5 hf5g.rdp (aO (show ([Tm.mk 1 1 []]:List Tm).length<=9223372036854775807 by simp) r6g.rdp bX)) 2 rfl Ac _ _ hRg).mono ?_;rintro e wh ⟨A8,c8,rfl,r8,hbh⟩;have hZw2:=hZg.keep hbh;have hNw2:=hNg.keep hbh;have hQw2:=hQg.keep hbh;have r4h:=r4g.below hbh;have kww2:=kwg.trans (hbh.mono kwg.size);clear tok7;have tok8:=trivial)
  | (go_at_call 67;have _t:=tok6;refine (bL 8 (aO Ag (Rd.nil (w:=wf.alloc (.cells (Ro 1 1 none 0 0) 32))).rdp bX) 1 rfl Ac _ _ hRf).mono ?_;rintro e wg ⟨A6,c6,rfl,r6,hbg⟩;have hZg:=(hZf.keep hbg).alloc (.cells #[.int .i64 kp,.int .i64 n2,.slice A5 s2.length c5,.int .i64 8,.int .i64 0,.slice A6 1 c6] 32);have hNg:=(hNf.keep hbg).alloc (.cells #[.int .i64 kp,.int .i64 n2,.slice A5 s2.length c5,.int .i64 8,.int .i64 0,.slice A6 1 c6] 32);have hQg:=(hQf.keep hbg).alloc (.cells #[.int .i64 kp,.int .i64 n2,.slice A5 s2.length c5,.int .i64 8,.int .i64 0,.slice A6 1 c6] 32);have r4g:=(r4f.below hbg).alloc (.cells #[.int .i64 kp,.int .i64 n2,.slice A5 s2.length c5,.int .i64 8,.int .i64 0,.slice A6 1 c6] 32);have kwg:=(kwf.trans (hbg.mono kwf.size)).alloc (by have:=kwf.size;have:=hbg.size;omega) (.cells #[.int .i64 kp,.int .i64 n2,.slice A5 s2.length c5,.int .i64 8,.int .i64 0,.slice A6 1 c6] 32);have hf5g:=(hf5f.below hbg).alloc (.cells #[.int .i64 kp,.int .i64 n2,.slice A5 s2.length c5,.int .i64 8,.int .i64 0,.slice A6 1 c6] 32);have r6g:=r6.alloc (.cells #[.int .i64 kp,.int .i64 n2,.slice A5 s2.length c5,.int .i64 8,.int .i64 0,.slice A6 1 c6] 32);have hRg:=aC wg 32 #[.int .i64 kp,.int .i64 n2,.slice A5 s2.length c5,.int .i64 8,.int .i64 0,.slice A6 1 c6] rfl;clear tok6;have tok7:=trivial)
  | (go_at_call 55;have _t:=tok5;refine (cC _ _ _).mono ?_;rintro e wf ⟨rfl,hbf⟩;have hZf:=(hZe.keep hbf).alloc (.cells (Ro 1 1 none 0 0) 32);have hNf:=(hNe.keep hbf).alloc (.cells (Ro 1 1 none 0 0) 32);have hQf:=(hQe.keep hbf).alloc (.cells (Ro 1 1 none 0 0) 32);have r4f:=(r4e.below hbf).alloc (.cells (Ro 1 1 none 0 0) 32);have kwf:=(kwe.trans (hbf.mono kwe.size)).alloc (by have:=kwe.size;have:=hbf.size;omega) (.cells (Ro 1 1 none 0 0) 32);have hf5f:=(hf5.rd.below hbf).alloc (.cells (Ro 1 1 none 0 0) 32);have hRf:=aC wf 32 (Ro 1 1 none 0 0) rfl;clear tok5;have tok6:=trivial)
  | (go_at_call 29;have _t:=tok4;refine (hS2.out _ (rp.below kwd)).mono ?_;rintro e we ⟨A5,c5,rfl,hl5,hf5,hbe⟩;have hZe:=hZd.keep hbe;have hNe:=hNd.keep hbe;have hQe:=hQd.keep hbe;have r4e:=r4d.below hbe;have kwe:=kwd.trans (hbe.mono kwd.size);clear tok4;have tok5:=trivial)
  | (go_at_call 67;have _t:=tok3;refine (bL 5 (aO hl1 hf1c.rdp (aO Ag (Rd.nil (w:=wc.alloc (.cells #[.int .i64 kp,.int .i64 n1,.slice A1 s1.length c1,.int .i64 1,.int .i64 0,.slice none 0 0] 32))).rdp bX)) 2 rfl Ac _ _ hRc).mono ?_;rintro e wd ⟨A4,c4,rfl,r4,hbd⟩;have hPd:=(hPc.keep hbd).alloc (.cells (Ro 5 0 A4 2 c4) 32);have hZd:=(hZc.keep hbd).alloc (.cells (Ro 5 0 A4 2 c4) 32);have hNd:=(hNc.keep hbd).alloc (.cells (Ro 5 0 A4 2 c4) 32);have kwd:=(kwc.trans (hbd.mono kwc.size)).alloc (by have:=kwc.size;have:=hbd.size;omega) (.cells (Ro 5 0 A4 2 c4) 32);have r4d:=r4.alloc (.cells (Ro 5 0 A4 2 c4) 32);have hQd:=aC wd 32 (Ro 5 0 A4 2 c4) rfl;clear p0 p1 p2;obtain ⟨p0,p1,p2⟩:=hPd.three;clear tok3;have tok4:=trivial)
  | (go_at_call 55;have _t:=tok2;refine (cC _ _ _).mono ?_;rintro e wc ⟨rfl,hbc⟩;have hPc:=(hPb.keep hbc).alloc (.cells #[.int .i64 kp,.int .i64 n1,.slice A1 s1.length c1,.int .i64 1,.int .i64 0,.slice none 0 0] 32);have hZc:=(hZb.keep hbc).alloc (.cells #[.int .i64 kp,.int .i64 n1,.slice A1 s1.length c1,.int .i64 1,.int .i64 0,.slice none 0 0] 32);have hNc:=(hNb.keep hbc).alloc (.cells #[.int .i64 kp,.int .i64 n1,.slice A1 s1.length c1,.int .i64 1,.int .i64 0,.slice none 0 0] 32);have kwc:=(kwb.trans (hbc.mono kwb.size)).alloc (by have:=kwb.size;have:=hbc.size;omega) (.cells #[.int .i64 kp,.int .i64 n1,.slice A1 s1.length c1,.int .i64 1,.int .i64 0,.slice none 0 0] 32);have hf1c:=(hf1.rd.below hbc).alloc (.cells #[.int .i64 kp,.int .i64 n1,.slice A1 s1.length c1,.int .i64 1,.int .i64 0,.slice none 0 0] 32);have hRc:=aC wc 32 #[.int .i64 kp,.int .i64 n1,.slice A1 s1.length c1,.int .i64 1,.int .i64 0,.slice none 0 0] rfl;clear tok2;have tok3:=trivial)
  | (go_at_call 29;have _t:=tok1;refine (hS1.out _ (rp.below kwa1)).mono ?_;rintro e wb ⟨A1,c1,rfl,hl1,hf1,hbb⟩;have hPb:=hPa1.keep hbb;have hZb:=hZa1.keep hbb;have hNb:=hNa1.keep hbb;have kwb:=kwa1.trans (hbb.mono kwa1.size);clear tok1;have tok2:=trivial)
  | (go_at_call 55;  refine (cC _ _ _).mono ?_;rintro e wa ⟨rfl,hba⟩;have hPa:Blk wa w.heap.size (Ro kp np Ap sp.length cp):=((aC w 32 (Ro kp np Ap sp.length cp) rfl).alloc _).keep hba;have hZa:Blk wa (w.heap.size+1) Zr:=(aC _ 32 Zr Ag).keep hba;have kwa:Bw w wa:=bN bw2 hba;have hPa1:=hPa.alloc (.cells (Ro 6 0 none 0 0) 32);have hZa1:=hZa.alloc (.cells (Ro 6 0 none 0 0) 32);have hNa1:=aC wa 32 (Ro 6 0 none 0 0) rfl;have kwa1:=kwa.alloc kwa.size (.cells (Ro 6 0 none 0 0) 32);obtain ⟨p0,p1,p2⟩:=hPa1.three;have tok1:=trivial))
 refine aYa (hZw2.alloc _) (hNw2.alloc _) (hQw2.alloc _) (show Blk _ wh.heap.size (Ro 5 0 A8 2 c8) from (aC _ 32 _ Ag)) (kww2.alloc (by have:=kww2.size;simp<;>omega) _) ?_;intro wx hZwx hNwx hQwx hSwx kwwx hwwx;have r4x:Rd wx A4 0 [Tm.mk kp n1 s1,Tm.mk 1 0 []]:=by rw [hwwx];exact r4h.alloc _
 have r8x:Rd wx A8 0 [Tm.mk kp n2 s2,Tm.mk 8 0 [Tm.mk 1 1 []]]:=by rw [hwwx];exact r8.alloc _
 clear hwwx;obtain ⟨v0,v1,v2⟩:=fW hNwx;obtain ⟨u0,u1,u2⟩:=fW hQwx;obtain ⟨y0,y1,y2⟩:=fW hSwx;refine eK wx [7] [0,1,2] 8 5 (lT:=[_,_,_]) ?_;intro q0 bq0;refine bU (aD ?_);refine aZ 3 ?_
 ·go_wp2_with fail;refine aL ?_;intro q1 hn;have hbq1:Bw q0 q1:=by rw [hn];exact bw1
  have zq1:Blk q1 q0.heap.size #[.int .i64 5,.int .i64 0,.slice A4 2 c4,.int .i64 5,.int .i64 0,.slice A8 2 c8]:=by rw [hn];exact aC _ 32 _ rfl
  have seq1:q0.heap.size<q1.heap.size:=by rw [hn];simp
  clear hn;refine aV bq0 hbq1 ?_;intro bq1 lq1;refine aZ 4 ?_
  ·go_wp2_with (go_at_call 67;refine (bL 3 (aO (ks:=[Tm.mk kp n1 s1,Tm.mk 1 0 []]) Ag (r4x.below bq1).rdp (aO (ks:=[Tm.mk kp n2 s2,Tm.mk 8 0 [Tm.mk 1 1 []]]) Ag (r8x.below bq1).rdp bX)) 2 rfl Ac _ _ zq1).mono ?_;rintro e q2 ⟨A9,c9,rfl,r9,hbq2⟩);refine aV bq1 hbq2 ?_;intro bq2 lq2;refine aZ 5 ?_
   ·go_wp2_with fail;refine aL ?_;intro q3 hn;have hbq3:Bw q2 q3:=by rw [hn];exact bw1
    have zq3:Blk q3 q2.heap.size #[.int .i64 6,.int .i64 0,.slice none 0 0,.int .i64 3,.int .i64 0,.slice A9 2 c9]:=by rw [hn];exact aC _ 32 _ rfl
    have seq3:q2.heap.size<q3.heap.size:=by rw [hn];simp
    clear hn;have r9q3:=r9.below hbq3;refine aV bq2 hbq3 ?_;intro bq3 lq3;refine aZ 6 ?_
    ·go_wp2_with (go_at_call 67;refine (bL 3 (aO (ks:=[]) Ag (Rd.nil (w:=q3)).rdp (aO (ks:=[Tm.mk 5 0 [Tm.mk kp n1 s1,Tm.mk 1 0 []],Tm.mk 5 0 [Tm.mk kp n2 s2,Tm.mk 8 0 [Tm.mk 1 1 []]]]) Ag r9q3.rdp bX)) 2 rfl Ac _ _ zq3).mono ?_;rintro e q4 ⟨A7,c7,rfl,r7,hbq4⟩);refine aV bq3 hbq4 ?_;intro bq4 lq4;refine cK [7] (lB:=[_]) ?_;refine gS (aD ?_);have hZq4:=hZwx.keep bq4;have hNq4:=hNwx.keep bq4;have hQq4:=hQwx.keep bq4;have hSq4:=hSwx.keep bq4;have kwq4:=kwwx.trans (bq4.mono kwwx.size);have kwxq4:=bq4;obtain ⟨d0,d1,d2,e0,e1,e2,lz⟩:=dN hZq4;have rset:=((aNd hZq4).2 [Tm.mk 6 0 [],Tm.mk 3 0 [Tm.mk 5 0 [Tm.mk kp n1 s1,Tm.mk 1 0 []],Tm.mk 5 0 [Tm.mk kp n2 s2,Tm.mk 8 0 [Tm.mk 1 1 []]]]] A7 0 hnz.out r7);go_wp2_with fail;refine bodyPost_ret (v:=.agg (Ro 3 0 A7 2 c7)) (by simp [results,results152,go_sem,d0,d1,d2]) rfl ⟨A7,c7,rfl,by simp,?_,?_⟩
     ·exact (((rset.setCell (a:=⟨(w.heap.size+1),0,none⟩) (λh=>h rfl) _).setCell (a:=⟨(w.heap.size+1),1,none⟩) (λh=>h rfl) _).setCell (a:=⟨(w.heap.size+1),2,none⟩) (λh=>h rfl) _).rd
     ·exact ((kwq4.setCell Al _).setCell Al _).setCell Al _
theorem aFl (C:Ba)(m cc:Nat)(n:Int)(A:Ba)(la c fc:Nat)(ev:Array Value)(n3 kd nd:Int)(sd:List Tm)(ke ne:Int)(se:List Tm)(ty:Nat->Option Tm)(w:Bb)(h1:fmS (ty 0) 13=some (.mk 13 n3 [.mk kd nd sd,.mk ke ne se]))(hT:TyOk fc ev w ty) :
  Calls prog 148 #[.agg #[.slice C m cc,.int .i64 15,.int .i64 n,.slice A la c,.func (.func fc) #[] ev]] w (jH w kd nd sd):=by
 obtain ⟨_,_,he,hv3⟩:=oP h1;injection he with e1 e2 e3;subst e2 e3;have hvd:=aD (aP hv3 (t:=.mk kd nd sd) Ag);replace h1:=aD h1;clear hv3;go_enter func148,ntmps148;go_upto_region 2 with (go_at_call 141;refine (iN C m cc 15 n _ la c fc ev 0 Ac 13 n3 [.mk kd nd sd,.mk ke ne se] ty _ h1.out (hT.below bw2)).mono ?_;rintro e w1 ⟨A3,c3,rfl,hl3,r3,hb1⟩;have hZ1:Blk w1 (w.heap.size+1) Zr:=(aC _ 32 _ Ag).keep hb1;have hJ1:=((aC w 105 #[.slice C m cc,.int .i64 15,.int .i64 n,.slice A la c,.func (.func fc) #[] ev] rfl).alloc (.cells Zr 32)).keep hb1;have g1:Bw w w1:=bN bw2 hb1)
 refine aU ?_;intro wx hwx;have hJx:=(show Blk wx w.heap.size _ by rw [hwx];exact hJ1.alloc _);have hZx:=(show Blk wx (w.heap.size+1) _ by rw [hwx];exact hZ1.alloc _);have h6x0:Blk wx w1.heap.size (Ro 13 n3 A3 2 c3):=by rw [hwx];exact aC _ 32 _ rfl
 have gx:Bw w wx:=by rw [hwx];exact g1.alloc g1.size _
 have r3x:Rd wx A3 0 [.mk kd nd sd,.mk ke ne se]:=by rw [hwx];exact r3.alloc _
 clear hwx;obtain ⟨be,oe,x1,x2,x3,Ad,cd,rfl,hk2,c1,c2,c3',hld,rd0⟩:=r3x.at_ (j:=0) Ag;injection hk2 with e1 e2 e3;subst e1 e2 e3;simp only [Nat.zero_mul,Nat.add_zero] at c1 c2 c3'
 have h6x:=h6x0;have u1:=hJx.at_ (i:=1) rfl;have v2:=h6x.three.2.2;obtain ⟨d0,d1,d2,e0,e1,e2⟩:=bZ hZx;go_wp2_with fail;refine bodyPost_ret (v:=.tuple #[.agg (Ro kd nd Ad sd.length cd),.int .i64 0]) (by simp [results,results148,go_sem,d0,d1,d2]) rfl ⟨Ad,cd,rfl,hld,bS hZx hvd.out rd0 _ _ _,?_⟩;exact ((gx.setCell Ag _).setCell Ag _).setCell Ag _
theorem aGb (C:Ba)(m cc:Nat)(n:Int)(A:Ba)(la c fc:Nat)(ev:Array Value)(kr nr:Int)(sr:List Tm)(w:Bb)(hvr:aE (.mk kr nr sr)=true)(hc:Hid (∀w',Bw w w'->Calls prog 139 #[.agg #[.slice C m cc,.int .i64 13,.int .i64 n,.slice A la c,.func (.func fc) #[] ev]] w' (jH w' kr nr sr))) :
  Calls prog 118 #[.agg #[.slice C m cc,.int .i64 13,.int .i64 n,.slice A la c,.func (.func fc) #[] ev]] w (jH w kr nr sr):=by
 replace hvr:=aD hvr;go_enter func118,ntmps118;go_wp2_with (go_at_call 139;refine (hc.out _ bw3).mono ?_;rintro e w1 ⟨A1,c1,rfl,hl1,r1,hb1⟩;have hZ1:Blk w1 (w.heap.size+1) Zr:=((aC (n:=w.heap.size+1) (w.alloc (.cells #[.slice C m cc,.int .i64 13,.int .i64 n,.slice A la c,.func (.func fc) #[] ev] 105)) 32 Zr Ag).alloc (.cells (Ro 13 n A la c) 32)).keep hb1;have g1:Bw w w1:=bN bw3 hb1;obtain ⟨d0,d1,d2,e0,e1,e2⟩:=bZ hZ1);refine bodyPost_ret (v:=.tuple #[.agg (Ro kr nr A1 sr.length c1),.int .i64 0]) (by simp [results,results118,go_sem,d0,d1,d2]) rfl ⟨A1,c1,rfl,hl1,bS hZ1 hvr.out r1 _ _ _,?_⟩;exact bV g1
theorem aHb (C:Ba)(m cc:Nat)(n:Int)(A:Ba)(la c fc:Nat)(ev:Array Value)(kr nr:Int)(sr:List Tm)(w:Bb)(hvr:aE (.mk kr nr sr)=true)(hc:Hid (∀w',Bw w w'->Calls prog 147 #[.agg #[.slice C m cc,.int .i64 14,.int .i64 n,.slice A la c,.func (.func fc) #[] ev]] w' (jH w' kr nr sr))) :
  Calls prog 118 #[.agg #[.slice C m cc,.int .i64 14,.int .i64 n,.slice A la c,.func (.func fc) #[] ev]] w (jH w kr nr sr):=by
 replace hvr:=aD hvr;go_enter func118,ntmps118;go_wp2_with (go_at_call 147;refine (hc.out _ bw3).mono ?_;rintro e w1 ⟨A1,c1,rfl,hl1,r1,hb1⟩;have hZ1:Blk w1 (w.heap.size+1) Zr:=((aC (n:=w.heap.size+1) (w.alloc (.cells #[.slice C m cc,.int .i64 14,.int .i64 n,.slice A la c,.func (.func fc) #[] ev] 105)) 32 Zr Ag).alloc (.cells (Ro 14 n A la c) 32)).keep hb1;have g1:Bw w w1:=bN bw3 hb1;obtain ⟨d0,d1,d2,e0,e1,e2⟩:=bZ hZ1);refine bodyPost_ret (v:=.tuple #[.agg (Ro kr nr A1 sr.length c1),.int .i64 0]) (by simp [results,results118,go_sem,d0,d1,d2]) rfl ⟨A1,c1,rfl,hl1,bS hZ1 hvr.out r1 _ _ _,?_⟩;exact bV g1
theorem aHn (C:Ba)(m cc:Nat)(n:Int)(A:Ba)(la c fc:Nat)(ev:Array Value)(kr nr:Int)(sr:List Tm)(w:Bb)(hvr:aE (.mk kr nr sr)=true)(hc:Hid (∀w',Bw w w'->Calls prog 148 #[.agg #[.slice C m cc,.int .i64 15,.int .i64 n,.slice A la c,.func (.func fc) #[] ev]] w' (jH w' kr nr sr))) :
  Calls prog 118 #[.agg #[.slice C m cc,.int .i64 15,.int .i64 n,.slice A la c,.func (.func fc) #[] ev]] w (jH w kr nr sr):=by
 replace hvr:=aD hvr;go_enter func118,ntmps118;go_wp2_with (go_at_call 148;refine (hc.out _ bw3).mono ?_;rintro e w1 ⟨A1,c1,rfl,hl1,r1,hb1⟩;have hZ1:Blk w1 (w.heap.size+1) Zr:=((aC (n:=w.heap.size+1) (w.alloc (.cells #[.slice C m cc,.int .i64 15,.int .i64 n,.slice A la c,.func (.func fc) #[] ev] 105)) 32 Zr Ag).alloc (.cells (Ro 15 n A la c) 32)).keep hb1;have g1:Bw w w1:=bN bw3 hb1;obtain ⟨d0,d1,d2,e0,e1,e2⟩:=bZ hZ1);refine bodyPost_ret (v:=.tuple #[.agg (Ro kr nr A1 sr.length c1),.int .i64 0]) (by simp [results,results118,go_sem,d0,d1,d2]) rfl ⟨A1,c1,rfl,hl1,bS hZ1 hvr.out r1 _ _ _,?_⟩;exact bV g1
theorem aGu (C:Ba)(m cc:Nat)(n:Int)(A:Ba)(la c fc:Nat)(ev:Array Value)(kr nr:Int)(sr:List Tm)(w:Bb)(hvr:aE (.mk kr nr sr)=true)(hc:Hid (∀w',Bw w w'->Calls prog 148 #[.agg #[.slice C m cc,.int .i64 16,.int .i64 n,.slice A la c,.func (.func fc) #[] ev]] w' (jH w' kr nr sr))) :
  Calls prog 118 #[.agg #[.slice C m cc,.int .i64 16,.int .i64 n,.slice A la c,.func (.func fc) #[] ev]] w (jH w kr nr sr):=by
 replace hvr:=aD hvr;go_enter func118,ntmps118;go_wp2_with (go_at_call 148;refine (hc.out _ bw3).mono ?_;rintro e w1 ⟨A1,c1,rfl,hl1,r1,hb1⟩;have hZ1:Blk w1 (w.heap.size+1) Zr:=((aC (n:=w.heap.size+1) (w.alloc (.cells #[.slice C m cc,.int .i64 16,.int .i64 n,.slice A la c,.func (.func fc) #[] ev] 105)) 32 Zr Ag).alloc (.cells (Ro 16 n A la c) 32)).keep hb1;have g1:Bw w w1:=bN bw3 hb1;obtain ⟨d0,d1,d2,e0,e1,e2⟩:=bZ hZ1);refine bodyPost_ret (v:=.tuple #[.agg (Ro kr nr A1 sr.length c1),.int .i64 0]) (by simp [results,results118,go_sem,d0,d1,d2]) rfl ⟨A1,c1,rfl,hl1,bS hZ1 hvr.out r1 _ _ _,?_⟩;exact bV g1
end Go.Proofs.YtjlaenhcemacdaaGreat
