/- Parts of the proof. No condition. -/
import Derived.Test.YtajjhldcjikkpaaGreatK26
import Derived.Test.YtajjhldcjikkpaaGreatK27
open Go.Proofs.Tryz
namespace Go.Proofs.YtajjhldcjikkpaaGreat
open Go.RowKit
set_option maxHeartbeats 16000000
set_option maxRecDepth 100000
set_option linter.all false
def NL (t:Tm):Prop:=t=kN\/∃u,t = .mk 5 0 [famN,u]
theorem aPb (x:NT):NL (tyN x):=by
 unfold tyN
 cases x.idx with
 | none=>exact .inl rfl
 | some u=>exact .inr ⟨_,rfl⟩
theorem aIl:dE kN=none:=rfl
theorem aLq (u:Tm):dE (.mk 5 0 [famN,u])=some kN:=rfl
theorem vM {f:Nat}{t u:Tm}(h:dE t=some u)(hv:aE u=true)(hu:dE u=none):dJ (f+1) t=(some u,0):=by
 rw [dJ,h];simp only [hv,if_true]
 rw [dJ,hu]
theorem aIa {t:Tm}(h:NL t)(hv:aE t=true):redI dB 200 t=(some kN,0):=by
 rw [<- fR 200 t hv];rcases h with rfl|⟨u,rfl⟩
 ·rw [dJ,aIl]
 ·exact vM (f:=199) (aLq u) (by decide +kernel) aIl
theorem aSc {f:Nat}{a b c:Tm}(ha:redI dB f a=(some c,0))(hb:redI dB f b=(some c,0)):iP f a b=1:=by
 rw [iP];split
 ·rfl
 ·rw [ha,hb,if_neg (by simp),if_pos (tmEq_iff.2 rfl)]
theorem aHu {a b c:Tm}(ha:aE a=true->redI dB 200 a=(some c,0))(hb:aE b=true->redI dB 200 b=(some c,0)):smR a b≠.no true:=by
 unfold smR
 split
 ·rename_i h
  rw [if_pos (aSc (ha h.1) (hb h.2))];intro h;cases h
 ·intro h;cases h
theorem sO {a b:Tm}(ha:NL a)(hb:NL b):smR a b≠.no true:=aHu (aIa ha) (aIa hb)
def wB (t:Tm):Tm:=.mk 3 0 [kN,.mk 3 0 [kN,t]]
theorem aMv {t:Tm}(h:NL t):(t=kN/\dE (wB t)=none)\/dE (wB t)=some (wB kN):=by
 rcases h with rfl|⟨u,rfl⟩
 ·exact .inl ⟨rfl,rfl⟩
 ·exact .inr rfl
theorem aMu {t:Tm}(h:NL t)(hv:aE (wB t)=true):redI dB 200 (wB t)=(some (wB kN),0):=by
 rw [<- fR 200 _ hv];rcases aMv h with ⟨rfl,h⟩|h
 ·rw [dJ,h]
 ·exact vM (f:=199) h (by decide +kernel) rfl
theorem aQw:redI dB 200 (kP famN)=(some (wB kN),0):=by
 rw [<- fR 200 _ (by decide +kernel)];have h1:dE (kP famN)=some (wB (.mk 5 0 [famN,.mk 8 0 [.mk 1 1 []]])):=rfl;have h2:aE (wB (.mk 5 0 [famN,.mk 8 0 [.mk 1 1 []]]))=true:=by decide +kernel
 rw [show (200:Nat)=199+1 from rfl,dJ,h1];simp only [h2,if_true]
 exact vM (f:=198) rfl (by decide +kernel) rfl
theorem aWc {t:Tm}(h:NL t):smR (wB t) (kP famN)≠.no true:=aHu (aMu h) λ _=>aQw
def kF {α:Type}(o:Option (Rs α)):Prop:=o≠some (.no true)
theorem cI {α β:Type}{o:Option (Rs α)}{f:α->Option (Rs β)}(h:kF o)(hf:∀a,o=some (.ok a)->kF (f a)):kF (bd o f):=λ hr=>by
 rcases aO hr with ⟨b,h1,h2⟩|⟨a,h1,h2⟩
 ·injection h2 with h2;subst h2;exact h h1
 ·exact hf a h1 h2
theorem eX {α:Type}(a:α):kF (some (Rs.ok a)):=by intro h;cases h
theorem aSs (t:Tm):kF (eC t):=by unfold eC;split<;>(intro h;cases h)
theorem aBn (t:Tm):kF (some (lU t)):=by
 unfold lU
 split
 ·split<;>(intro h;cases h)
 ·intro h;cases h
theorem eR {ctx:List Tm}{t:Tm}(h:∀M,kF (fS (bJ M) ctx t)):∀N,kF (bJ N ctx t)
 | 0=>by intro h;cases h
 | N+1=>by
  rw [bJ];split
  ·exact cI (h N) λ a _=>aSs a
  ·intro h;cases h
theorem aMg (G:List Tm):∀N,kF (bJ N G kN):=eR λ M=>eX _
theorem pG {N:Nat}{G:List Tm}{t:Tm}{kind:Int}(h:kF (bJ N G t))(hs:∀u,bJ N G t=some (.ok u)->u.k=kind)(hk:kind=2\/kind=3\/kind=10\/kind=13):kF (xQ (bJ N) G t kind):=cI h λ u hu=>cI (aBn u) λ o ho=>by
 have e:=hs u hu;have:=fU (by rw [e];exact hk) (Option.some.inj ho);subst this;rw [gU,if_pos e];exact eX _
theorem pR {N:Nat}{G:List Tm}{t:Tm}(h:kF (bJ N G t))(hs:∀u,bJ N G t=some (.ok u)->u.k=2):kF (iW (bJ N) G t):=cI h λ u hu=>cI (aBn u) λ o ho=>by
 have e:=hs u hu;have:=fU (by rw [e];exact .inl rfl) (Option.some.inj ho);subst this;rw [aGm,if_pos e];exact eX _
theorem kE {N:Nat}{G:List Tm}{t w:Tm}(h:kF (bJ N G t))(hs:∀u,bJ N G t=some (.ok u)->smR u w≠.no true):kF (iL (bJ N) G t w):=cI h λ u hu=>λ e=>hs u hu (Option.some.inj e)
theorem tF (N:Nat)(G:List Tm):kF (iW (bJ N) G kN):=pR (aMg G N) λ u hu=>by rw [aIj hu];rfl
theorem aRy {N:Nat}{G:List Tm}{u:Tm}(h:bJ N G (.mk 2 0 [])=some (.ok u)):u = .mk 2 1 []:=by
 obtain ⟨M,rfl,_,h1,_⟩:=dU h;exact (fI h1).symm
theorem aCq {G:List Tm}{b:Tm}(hb:∀N,kF (bJ N (G++[kN]) b))(hl:∀N u,bJ N (G++[kN]) b=some (.ok u)->kF (iW (bJ N) (G++[kN]) u)):∀N,kF (bJ N G (.mk 4 0 [kN,b])):=eR λ M=>
 cI (tF M G) λ _ _=>cI (hb M) λ u hu=>cI (cI (tF M G) λ i _=>cI (hl M u hu) λ j _=>eX _) λ _ _=>eX _
theorem aEi (N:Nat)(G:List Tm):kF (iW (bJ N) G (.mk 2 0 [])):=pR (eR (t:=.mk 2 0 []) (λ M=>show kF (some (Rs.ok (Tm.mk 2 1 []))) from eX _) N) λ u hu=>by rw [aRy hu];rfl
theorem aHq (G:List Tm):∀N,kF (bJ N G famN):=aCq (aMg _) λ N u hu=>by rw [aIj hu];exact aEi _ _
theorem wC {N:Nat}{G:List Tm}{u:Tm}(h:bJ N G famN=some (.ok u)):u = .mk 3 0 [kN,.mk 2 0 []]:=by
 obtain ⟨M,v,hv,rfl⟩:=vA h;rw [aIj hv]
theorem aSe {G:List Tm}{u:Tm}(hu:∀N,kF (bJ N G u))(ht:∀N s,bJ N G u=some (.ok s)->NL s):∀N,kF (bJ N G (.mk 5 0 [famN,u])):=eR λ M=>cI (pG (aHq G M) (λ s hs=>by rw [wC hs];rfl) (by decide)) λ f hf=>by
 obtain ⟨s,h1,h2⟩:=jP hf;have h3:=wC h1;subst h3;have h4:=fU (by exact .inr (.inl rfl)) h2;subst h4;exact cI (kE (hu M) λ s hs=>sO (ht M s hs) (.inl rfl)) λ _ _=>eX _
theorem aUt {N:Nat}{G:List Tm}{u s:Tm}(h:bJ N G (.mk 5 0 [famN,u])=some (.ok s)):s = .mk 2 0 []:=by
 obtain ⟨M,rfl,_,hk,_⟩:=dU h;obtain ⟨f,h1,hk⟩:=bN (show (bd (xQ (bJ M) G famN 3) λ h=>bd (iL (bJ M) G u (aI h.ks 0)) λ _=>some (.ok (dC u 0 0 (aI h.ks 1))))=some (.ok s) from hk);obtain ⟨s1,h2,h3⟩:=jP h1;have h4:=wC h2;subst h4;have h5:=fU (by exact .inr (.inl rfl)) h3;subst h5;obtain ⟨_,_,hk⟩:=bN hk;exact (cN hk).symm
theorem uA {x:NT}{n N:Nat}{s:Tm}(h:bJ N (List.replicate n kN) x.tm=some (.ok s)):NL s:=by rw [qQ x n N s h];exact aPb x
theorem xJ {x:NT}{n:Nat}(h:∀u,x.idx=some u->∀N,kF (bJ N (List.replicate n kN) u.tm))(N:Nat):kF (iW (bJ N) (List.replicate n kN) (tyN x)):=by
 unfold tyN
 cases hx:x.idx with
 | none=>exact tF _ _
 | some u=>exact pR (aSe (h u hx) (λ N s hs=>uA hs) N) λ s hs=>by rw [aUt hs];rfl
theorem aCy {n:Nat}{b:NT}(h:∀N,kF (bJ N (List.replicate (n+1) kN) b.tm))(hu:∀u,b.idx=some u->∀N,kF (bJ N (List.replicate (n+1) kN) u.tm)):∀N,kF (bJ N (List.replicate n kN) (.mk 4 0 [kN,b.tm])):=by
 refine aCq (by rw [dP];exact h) λ N u hN=>?_
 rw [dP] at hN⊢;rw [qQ b _ _ _ hN];exact xJ hu N
theorem rT {n N:Nat}{b:NT}{s:Tm}(h:bJ N (List.replicate n kN) (.mk 4 0 [kN,b.tm])=some (.ok s)):s = .mk 3 0 [kN,tyN b]:=by
 obtain ⟨M,v,hv,rfl⟩:=vA h;rw [dP] at hv;rw [qQ b _ _ _ hv]
theorem aNf {N:Nat}{G:List Tm}{t:Tm}(h:kF (iW (bJ N) (G++[kN]) t)):kF (fS (bJ N) G (.mk 3 0 [kN,t])):=cI (tF N G) λ _ _=>cI h λ _ _=>eX _
theorem aTd {N:Nat}{G:List Tm}{t s:Tm}(h:bJ N G (.mk 3 0 [kN,t])=some (.ok s)):s.k=2:=by
 obtain ⟨M,rfl,_,hk,_⟩:=dU h;obtain ⟨_,_,hk⟩:=bN (show (bd (iW (bJ M) G kN) λ i=>bd (iW (bJ M) (G++[kN]) t) λ j=>some (.ok (Tm.mk 2 (if j<i then i else j) [])))=some (.ok s) from hk);obtain ⟨_,_,hk⟩:=bN hk;rw [<- cN hk];rfl
theorem aLa {n:Nat}{b:NT}(h:∀N,kF (bJ N (List.replicate (n+2) kN) b.tm))(hu:∀u,b.idx=some u->∀N,kF (bJ N (List.replicate (n+2) kN) u.tm)):∀N,kF (bJ N (List.replicate n kN) (.mk 4 0 [kN,.mk 4 0 [kN,b.tm]])):=by
 refine aCq (by rw [dP];exact aCy h hu) λ N u hN=>?_
 rw [dP] at hN⊢;rw [rT hN];exact pR (eR (λ M=>aNf (by rw [dP];exact xJ hu M)) N) λ s hs=>aTd hs
theorem aOn {n N:Nat}{b:NT}{s:Tm}(h:bJ N (List.replicate n kN) (.mk 4 0 [kN,.mk 4 0 [kN,b.tm]])=some (.ok s)):s=wB (tyN b):=by
 obtain ⟨M,v,hv,rfl⟩:=vA h;rw [dP] at hv;rw [rT hv];rfl
theorem aDx {N:Nat}{G:List Tm}{w:Tm}(hw:NL w):kF (aFk (bJ N) G famN w):=cI (pG (aHq G N) (λ s hs=>by rw [wC hs];rfl) (by decide)) λ f hf=>by
 obtain ⟨s,h1,h2⟩:=jP hf;have h3:=wC h1;subst h3;have h4:=fU (by exact .inr (.inl rfl)) h2;subst h4;exact cI (λ e=>sO (.inl rfl) hw (Option.some.inj e)) λ _ _=>cI (aBn _) λ o ho=>by
  have:=fU (s:=.mk 2 0 []) (.inl rfl) (Option.some.inj ho);subst this;exact eX _
def rM:Tm:=.mk 13 0 [kN,kN]
theorem aRi (G:List Tm):∀N,kF (bJ N G rM):=eR λ M=>cI (tF M G) λ _ _=>cI (tF M _) λ _ _=>eX _
theorem aTz {N:Nat}{G:List Tm}{s:Tm}(h:bJ N G rM=some (.ok s)):s.k=2:=by
 obtain ⟨M,rfl,_,hk,_⟩:=dU h;obtain ⟨_,_,hk⟩:=bN (show (bd (iW (bJ M) G kN) λ i=>bd (iW (bJ M) (G++[kN]) kN) λ j=>some (.ok (Tm.mk 2 (if j<i then i else j) [])))=some (.ok s) from hk);obtain ⟨_,_,hk⟩:=bN hk;rw [<- cN hk];rfl
theorem aLw {G:List Tm}{a b:Tm}(ha:∀N,kF (bJ N G a))(hta:∀N s,bJ N G a=some (.ok s)->NL s)(hb:∀N,kF (bJ N G b))(htb:∀N s,bJ N G b=some (.ok s)->NL s):∀N,kF (bJ N G (.mk 14 0 [rM,a,b])):=eR λ M=>
 cI (pR (aRi G M) λ u hu=>aTz hu) λ _ _=>cI (aBn _) λ h hh=>by
  have h5:=fU (s:=rM) (.inr (.inr (.inr rfl))) (Option.some.inj hh);subst h5;exact cI (eX _:kF (gU 13 rM)) λ h hh=>by
   obtain rfl:=cN (show some (Rs.ok rM)=some (Rs.ok h) from hh);exact cI (kE (ha M) λ s hs=>sO (hta M s hs) (.inl rfl)) λ _ _=>cI (kE (hb M) λ s hs=>sO (htb M s hs) (.inl rfl)) λ _ _=>eX _
theorem aIb {N:Nat}{G:List Tm}{a b s:Tm}(h:bJ N G (.mk 14 0 [rM,a,b])=some (.ok s)):s=rM:=by
 obtain ⟨M,rfl,_,hk,_⟩:=dU h;obtain ⟨_,_,hk⟩:=bN (show (aTv (bJ M) G rM a b)=some (.ok s) from hk);obtain ⟨_,_,hk⟩:=bN hk;obtain ⟨_,_,hk⟩:=bN hk;obtain ⟨_,_,hk⟩:=bN hk;obtain ⟨_,_,hk⟩:=bN hk;exact (cN hk).symm
theorem aMz {n:Nat}{x:NT}(h:∀N,kF (bJ N (List.replicate n kN) x.tm))(hu:∀u,x.idx=some u->∀N,kF (bJ N (List.replicate n kN) u.tm)):∀N,kF (bJ N (List.replicate n kN) (.mk 11 0 [x.tm])):=eR λ M=>
 cI (h M) λ s hs=>cI (by rw [qQ x _ _ _ hs];exact xJ hu M) λ _ _=>eX _
theorem aBg {n N:Nat}{x:NT}{s:Tm}(h:bJ N (List.replicate n kN) (.mk 11 0 [x.tm])=some (.ok s)):s = .mk 10 0 [tyN x,x.tm,x.tm]:=by
 obtain ⟨M,rfl,_,hk,_⟩:=dU h;obtain ⟨u,hu,hk⟩:=bN (show (aUr (bJ M) (List.replicate n kN) x.tm)=some (.ok s) from hk);obtain ⟨_,_,hk⟩:=bN hk;rw [<- cN hk,qQ x _ _ _ hu]
theorem aNe {n:Nat}{x:NT}(h:NT.Gd n x):(∀N,kF (bJ N (List.replicate n kN) x.tm))/\∀u,x.idx=some u->∀N,kF (bJ N (List.replicate n kN) u.tm):=by
 induction h with
 | @var n i h=>exact ⟨eR λ M=>by
   show kF (aDz (List.replicate n kN) (i:Int))
   rw [aDz,if_neg (by rw [List.length_replicate];omega)];exact eX _,λ u hu=>by cases hu⟩
 | zero=>exact ⟨eR λ M=>show kF (some (Rs.ok nT)) from eX _,λ u hu=>by cases hu⟩
 | suc h ih=>exact ⟨eR λ M=>cI (kE (ih.1 M) λ s hs=>sO (uA hs) (.inl rfl)) λ _ _=>eX _,λ u hu=>by cases hu⟩
 | @app n b a h1 h2 h3 i1 i2 i3=>
  refine ⟨eR λ M=>cI (pG (aCy i1.1 i1.2 M) (λ s hs=>by rw [rT hs];rfl) (by decide)) λ f hf=>?_,λ u hu=>?_⟩
  ·obtain ⟨s,g1,g2⟩:=jP hf;have g3:=rT g1;subst g3;have g4:=fU (by exact .inr (.inl rfl)) g2;subst g4;exact cI (kE (i2.1 M) λ s hs=>sO (uA hs) (.inl rfl)) λ _ _=>eX _
  ·rw [NT.idx] at hu;cases hb:b.idx with
   | none=>rw [hb] at hu;cases hu
   | some v=>rw [hb] at hu;injection hu with hu;subst hu;exact (i3 v hb).1
 | @elim n z s m h1 h2 h3 i1 i2 i3=>
  refine ⟨eR λ M=>?_,λ u hu=>by injection hu with hu;subst hu;exact i3.1⟩;exact cI (aDx (.inl rfl)) λ _ _=>cI (kE (i1.1 M) λ s hs=>sO (uA hs) (.inr ⟨_,rfl⟩)) λ _ _=>cI (kE (aLa i2.1 i2.2 M) λ s hs=>by rw [aOn hs];exact aWc (aPb _)) λ _ _=>cI (kE (i3.1 M) λ s hs=>sO (uA hs) (.inl rfl)) λ _ _=>eX _
 | @part n q a b h1 h2 i1 i2=>
  refine ⟨?_,λ u hu=>by cases hu⟩;have hp:=aLw i1.1 (λ N s hs=>uA hs) i2.1 (λ N s hs=>uA hs);cases q with
  | false=>exact eR (t:=.mk 15 0 [.mk 14 0 [rM,a.tm,b.tm]]) λ M=>cI (pG (hp M) (λ s hs=>by rw [aIb hs];rfl) (by decide)) λ _ _=>eX _
  | true=>exact eR (t:=.mk 16 0 [.mk 14 0 [rM,a.tm,b.tm]]) λ M=>cI (pG (hp M) (λ s hs=>by rw [aIb hs];rfl) (by decide)) λ _ _=>eX _
 | @mov n x z h1 h2 i1 i2=>
  refine ⟨eR λ M=>?_,λ u hu=>by injection hu with hu;subst hu;exact i1.1⟩;exact cI (pG (aMz i1.1 i1.2 M) (λ s hs=>by rw [aBg hs];rfl) (by decide)) λ f hf=>by
   obtain ⟨s,g1,g2⟩:=jP hf;have g3:=aBg g1;subst g3;have g4:=fU (by exact .inr (.inr (.inl rfl))) g2;subst g4;exact cI (aDx (aPb x)) λ _ _=>cI (kE (i2.1 M) λ s hs=>sO (uA hs) (.inr ⟨_,rfl⟩)) λ _ _=>eX _
def hg:Nat->Tm->Bool
 | 0,_=>false
 | d+1,.mk k n ks=>(aK k==(ks.length:Int)) && decide (0<=n) && ks.all (hg d)
theorem hg_iff {d:Nat}{k n:Int}{ks:List Tm}:hg (d+1) (.mk k n ks)=true↔aK k=(ks.length:Int)/\0<=n/\∀t,t∈ks->hg d t=true:=by
 rw [hg,Bool.and_eq_true,Bool.and_eq_true,List.all_eq_true,beq_iff_eq,decide_eq_true_eq,and_assoc]
theorem fH:∀{a b:Nat} {t:Tm},a<=b->hg a t=true->hg b t=true
 | 0,b,t,_,h=>by cases h
 | a+1,0,t,h,_=>absurd h (by omega)
 | a+1,b+1,.mk k n ks,hab,h=>by
  obtain ⟨h1,h2,h3⟩:=hg_iff.1 h;exact hg_iff.2 ⟨h1,h2,λ t ht=>fH (by omega) (h3 t ht)⟩
def psh (r:Nat)(e:Nat->Nat):Nat->Nat
 | 0=>r
 | n+1=>e n
def wt (k:Int):Nat:=if k=16 then 2 else if k=2\/k=6\/k=7 then 0 else 1
theorem aUg {k:Int}(h:aK k≠0):1<=wt k:=by
 unfold wt
 split
 ·omega
 ·split
  ·rename_i h2;rcases h2 with rfl|rfl|rfl<;>exact absurd rfl h
  ·omega
mutual
def rk:Tm->(Nat->Nat)->Nat
 | .mk k n ks,e=>if k=1 then e n.toNat else wt k+rkL (binds k) 0 ks e e
def rkL:Bool->Nat->List Tm->(Nat->Nat)->(Nat->Nat)->Nat
 | _,_,[],_,_=>0
 | b,i,t::ts,e,e1=>max (rk t (if b=true/\i=1 then e1 else e)) (rkL b (i+1) ts e (if i=0 then psh (rk t e) e else e1))
end
theorem kM (k:Int)(i:Nat):aR k (i:Int)=if binds k=true/\i=1 then 1 else 0:=by
 unfold aR
 by_cases h:binds k=true/\i=1
 ·rw [if_pos h,if_pos ⟨by rw [h.2];rfl,h.1⟩]
 ·rw [if_neg h,if_neg];exact λ hc=>h ⟨hc.2,by have:=hc.1;omega⟩
def Rel (c j:Nat)(e e':Nat->Nat):Prop:=∀m,e' (if c<=m then m+j else m)=e m
theorem Rel.psh {c j:Nat}{e e':Nat->Nat}(h:Rel c j e e')(r:Nat):Rel (c+1) j (psh r e) (psh r e'):=by
 intro m;cases m with
 | zero=>simp [Go.Proofs.YtajjhldcjikkpaaGreat.psh]
 | succ m=>
  have:=h m;by_cases hc:c<=m
  ·rw [if_pos hc] at this;rw [if_pos (by omega),show m+1+j=(m+j)+1 from by omega];exact this
  ·rw [if_neg hc] at this;rw [if_neg (by omega)];exact this
theorem aDr (j:Nat):(∀(t:Tm) (d:Nat),hg d t=true->∀(c:Nat) (e e':Nat->Nat),Rel c j e e'->rk (eZ j c t) e'=rk t e)/\
  (∀ (ts : List Tm) (d : Nat), (∀ t, t ∈ ts -> hg d t = true) -> ∀ (k : Int) (i c : Nat) (e e' e1 e1' : Nat -> Nat), Rel c j e e' -> (i ≠ 0 -> Rel (c + 1) j e1 e1') -> rkL (binds k) i (cP j k c i ts) e' e1' = rkL (binds k) i ts e e1) := by
 refine bO (λ k n ks ih d hd c e e' hR=>?_) (λ d _ k i c e e' e1 e1' _ _=>?_) (λ t ts h1 h2 d hd k i c e e' e1 e1' hR hR1=>?_)
 ·cases d with
  | zero=>cases hd
  | succ d=>
   obtain ⟨ha,hn,hk⟩:=hg_iff.1 hd;rw [eZ,rk,rk];by_cases h1:k=1
   ·rw [if_pos h1,if_pos h1];have:=hR n.toNat
    by_cases hc:c<=n.toNat
    ·rw [if_pos hc] at this;rw [if_pos ⟨h1,by omega⟩,show (n+(j:Int)).toNat=n.toNat+j from by omega,this]
    ·rw [if_neg hc] at this;rw [if_neg (λ h=>hc (by have:=h.2;omega)),this]
   ·rw [if_neg h1,if_neg h1,ih d hk k 0 c e e' e e' hR (λ h=>absurd rfl h)]
 ·rw [cP,rkL,rkL]
 ·rw [cP,rkL,rkL];have hu:=kM k i;have ht:rk (eZ j (c+aR k i) t) (if binds k=true/\i=1 then e1' else e')=rk t (if binds k=true/\i=1 then e1 else e):=by
   by_cases hb:binds k=true/\i=1
   ·rw [if_pos hb,if_pos hb,hu,if_pos hb];exact h1 d (hd t (by simp)) (c+1) e1 e1' (hR1 (by omega))
   ·rw [if_neg hb,if_neg hb,hu,if_neg hb];have:=h1 d (hd t (by simp)) c e e' hR;simpa using this
  rw [ht];congr 1
  refine h2 d (λ u hu=>hd u (by simp [hu])) k (i+1) c e e' _ _ hR (λ _=>?_);by_cases hi:i=0
  ·rw [if_pos hi,if_pos hi];subst hi;have h0:aR k ((0:Nat):Int)=0:=by rw [kM];simp
   rw [h0] ;have:=h1 d (hd t (by simp)) c e e' hR;rw [show ((c:Int)+0)=(c:Int) from by omega,this];exact hR.psh _
  ·rw [if_neg hi,if_neg hi];exact hR1 hi
theorem aDi (j:Nat):(∀(t:Tm) (d:Nat) (c:Int),0<=c->hg d t=true->hg d (eZ j c t)=true)/\
  (∀ (ts : List Tm) (d : Nat) (k : Int) (c : Int) (i : Nat), 0 <= c -> (∀ t, t ∈ ts -> hg d t = true) -> ∀ t, t ∈ cP j k c i ts -> hg d t = true) := by
 refine bO (λ k n ks ih d c hc hd=>?_) (λ d k c i _ _ t ht=>?_) (λ t ts h1 h2 d k c i hc hd u hu=>?_)
 ·cases d with
  | zero=>cases hd
  | succ d=>
   obtain ⟨ha,hn,hk⟩:=hg_iff.1 hd;rw [eZ];refine hg_iff.2 ⟨by rw [jV];exact ha,by split<;>omega,ih d k c 0 hc hk⟩
 ·rw [cP] at ht;cases ht
 ·rw [cP] at hu;rcases List.mem_cons.1 hu with rfl|hu
  ·exact h1 d _ (by have:=xS k i;omega) (hd t (by simp))
  ·exact h2 d k c (i+1) hc (λ x hx=>hd x (by simp [hx])) u hu
theorem aUh {k:Int}(h:aK k=0):k=1\/k=2\/k=6\/k=7:=by
 unfold aK at h
 repeat' split at h
 all_goals first|omega|(exact absurd h (by decide))
theorem gN {t:Tm}(h:hg 1 t=true):∃k n,t = .mk k n []/\(k=1\/k=2\/k=6\/k=7)/\0<=n:=by
 obtain ⟨k,n,ks⟩:=t;obtain ⟨h1,h2,h3⟩:=hg_iff.1 h;cases ks with
 | nil=>exact ⟨k,n,rfl,aUh (by simpa using h1),h2⟩
 | cons a r=>have:=h3 a (by simp);cases this
theorem shS_zero:(∀(t:Tm) (c:Int),eZ 0 c t=t)/\(∀(ts:List Tm) (k c:Int) (i:Nat),cP 0 k c i ts=ts):=by
 refine bO (λ k n ks ih c=>?_) (λ k c i=>?_) (λ t ts h1 h2 k c i=>?_)
 ·rw [eZ,ih];simp
 ·rw [cP]
 ·rw [cP,h1,h2]
theorem aXx (u:Tm)(b:Int)(hb:0<=b):(∀(t:Tm) (c:Int),0<=c->dC u c c (eZ (b+1) c t)=eZ b c t)/\
  (∀ (ts : List Tm) (k c : Int) (i : Nat), 0 <= c -> cQ u k c c i (cP (b + 1) k c i ts) = cP b k c i ts) := by
 refine bO (λ k n ks ih c hc=>?_) (λ k c i hc=>?_) (λ t ts h1 h2 k c i hc=>?_)
 ·rw [eZ,dC,eZ,ih k c 0 hc];by_cases h:k=1/\c<=n
  ·rw [if_pos h,if_pos h,if_neg (by omega),if_pos (by omega)];congr 1;omega
  ·rw [if_neg h,if_neg h,if_neg (by omega),if_neg (by omega)]
 ·rw [cP,cQ,cP]
 ·rw [cP,cQ,cP,h1 _ (by have:=xS k i;omega),h2 k c (i+1) hc]
theorem zE (u t:Tm)(b:Int)(hb:0<=b):dC u 0 0 (eZ (b+1) 0 t)=eZ b 0 t:=(aXx u b hb).1 t 0 (by omega)
theorem nU {t:Tm}(h:hg 1 t=true)(w:Tm):dC w 0 0 t=w\/(hg 1 (dC w 0 0 t)=true/\∀r e,rk (dC w 0 0 t) e=rk t (psh r e)):=by
 obtain ⟨k,n,rfl,hk,hn⟩:=gN h;rw [dC];by_cases h0:k=1/\n=0
 ·rw [if_pos h0];exact .inl (shS_zero.1 w 0)
 ·rw [if_neg h0];refine .inr ⟨?_,λ r e=>?_⟩
  ·rw [cQ];refine hg_iff.2 ⟨?_,by split<;>omega,λ t ht=>by cases ht⟩;rcases hk with rfl|rfl|rfl|rfl<;>rfl
  ·rw [cQ,rk,rk];by_cases h1:k=1
   ·rw [if_pos h1,if_pos h1];obtain ⟨m,hm⟩:∃m:Nat,n=(m:Int)+1:=⟨(n - 1).toNat,by omega⟩;subst hm;rw [if_pos ⟨h1,by omega⟩,show ((m:Int)+1 - 1).toNat=m from by omega,show ((m:Int)+1).toNat=m+1 from by omega];rfl
   ·rw [if_neg h1,if_neg h1];rfl
theorem aEg {t:Tm}(h:hg 1 t=true)(w:Tm):(t = .mk 1 0 []/\dC w 1 1 t = .mk 1 0 [])\/dC w 1 1 t=eZ 1 0 w\/(hg 1 (dC w 1 1 t)=true/\∀q q' r e,rk (dC w 1 1 t) (psh q e)=rk t (psh q' (psh r e))):=by
 obtain ⟨k,n,rfl,hk,hn⟩:=gN h;by_cases h00:k=1/\n=0
 ·obtain ⟨rfl,rfl⟩:=h00;exact .inl ⟨rfl,rfl⟩
 rw [dC];by_cases h0:k=1/\n=1
 ·rw [if_pos h0];exact .inr (.inl rfl)
 ·rw [if_neg h0];refine .inr (.inr ⟨?_,λ q q' r e=>?_⟩)
  ·rw [cQ];refine hg_iff.2 ⟨?_,by split<;>omega,λ t ht=>by cases ht⟩;rcases hk with rfl|rfl|rfl|rfl<;>rfl
  ·rw [cQ,rk,rk];by_cases h1:k=1
   ·rw [if_pos h1,if_pos h1];obtain ⟨m,hm⟩:∃m:Nat,n=(m:Int)+2:=⟨(n - 2).toNat,by omega⟩;subst hm;rw [if_pos ⟨h1,by omega⟩,show ((m:Int)+2 - 1).toNat=m+1 from by omega,show ((m:Int)+2).toNat=m+2 from by omega];rfl
   ·rw [if_neg h1,if_neg h1];rfl
theorem wS (u:Tm)(k x d:Int){ks:List Tm}{i:Nat}(h:i<ks.length):aI (cQ u k x d 0 ks) i=dC u (x+aR k i) (d+aR k i) (aI ks i):=by
 have key:∀(ks:List Tm) (j i:Nat),i<ks.length->aI (cQ u k x d j ks) i=dC u (x+aR k ((j+i:Nat):Int)) (d+aR k ((j+i:Nat):Int)) (aI ks i):=by
  intro ks;induction ks with
  | nil=>intro j i h;cases h
  | cons t ts ih=>
   intro j i h;rw [cQ];cases i with
   | zero=>rfl
   | succ i=>
    have:=ih (j+1) i (by simpa using h);rw [show j+1+i=j+(i+1) from by omega] at this;exact this
 have:=key ks 0 i h;simpa using this
def kr (n:Nat)(e:Nat->Nat):Tm->Prop
 | .mk k _ ks=>∀i,i<ks.length->rk (aI ks i) (if aR k (i:Int)=0 then e else psh (rk (aI ks 0) e) e)<n
theorem tW {a b:Nat}{e:Nat->Nat}{t:Tm}(hab:a<=b)(h:kr a e t):kr b e t:=by
 obtain ⟨k,n,ks⟩:=t;exact λ i hi=>rO (h i hi) hab
theorem aVz {b:Bool}{ts:List Tm}:∀{i j:Nat} {e e1:Nat->Nat} {m:Nat},rkL b i ts e e1<=m->j<ts.length->rk (aI ts j) (if b=true/\i+j=1 then (if i=0 then psh (rk (aI ts 0) e) e else e1) else e)<=m:=by
 induction ts with
 | nil=>intro i j e e1 m _ h;cases h
 | cons t ts ih=>
  intro i j e e1 m hm hj;rw [rkL] at hm;cases j with
  | zero=>
   have h1:=Nat.le_trans (Nat.le_max_left _ _) hm;rw [Nat.add_zero];by_cases hb:b=true/\i=1
   ·rw [if_pos hb] at h1⊢;rw [if_neg (by omega)];exact h1
   ·rw [if_neg hb] at h1⊢;exact h1
  | succ j=>
   have h1:=ih (Nat.le_trans (Nat.le_max_right _ _) hm) (by simpa using hj);rw [show i+1+j=i+(j+1) from by omega] at h1;have hk:aI (t::ts) (j+1)=aI ts j:=rfl;have hk0:aI (t::ts) 0=t:=rfl;rw [hk,hk0];by_cases hb:b=true/\i+(j+1)=1
   ·rw [if_pos hb] at h1⊢;rw [if_neg (by omega)] at h1;exact h1
   ·rw [if_neg hb] at h1⊢;exact h1
theorem aSf {k n:Int}{ks:List Tm}(e:Nat->Nat)(hk:(k≠1/\aK k≠0)\/ks=[]):kr (rk (.mk k n ks) e) e (.mk k n ks):=by
 intro i hi;rcases hk with hk|rfl
 ·have hw:=aUg hk.2;rw [rk,if_neg hk.1];have:=aVz (b:=binds k) (i:=0) (j:=i) (e:=e) (e1:=e) (ts:=ks) (pS _) hi;simp only [Nat.zero_add,if_true] at this
  rw [kM];by_cases hb:binds k=true/\i=1
  ·rw [if_pos hb] at this⊢;rw [if_neg (by omega)];omega
  ·rw [if_neg hb] at this⊢;rw [if_pos rfl];omega
 ·cases hi
theorem pA {ks:List Tm}{i:Nat}(h:i<ks.length):aI ks i=ks[i]:=by simp [aI,List.getD,oE h]
theorem cJ {d:Nat}{k n:Int}{ks:List Tm}(h:hg (d+1) (.mk k n ks)=true){i:Nat}(hi:i<ks.length):hg d (aI ks i)=true:=(hg_iff.1 h).2.2 _ (rR hi)
theorem vD {t:Tm}{n:Nat}{e:Nat->Nat}(h:hg 1 t=true):kr n e t:=by
 obtain ⟨k,m,rfl,_,_⟩:=gN h;exact λ i hi=>by cases hi
theorem kK {d:Nat}{t:Tm}(h:hg d t=true)(e:Nat->Nat):kr (rk t e) e t:=by
 obtain ⟨k,n,ks⟩:=t;cases d with
 | zero=>cases h
 | succ d=>
  refine aSf e ?_;have ha:=(hg_iff.1 h).1;by_cases hk:aK k=0
  ·exact .inr (lEn (by omega))
  ·exact .inl ⟨λ h1=>hk (by rw [h1];rfl),hk⟩
theorem aCb {e:Nat->Nat}(n:Nat)(ks:List Tm):rk (.mk 1 (n:Int) ks) e=e n:=by rw [rk,if_pos rfl,Int.toNat_natCast]
theorem aNb {B w:Tm}{n r h:Nat}{e:Nat->Nat}(hB:hg 2 B=true)(hK:kr n (psh r e) B)(hw:hg h w=true)(hn:rk w e<n)(h1:1<=h):kr n e (dC w 0 0 B)/\hg (h+1) (dC w 0 0 B)=true:=by
 obtain ⟨k,m,ks⟩:=B;obtain ⟨ha,hm,hk⟩:=hg_iff.1 hB;rw [dC];by_cases h0:k=1/\m=0
 ·rw [if_pos h0,shS_zero.1];exact ⟨tW (by omega) (kK hw e),fH (by omega) hw⟩
 rw [if_neg h0];have hkid:∀i,i<ks.length->hg 1 (aI ks i)=true:=λ i hi=>cJ hB hi
 refine ⟨?_,hg_iff.2 ⟨by rw [dK];exact ha,by split<;>omega,?_⟩⟩
 ·intro i hi;rw [dK] at hi;have h00:0<ks.length:=by omega
  rw [wS w k 0 0 hi,wS w k 0 0 h00];have hKi:=hK i hi;have hu0:aR k ((0:Nat):Int)=0:=by rw [kM];simp
  rw [hu0];have z0:(0:Int)+0=0:=rfl;rw [z0]
  -- the rank of the first operand
  have hfirst:rk (dC w 0 0 (aI ks 0)) e<n\/rk (dC w 0 0 (aI ks 0)) e=rk (aI ks 0) (psh r e):=by
   rcases nU (hkid 0 h00) w with h|⟨_,h⟩
   ·rw [h];exact .inl hn
   ·exact .inr (h r e)
  by_cases hu:aR k (i:Int)=0
  ·rw [if_pos hu] at hKi⊢;rw [hu,z0];rcases nU (hkid i hi) w with h|⟨_,h⟩
   ·rw [h];omega
   ·rw [h r e];exact hKi
  ·have hu1:aR k (i:Int)=1:=by have:=dH k i;omega
   rw [if_neg hu] at hKi⊢;rw [hu1,show (0:Int)+1=1 from rfl];rcases aEg (hkid i hi) w with ⟨h,h'⟩|h|⟨_,h⟩
   ·rw [h'];rw [h] at hKi;have e1:=aCb (e:=psh (rk (dC w 0 0 (aI ks 0)) e) e) 0 [];have e2:=aCb (e:=psh (rk (aI ks 0) (psh r e)) (psh r e)) 0 [];rw [show ((0:Nat):Int)=0 from rfl] at e1 e2;rw [e1];rw [e2] at hKi;have p1:psh (rk (dC w 0 0 (aI ks 0)) e) e 0=rk (dC w 0 0 (aI ks 0)) e:=rfl;have p2:psh (rk (aI ks 0) (psh r e)) (psh r e) 0=rk (aI ks 0) (psh r e):=rfl;rw [p1];rw [p2] at hKi;rcases hfirst with h|h<;>omega
   ·rw [h];have:=(aDr 1).1 w _ hw 0 e (psh (rk (dC w 0 0 (aI ks 0)) e) e) (λ m=>by rw [if_pos (by omega)];rfl);rw [show ((1:Nat):Int)=1 from rfl,show ((0:Nat):Int)=0 from rfl] at this;rw [this];omega
   ·rw [h _ (rk (aI ks 0) (psh r e)) r e];exact hKi
 ·intro t ht;obtain ⟨i,hi,rfl⟩:∃i,i<ks.length/\t=aI (cQ w k 0 0 0 ks) i:=by
   obtain ⟨i,hi,rfl⟩:=List.getElem_of_mem ht;rw [dK] at hi;exact ⟨i,hi,(pA (by rw [dK];exact hi)).symm⟩
  rw [wS w k 0 0 hi];by_cases hu:aR k (i:Int)=0
  ·rw [hu];rcases nU (hkid i hi) w with h'|⟨h',_⟩
   ·rw [show (0:Int)+0=0 from rfl,h'];exact hw
   ·exact fH h1 h'
  ·have hu1:aR k (i:Int)=1:=by have:=dH k i;omega
   rw [hu1,show (0:Int)+1=1 from rfl];rcases aEg (hkid i hi) w with ⟨h',h''⟩|h'|⟨h',_⟩
   ·rw [h''];exact fH h1 (by decide)
   ·rw [h'];exact (aDi 1).1 w h 0 (by omega) hw
   ·exact fH h1 h'
theorem wH {d n:Nat}{e:Nat->Nat}{k m:Int}{ks:List Tm}(hd:hg (d+1) (.mk k m ks)=true)(h:kr n e (.mk k m ks)){i:Nat}(hi:i<ks.length)(hu:aR k (i:Int)=0):kr n e (aI ks i):=by
 have:=h i hi;rw [if_pos hu] at this;exact tW (Nat.le_of_lt this) (kK (cJ hd hi) e)
theorem pJ {t:Tm}(h:hg 1 t=true):dT t=none:=by
 obtain ⟨k,n,rfl,hk,_⟩:=gN h;rw [dT];have h1:cH k []=0:=tL _ (by omega);have h2:dD k<0:=by unfold dD;rw [if_neg (by omega),if_neg (by omega),if_neg (by omega)];omega
 rw [if_pos h1,if_pos h2]
theorem rK {t:Tm}(h:hg 1 t=true):t.k=1\/t.k=2\/t.k=6\/t.k=7:=by
 obtain ⟨k,n,rfl,hk,_⟩:=gN h;exact hk
theorem aUi {t u:Tm}(h:hg 2 t=true)(hs:dT t=some u):hg 1 u=true:=by
 obtain ⟨k,n,ks⟩:=t;have hkid:∀i,i<ks.length->hg 1 (aI ks i)=true:=λ i hi=>cJ h hi
 have ha:=(hg_iff.1 h).1;have hkat:∀i,i<ks.length->gV ks i=1\/gV ks i=2\/gV ks i=6\/gV ks i=7:=λ i hi=>by rw [xK ks i hi];exact rK (hkid i hi)
 rw [dT] at hs;have a5:aK 5=2:=rfl;have a9:aK 9=4:=rfl;have a12:aK 12=3:=rfl;have a15:aK 15=1:=rfl;have a16:aK 16=1:=rfl;by_cases hr:cH k ks=0
 ·rw [if_pos hr] at hs;split at hs
  ·cases hs
  ·rename_i hm
   obtain ⟨i,hi⟩:∃i:Nat,dD k=(i:Int):=⟨(dD k).toNat,by omega⟩;rw [hi,Int.toNat_natCast] at hs;by_cases hl:i<ks.length
   ·rw [pD ks i hl,<- pA hl,pJ (hkid i hl)] at hs;cases hs
   ·rw [(jA ks i (by omega)).2] at hs;cases hs
 ·rw [if_neg hr] at hs;injection hs with hs;have h2:cH k ks=2/\1<ks.length:=by
   unfold cH at hr⊢
   by_cases k5:k=5
   ·subst k5;rw [if_pos rfl] at hr;exact absurd (if_neg (by have:=hkat 0 (by omega);omega)) hr
   rw [if_neg k5] at hr⊢;by_cases k9:k=9
   ·subst k9;rw [if_pos rfl] at hr⊢;by_cases z:gV ks 3=7
    ·rw [if_pos z];exact ⟨rfl,by omega⟩
    ·rw [if_neg z,if_neg (by have:=hkat 3 (by omega);omega)] at hr;exact absurd rfl hr
   rw [if_neg k9] at hr⊢;by_cases k12:k=12
   ·subst k12;rw [if_pos rfl] at hr;exact absurd (if_neg (by have:=hkat 1 (by omega);omega)) hr
   rw [if_neg k12] at hr⊢;by_cases k15:k=15
   ·subst k15;rw [if_pos rfl] at hr;exact absurd (if_neg (by have:=hkat 0 (by omega);omega)) hr
   rw [if_neg k15] at hr⊢;by_cases k16:k=16
   ·subst k16;rw [if_pos rfl] at hr;exact absurd (if_neg (by have:=hkat 0 (by omega);omega)) hr
   rw [if_neg k16] at hr;exact absurd rfl hr
  rw [gG,if_neg (by omega),if_pos h2.1] at hs;rw [<- hs];exact hkid 1 h2.2
theorem nH {f:Nat}{t h:Tm}{c:Int}(hh:rI f t=(some h,c)):(dT t=none/\h=t)\/∃u f',dT t=some u/\rI f' u=(some h,c):=by
 rw [rI] at hh;cases hs:dT t with
 | none=>rw [hs] at hh;injection hh with h1 h2;injection h1 with h1;exact .inl ⟨rfl,h1.symm⟩
 | some u=>
  rw [hs] at hh;cases f with
  | zero=>injection hh with h1 _;cases h1
  | succ f=>
   simp only at hh
   split at hh
   ·exact .inr ⟨u,f,rfl,hh⟩
   ·injection hh with h1 _;cases h1
theorem qE {f:Nat}{t h:Tm}{c:Int}(hg1:hg 1 t=true)(hh:rI f t=(some h,c)):h=t:=by
 rcases nH hh with ⟨_,h1⟩|⟨u,f',h1,_⟩
 ·exact h1
 ·rw [pJ hg1] at h1;cases h1
def aDf (k:Int):Prop:=k=3\/k=13\/k=10
theorem rW {f n:Nat}{t h:Tm}{c:Int}{e:Nat->Nat}(hg2:hg 2 t=true)(hk:kr n e t)(hh:rI f t=(some h,c))(hb:aDf h.k):hg 2 h=true/\kr n e h:=by
 rcases nH hh with ⟨_,rfl⟩|⟨u,f',h1,h2⟩
 ·exact ⟨hg2,hk⟩
 ·have h3:=aUi hg2 h1;have h4:=qE h3 h2;subst h4;have:=rK h3;unfold aDf at hb
  omega
theorem aWj {f:Nat}{s m r h:Tm}{c:Int}{n1 n2:Int}(hs:hg 2 s=true)(hm:hg 1 m=true)(hh:rI f (.mk 5 n1 [.mk 5 n2 [s,m],r])=(some h,c)):h.k=5:=by
 rcases nH hh with ⟨_,rfl⟩|⟨u,f',h1,h2⟩
 ·rfl
 have hr:cH 5 [.mk 5 n2 [s,m],r]=0:=by unfold cH;rw [if_pos rfl];exact if_neg (by show ¬(5:Int)=4;omega)
 have hmn:dD 5=0:=rfl;rw [dT,if_pos hr,hmn,if_neg (by omega)] at h1;have h1':(dT (.mk 5 n2 [s,m])).map (·::[r])=(yA 0 [.mk 5 n2 [s,m],r]):=rfl;rw [show (0:Int).toNat=0 from rfl,<- h1'] at h1;cases hi:dT (.mk 5 n2 [s,m]) with
 | none=>rw [hi] at h1;cases h1
 | some v=>
  rw [hi] at h1;obtain rfl:u = .mk 5 n1 [v,r]:=by injection h1 with h1;exact h1.symm
  -- v is a leaf,or an application of a leaf to m
  have hv:hg 1 v=true\/∃l,hg 1 l=true/\v = .mk 5 n2 [l,m]:=by
   rw [dT] at hi;by_cases hr2:cH 5 [s,m]=0
   ·rw [if_pos hr2,hmn,if_neg (by omega),show (0:Int).toNat=0 from rfl] at hi;have hi':(dT s).map (·::[m])=yA 0 [s,m]:=rfl;rw [<- hi'] at hi;cases hs':dT s with
    | none=>rw [hs'] at hi;cases hi
    | some l=>
     rw [hs'] at hi;injection hi with hi;exact .inr ⟨l,aUi hs hs',hi.symm⟩
   ·rw [if_neg hr2] at hi;injection hi with hi;have hr1:cH 5 [s,m]=1/\s.k=4:=by
     unfold cH at hr2⊢
     rw [if_pos rfl] at hr2⊢;by_cases h4:gV [s,m] 0=4
     ·exact ⟨if_pos h4,h4⟩
     ·exact absurd (if_neg h4) hr2
    rw [gG,if_pos hr1.1] at hi;obtain ⟨ks,ns,ss⟩:=s;have hk4:ks=4:=hr1.2;subst hk4;have a4:aK 4=2:=rfl;have hl:=(hg_iff.1 hs).1;have hc:=cJ hs (i:=1) (by omega);have hi2:v=dC m 0 0 (aI ss 1):=hi.symm;rw [hi2];rcases nU hc m with h|⟨h,_⟩
    ·rw [h];exact .inl hm
    ·exact .inl h
  -- an application of a leaf,or of an application of a leaf
  rcases nH h2 with ⟨_,rfl⟩|⟨u2,f2,h3,_⟩
  ·rfl
  exfalso
  have no:∀(l y:Tm) (n:Int),hg 1 l=true->dT (.mk 5 n [l,y])=none:=by
   intro l y n hl;have h0:=rK hl;have hr:cH 5 [l,y]=0:=by unfold cH;rw [if_pos rfl];exact if_neg (by show ¬l.k=4;omega)
   rw [dT,if_pos hr,hmn,if_neg (by omega),show (0:Int).toNat=0 from rfl];have hi':(dT l).map (·::[y])=yA 0 [l,y]:=rfl;rw [<- hi',pJ hl];rfl
  rcases hv with hv|⟨l,hl,rfl⟩
  ·rw [no v r n1 hv] at h3;cases h3
  ·have hr:cH 5 [.mk 5 n2 [l,m],r]=0:=by unfold cH;rw [if_pos rfl];exact if_neg (by show ¬(5:Int)=4;omega)
   rw [dT,if_pos hr,hmn,if_neg (by omega),show (0:Int).toNat=0 from rfl] at h3;have hi':(dT (.mk 5 n2 [l,m])).map (·::[r])=yA 0 [.mk 5 n2 [l,m],r]:=rfl;rw [<- hi',no l m n2 hl] at h3;cases h3
theorem aAl {k:Int}{ks:List Tm}(h:cH k ks≠0):(k=5/\cH k ks=1/\gV ks 0=4)\/(k=9/\cH k ks=2/\gV ks 3=7)\/(k=9/\cH k ks=3/\gV ks 3=8)\/(k=12/\cH k ks=4/\gV ks 1=11)\/(k=15/\cH k ks=5/\gV ks 0=14)\/(k=16/\cH k ks=6/\gV ks 0=14):=by
 unfold cH at h⊢
 by_cases k5:k=5
 ·subst k5;rw [if_pos rfl] at h⊢;by_cases z:gV ks 0=4
  ·rw [if_pos z];exact .inl ⟨rfl,rfl,z⟩
  ·exact absurd (if_neg z) h
 rw [if_neg k5] at h⊢;by_cases k9:k=9
 ·subst k9;rw [if_pos rfl] at h⊢;by_cases z:gV ks 3=7
  ·rw [if_pos z];exact .inr (.inl ⟨rfl,rfl,z⟩)
  rw [if_neg z] at h⊢;by_cases z2:gV ks 3=8
  ·rw [if_pos z2];exact .inr (.inr (.inl ⟨rfl,rfl,z2⟩))
  ·exact absurd (if_neg z2) h
 rw [if_neg k9] at h⊢;by_cases k12:k=12
 ·subst k12;rw [if_pos rfl] at h⊢;by_cases z:gV ks 1=11
  ·rw [if_pos z];exact .inr (.inr (.inr (.inl ⟨rfl,rfl,z⟩)))
  ·exact absurd (if_neg z) h
 rw [if_neg k12] at h⊢;by_cases k15:k=15
 ·subst k15;rw [if_pos rfl] at h⊢;by_cases z:gV ks 0=14
  ·rw [if_pos z];exact .inr (.inr (.inr (.inr (.inl ⟨rfl,rfl,z⟩))))
  ·exact absurd (if_neg z) h
 rw [if_neg k15] at h⊢;by_cases k16:k=16
 ·subst k16;rw [if_pos rfl] at h⊢;by_cases z:gV ks 0=14
  ·rw [if_pos z];exact .inr (.inr (.inr (.inr (.inr ⟨rfl,rfl,z⟩))))
  ·exact absurd (if_neg z) h
 rw [if_neg k16] at h;exact absurd rfl h
theorem aBp {ks:List Tm}{i:Nat}{k:Int}(h:gV ks i=k)(hl:i<ks.length):∃n ls,aI ks i = .mk k n ls:=by
 rw [xK ks i hl] at h;cases hh:aI ks i with
 | mk a b l=>
  rw [hh] at h;have:a=k:=h;exact ⟨b,l,by rw [this]⟩
theorem sR {f n:Nat}{t h:Tm}{c:Int}{e:Nat->Nat}(hg3:hg 3 t=true)(hk:kr n e t)(hh:rI f t=(some h,c))(hb:aDf h.k):hg 3 h=true/\kr n e h:=by
 have fin2:∀{f u},hg 2 u=true->kr n e u->rI f u=(some h,c)->hg 3 h=true/\kr n e h:=λ h1 h2 h3=>by
  obtain ⟨a,b⟩:=rW h1 h2 h3 hb;exact ⟨fH (by omega) a,b⟩
 rcases nH hh with ⟨_,rfl⟩|⟨u,f',h1,h2⟩
 ·exact ⟨hg3,hk⟩
 obtain ⟨k,m,ks⟩:=t;have ha:=(hg_iff.1 hg3).1;have a5:aK 5=2:=rfl;have a9:aK 9=4:=rfl;have a12:aK 12=3:=rfl;have a15:aK 15=1:=rfl;have a16:aK 16=1:=rfl;have a4:aK 4=2:=rfl;have a8:aK 8=1:=rfl;have a14:aK 14=3:=rfl;have hkid:∀i,i<ks.length->hg 2 (aI ks i)=true:=λ i hi=>cJ hg3 hi
 rw [dT] at h1;by_cases hr:cH k ks=0
 ·rw [if_pos hr] at h1;split at h1
  ·cases h1
  rename_i hm
  obtain ⟨i,hi⟩:∃i:Nat,dD k=(i:Int):=⟨(dD k).toNat,by omega⟩;rw [hi,Int.toNat_natCast] at h1;by_cases hl:i<ks.length
  ·rw [pD ks i hl,<- pA hl] at h1;cases hs:dT (aI ks i) with
   | none=>rw [hs] at h1;cases h1
   | some l=>
    rw [hs] at h1;obtain rfl:u = .mk k m (ks.set i l):=by injection h1 with h1;exact h1.symm
    have hl1:=aUi (hkid i hl) hs;have hlk:=rK hl1;have hkl:gV (ks.set i l) i=l.k:=by simp [gV,hl]
    have hkm:k=5\/k=15\/k=16\/k=9\/k=12:=by
     unfold dD at hi
     repeat' split at hi
     all_goals omega
    rcases nH h2 with ⟨_,rfl⟩|⟨u2,f2,h3,h4⟩
    ·exfalso;unfold aDf at hb;have hb:k=3\/k=13\/k=10:=hb;omega
    ·rw [dT] at h3;by_cases hr2:cH k (ks.set i l)=0
     ·rw [if_pos hr2] at h3;split at h3
      ·cases h3
      ·rw [hi,Int.toNat_natCast,pD _ i (by simpa using hl)] at h3;simp only [List.getElem_set_self] at h3
       rw [pJ hl1] at h3;cases h3
     ·rw [if_neg hr2] at h3;injection h3 with h3;rcases aAl hr2 with ⟨rfl,_,z⟩|⟨rfl,z1,z⟩|⟨rfl,_,z⟩|⟨rfl,_,z⟩|⟨rfl,_,z⟩|⟨rfl,_,z⟩
      ·have:i=0:=by have:dD 5=0:=rfl;omega
       subst this;rw [hkl] at z;omega
      ·have hi3:i=3:=by have:dD 9=3:=rfl;omega
       subst hi3;rw [gG,if_neg (by omega),if_pos z1] at h3;have hk1:aI (ks.set 3 l) 1=aI ks 1:=by simp [aI,List.getD]
       rw [hk1] at h3;subst h3;exact fin2 (hkid 1 (by omega)) (wH hg3 hk (by omega) rfl) h4
      ·have hi3:i=3:=by have:dD 9=3:=rfl;omega
       subst hi3;rw [hkl] at z;omega
      ·have hi3:i=1:=by have:dD 12=1:=rfl;omega
       subst hi3;rw [hkl] at z;omega
      ·have hi3:i=0:=by have:dD 15=0:=rfl;omega
       subst hi3;rw [hkl] at z;omega
      ·have hi3:i=0:=by have:dD 16=0:=rfl;omega
       subst hi3;rw [hkl] at z;omega
  ·rw [(jA ks i (by omega)).2] at h1;cases h1
 ·rw [if_neg hr] at h1;injection h1 with h1;rcases aAl hr with ⟨rfl,z1,z⟩|⟨rfl,z1,z⟩|⟨rfl,z1,z⟩|⟨rfl,z1,z⟩|⟨rfl,z1,z⟩|⟨rfl,z1,z⟩
  ·rw [gG,if_pos z1] at h1;obtain ⟨ln,ls,hl⟩:=aBp z (by omega);have hL:=hkid 0 (by omega);rw [hl] at hL h1;have hc:=cJ hL (i:=1) (by have:=(hg_iff.1 hL).1;omega);have h1':u=dC (aI ks 1) 0 0 (aI ls 1):=h1.symm;rcases nU hc (aI ks 1) with h3|⟨h3,_⟩
   ·rw [h1',h3] at h2;exact fin2 (hkid 1 (by omega)) (wH hg3 hk (by omega) rfl) h2
   ·rw [h1'] at h2;exact fin2 (fH (by omega) h3) (vD h3) h2
  ·rw [gG,if_neg (by omega),if_pos z1] at h1;subst h1;exact fin2 (hkid 1 (by omega)) (wH hg3 hk (by omega) rfl) h2
  ·rw [gG,if_neg (by omega),if_neg (by omega),if_pos z1] at h1;subst h1;obtain ⟨ln,ls,hl⟩:=aBp z (by omega);have hL:=hkid 3 (by omega);rw [hl] at hL h2;have hm1:=cJ hL (i:=0) (by have:=(hg_iff.1 hL).1;omega);have:=aWj (hkid 2 (by omega)) hm1 h2;unfold aDf at hb;omega
  ·rw [gG,if_neg (by omega),if_neg (by omega),if_neg (by omega),if_pos z1] at h1;subst h1;exact fin2 (hkid 2 (by omega)) (wH hg3 hk (by omega) rfl) h2
  ·rw [gG,if_neg (by omega),if_neg (by omega),if_neg (by omega),if_neg (by omega),if_pos z1] at h1;obtain ⟨ln,ls,hl⟩:=aBp z (by omega);have hL:=hkid 0 (by omega);rw [hl] at hL h1;have hc:=cJ hL (i:=1) (by have:=(hg_iff.1 hL).1;omega);have h1':u=aI ls 1:=h1.symm;rw [h1'] at h2;exact fin2 (fH (by omega) hc) (vD hc) h2
  ·rw [gG,if_neg (by omega),if_neg (by omega),if_neg (by omega),if_neg (by omega),if_neg (by omega)] at h1;obtain ⟨ln,ls,hl⟩:=aBp z (by omega);have hL:=hkid 0 (by omega);rw [hl] at hL h1;have hc:=cJ hL (i:=2) (by have:=(hg_iff.1 hL).1;omega);have h1':u=aI ls 2:=h1.symm;rw [h1'] at h2;exact fin2 (fH (by omega) hc) (vD hc) h2
def szB:Nat->Nat
 | 0=>0
 | d+1=>1+4*szB d
theorem vF:∀{d:Nat} {t:Tm},hg d t=true->t.size<=szB d
 | 0,t,h=>by cases h
 | d+1,.mk k n ks,h=>by
  obtain ⟨h1,_,h3⟩:=hg_iff.1 h;have h4:=(fN k).1;have key:∀ts:List Tm,(∀t,t∈ts->hg d t=true)->aH ts<=ts.length*szB d:=by
   intro ts;induction ts with
   | nil=>intro _;simp [aH]
   | cons a r ih=>
    intro hh;have e1:=vF (hh a (by simp));have e2:=ih λ t ht=>hh t (by simp [ht])
    rw [aH,List.length_cons,Nat.succ_mul];omega
  have h5:=key ks h3;have h6:ks.length*szB d<=4*szB d:=Nat.mul_le_mul_right _ (by omega);rw [Tm.size,szB];omega
theorem aEt:∀{a d:Nat} {t:Tm},shape a t=true->hg d t=true->shape d t=true
 | _,0,t,_,h=>by cases h
 | 0,d+1,t,h,_=>by cases h
 | a+1,d+1,.mk k n ks,h,hd=>by
  obtain ⟨h1,h2,h3,h4⟩:=(bA a k n ks).1 h;exact (bA d k n ks).2 ⟨h1,h2,h3,λ t ht=>aEt (h4 t ht) ((hg_iff.1 hd).2.2 t ht)⟩
def ent (G:List Tm)(n:Nat):Tm:=G.getD (G.length - 1 - n) default
theorem yU (G:List Tm)(A:Tm):ent (G++[A]) 0=A:=by simp [ent,List.getD]
theorem aAi (G:List Tm)(A:Tm){n:Nat}(h:n<G.length):ent (G++[A]) (n+1)=ent G n:=by
 unfold ent
 rw [List.length_append,show G.length+[A].length - 1 - (n+1)=G.length - 1 - n from by simp;omega];simp only [List.getD]
 rw [List.getElem?_append_left (by omega)]
def Low (G:List Tm)(e:Nat->Nat):Prop:=∀n,n<G.length->hg 3 (ent G n)=true/\cE (((G.length - 1 - n:Nat):Int)+4) (ent G n)=true/\e n=rk (ent G n) (λ m=>e (n+1+m))
theorem Low.push {G:List Tm}{e:Nat->Nat}{A:Tm}(h:Low G e)(hA:hg 3 A=true)(hc:cE ((G.length:Int)+4) A=true):Low (G++[A]) (psh (rk A e) e):=by
 intro n hn;rw [List.length_append] at hn⊢;have hn:n<G.length+1:=by simpa using hn
 cases n with
 | zero=>
  rw [yU];refine ⟨hA,by simpa using hc,?_⟩;show rk A e=rk A (λ m=>psh (rk A e) e (0+1+m))
  congr 1
  funext m
  rw [show 0+1+m=m+1 from by omega];rfl
 | succ n=>
  have hn2:n<G.length:=by omega
  rw [aAi G A hn2];obtain ⟨h1,h2,h3⟩:=h n hn2;refine ⟨h1,by rw [show G.length+[A].length - 1 - (n+1)=G.length - 1 - n from by simp;omega];exact h2,?_⟩;show e n=_
  rw [h3];congr 1
  funext m
  rw [show n+1+1+m=(n+1+m)+1 from by omega];rfl
theorem aHv {G:List Tm}{e:Nat->Nat}(h:Low G e){m:Nat}(hm:m<G.length):hg 3 (eZ ((m:Int)+1) 0 (ent G m))=true/\cE ((G.length:Int)+4) (eZ ((m:Int)+1) 0 (ent G m))=true/\rk (eZ ((m:Int)+1) 0 (ent G m)) e=e m:=by
 obtain ⟨h1,h2,h3⟩:=h m hm;refine ⟨?_,?_,?_⟩
 ·have:=(aDi (m+1)).1 (ent G m) 3 0 (by omega) h1;rw [show ((m+1:Nat):Int)=(m:Int)+1 from by omega] at this;exact this
 ·have:=(aHj ((m:Int)+1) (by omega)).1 (ent G m) _ 0 h2;rw [show (((G.length - 1 - m:Nat):Int)+4+((m:Int)+1))=(G.length:Int)+4 from by omega] at this;exact this
 ·have:=(aDr (m+1)).1 (ent G m) 3 h1 0 (λ k=>e (m+1+k)) e (λ k=>by rw [if_pos (by omega)];congr 1;omega);rw [show ((m+1:Nat):Int)=(m:Int)+1 from by omega,show ((0:Nat):Int)=0 from rfl] at this;rw [this,<- h3]
theorem wG {N:Nat}{G:List Tm}{n:Int}{ks:List Tm}{a:Tm}(h:bL N G (.mk 1 n ks)=some (.ok a)):∃m:Nat,n=(m:Int)/\m<G.length/\a=eZ ((m:Int)+1) 0 (ent G m):=by
 cases N with
 | zero=>cases h
 | succ N=>
  obtain ⟨hv,_,hj⟩:=jS h;have hn:=(aX hv).2.1;unfold mM at hj
  rw [if_pos (show (Tm.mk 1 n ks).k=1 from rfl)] at hj;split at hj
  ·cases hj
  ·rename_i hlt
   have hlt:¬(G.length:Int)<=n:=hlt;obtain ⟨m,rfl⟩:∃m:Nat,n=(m:Int):=⟨n.toNat,by omega⟩;have:=(fV hj).1;refine ⟨m,rfl,by omega,?_⟩;rw [this];show eZ ((m:Int)+1) 0 (G.getD (G.length - 1 - ((m:Int)).toNat) default)=_
   rw [Int.toNat_natCast];rfl
theorem tA {N:Nat}{G:List Tm}{k n:Int}{ks:List Tm}{a:Tm}(hk:k=2\/k=6\/k=7)(h:bL N G (.mk k n ks)=some (.ok a)):hg 1 a=true/\∀d,cE d a=true:=by
 cases N with
 | zero=>cases h
 | succ N=>
  obtain ⟨hv,_,hj⟩:=jS h;have hn:=(aX hv).2.1;unfold mM at hj
  have e1:¬(Tm.mk k n ks).k=1:=by show ¬k=1;omega
  rw [if_neg e1] at hj;by_cases e2:k=2
  ·rw [if_pos (show (Tm.mk k n ks).k=2 from e2)] at hj;split at hj
   ·cases hj
   ·have:=fI hj;rw [<- this];have hn:(0:Int)<=n:=hn;exact ⟨hg_iff.2 ⟨rfl,by show (0:Int)<=n+1;omega,λ t ht=>by cases ht⟩,λ d=>mC (by omega)⟩
  rw [if_neg (show ¬(Tm.mk k n ks).k=2 from e2)] at hj;by_cases e6:k=6
  ·rw [if_pos (show (Tm.mk k n ks).k=6 from e6)] at hj;have:=fI hj;rw [<- this];exact ⟨by decide,λ d=>mC (by omega)⟩
  rw [if_neg (show ¬(Tm.mk k n ks).k=6 from e6)] at hj;rw [if_pos (show (Tm.mk k n ks).k=7 by show k=7;omega)] at hj;have:=fI hj;rw [<- this];exact ⟨by decide,λ d=>mC (by omega)⟩
theorem mJ {N:Nat}{G:List Tm}{n:Int}{X c F:Tm}(h:bL N G (.mk 4 n [X,c])=some (.ok F)):∃M T,bL M (G++[X]) c=some (.ok T)/\F = .mk 3 0 [X,T]/\∃s,bL M G F=some (.ok s):=by
 cases N with
 | zero=>cases h
 | succ N=>
  obtain ⟨hv,_,hj⟩:=jS h;have hj':(bd (oW (gL (bL N) G (.mk 4 n [X,c]) 0)) λ _=>bd (gL (bL N) G (.mk 4 n [X,c]) 1) λ u=>bd (kV (bL N) G (.mk 3 0 [X,u])) λ _=>eC (.mk 3 0 [X,u]))=some (.ok F):=hj;obtain ⟨_,_,h2⟩:=bY hj';obtain ⟨T,h3,h4⟩:=bY h2;obtain ⟨s,h5,h6⟩:=bY h4;obtain ⟨rfl,hvp⟩:=fV h6;rw [nI hvp] at h5;rw [tN rfl] at h3;exact ⟨N,T,h3,rfl,s,h5⟩
theorem kH {N:Nat}{G:List Tm}{n:Int}{y F:Tm}(h:bL N G (.mk 11 n [y])=some (.ok F)):∃M s,bL M G y=some (.ok s)/\F = .mk 10 0 [s,y,y]/\∃l,bL M G s=some (.ok l):=by
 cases N with
 | zero=>cases h
 | succ N=>
  obtain ⟨hv,_,hj⟩:=jS h;have hj':(bd (gL (bL N) G (.mk 11 n [y]) 0) λ s=>bd (oW (kV (bL N) G s)) λ _=>eC (.mk 10 0 [s,y,y]))=some (.ok F):=hj;obtain ⟨s,h1,h2⟩:=bY hj';obtain ⟨l,h3,h4⟩:=bY h2;obtain ⟨l',h5⟩:=aQy h3;rw [gE rfl] at h1;rw [nI (dG h1)] at h5;exact ⟨N,s,h1,(fV h4).1,l',h5⟩
theorem qX {s h:Tm}(hh:lU s = .ok h):rI 200 s=(some h,0):=by
 have:=eL hh;rw [pI 200 s this.1];exact this.2.2
theorem oQ {k n:Int}{ks:List Tm}{h:Tm}(hk:¬(k=5\/k=9\/k=12\/k=15\/k=16))(hh:lU (.mk k n ks) = .ok h):h = .mk k n ks:=by
 rcases nH (qX hh) with ⟨_,h1⟩|⟨u,f,h1,_⟩
 ·exact h1
 ·exfalso
  rw [dT,if_pos (tL ks hk),if_pos (by unfold dD;rw [if_neg (by omega),if_neg (by omega),if_neg (by omega)];omega)] at h1;cases h1
theorem vT {o:Option (Rs Tm)}{k:Int}{h:Tm}(hh:oA o k=some (.ok h)):∃s,o=some (.ok s)/\lU s = .ok h/\h.k=k:=by
 obtain ⟨s,h1,h2⟩:=bY hh;obtain ⟨t,h3,h4⟩:=bY h2;unfold gU at h4
 split at h4
 ·have:=fI h4;subst this;exact ⟨s,h1,Option.some.inj h3,‹_›⟩
 ·injection h4 with h4;cases h4
theorem mA {d:Nat}{k n:Int}{ks:List Tm}(h:hg d (.mk k n ks)=true)(hk:aK k=2):∃a b,ks=[a,b]:=by
 cases d with
 | zero=>cases h
 | succ d=>exact mS (l:=ks) (by have:=(hg_iff.1 h).1;omega)
theorem oV {d:Nat}{k n:Int}{ks:List Tm}(h:hg d (.mk k n ks)=true)(hk:aK k=1):∃a,ks=[a]:=by
 cases d with
 | zero=>cases h
 | succ d=>exact tZ (l:=ks) (by have:=(hg_iff.1 h).1;omega)
theorem tO {d:Nat}{k n:Int}{ks:List Tm}(h:hg d (.mk k n ks)=true)(hk:aK k=3):∃a b c,ks=[a,b,c]:=by
 cases d with
 | zero=>cases h
 | succ d=>exact nY (l:=ks) (by have:=(hg_iff.1 h).1;omega)
theorem aTy {d:Nat}{k n:Int}{ks:List Tm}(h:hg d (.mk k n ks)=true)(hk:aK k=4):∃a b c x,ks=[a,b,c,x]:=by
 cases d with
 | zero=>cases h
 | succ d=>exact aEn (l:=ks) (by have:=(hg_iff.1 h).1;omega)
theorem aMo {n:Nat}{e:Nat->Nat}{a b:Tm}(ha:rk a e<n)(hb:rk b e<n):kr n e (kB a b):=by
 intro i hi;have hu:aR 5 (i:Int)=0:=lR (by omega) _;rw [if_pos hu];have:i=0\/i=1:=by have:i<2:=hi;omega
 rcases this with rfl|rfl
 ·exact ha
 ·exact hb
theorem aPk {d:Nat}{a b:Tm}(ha:hg d a=true)(hb:hg d b=true):hg (d+1) (kB a b)=true:=by
 refine hg_iff.2 ⟨rfl,by omega,λ t ht=>?_⟩;rcases List.mem_cons.1 ht with rfl|ht
 ·exact ha
 ·rw [List.mem_singleton.1 ht];exact hb
theorem lI {d k n:Int}{ks:List Tm}(h:cE d (.mk k n ks)=true)(i:Nat)(hu:aR k (i:Int)=0):cE d (aI ks i)=true:=by
 have:=jR h i;rw [hu,Int.add_zero] at this;exact this
def Cm (t:Tm):Prop:=t.k=12->hg 2 (aI t.ks 1)=true\/(aI t.ks 1).k≠16
theorem cm3 {t:Tm}(h:hg 3 t=true):Cm t:=by
 obtain ⟨k,n,ks⟩:=t;intro hk;obtain rfl:k=12:=hk;obtain ⟨a,b,c,rfl⟩:=tO h rfl;exact .inl (cJ h (i:=1) (by simp))
theorem aXe {B w:Tm}(hB:hg 2 B=true)(hw:w.k≠16/\w.k≠12):Cm (dC w 0 0 B):=by
 obtain ⟨k,n,ks⟩:=B;intro hk;rw [dC] at hk⊢;by_cases h0:k=1/\n=0
 ·rw [if_pos h0,shS_zero.1] at hk;exact absurd hk hw.2
 rw [if_neg h0] at hk⊢;obtain rfl:k=12:=hk;obtain ⟨a,b,c,rfl⟩:=tO hB rfl;have hb:hg 1 b=true:=cJ hB (i:=1) (by simp);have hk1:aI (cQ w 12 0 0 0 [a,b,c]) 1=dC w 0 0 b:=wS w 12 0 0 (i:=1) (by simp);show hg 2 (aI (cQ w 12 0 0 0 [a,b,c]) 1)=true\/(aI (cQ w 12 0 0 0 [a,b,c]) 1).k≠16
 rw [hk1];rcases nU hb w with h|⟨h,_⟩
 ·rw [h];exact .inr hw.1
 ·exact .inl (fH (by omega) h)
def Ty (G:List Tm)(e:Nat->Nat)(x a:Tm):Prop:=(hg 4 a=true/\Cm a)/\(hg 2 x=true\/x.k≠16->hg 3 a=true)/\kr (rk x e) e a/\cE ((G.length:Int)+4) a=true
theorem oR {G:List Tm}{e:Nat->Nat}{x a:Tm}(h:hg 3 a=true)(hk:kr (rk x e) e a)(hc:cE ((G.length:Int)+4) a=true):Ty G e x a:=⟨⟨fH (by omega) h,cm3 h⟩,λ _=>h,hk,hc⟩
theorem lN {G:List Tm}{e:Nat->Nat}{x a:Tm}(h:hg 1 a=true)(hc:cE ((G.length:Int)+4) a=true):Ty G e x a:=oR (fH (by omega) h) (vD h) hc
theorem rE {d:Nat}{k n:Int}{ks:List Tm}(h:hg (d+1) (.mk k n ks)=true)(e:Nat->Nat){i:Nat}(hi:i<ks.length)(hu:aR k (i:Int)=0):rk (aI ks i) e<rk (.mk k n ks) e:=by
 have:=kK h e i hi;rw [if_pos hu] at this;exact this
theorem aVn {n:Int}{X c:Tm}(e:Nat->Nat):rk (.mk 4 n [X,c]) e=1+max (rk X e) (rk c (psh (rk X e) e)):=by
 rw [rk,if_neg (by omega)];have hb:binds 4=true:=rfl;simp [rkL,hb,wt]
theorem aVs {n:Int}{a b:Tm}(e:Nat->Nat):rk (.mk 5 n [a,b]) e=1+max (rk a e) (rk b e):=by
 rw [rk,if_neg (by omega)];have hb:binds 5=false:=rfl;simp [rkL,hb,wt]
theorem aPu {k n:Int}{a:Tm}(hk:k=8\/k=11\/k=15\/k=16)(e:Nat->Nat):rk (.mk k n [a]) e=wt k+rk a e:=by
 rw [rk,if_neg (by omega)];have hb:binds k=false:=by rcases hk with rfl|rfl|rfl|rfl<;>rfl
 simp [rkL,hb]
theorem aBy {G:List Tm}{e:Nat->Nat}{N:Nat}{f F h:Tm}{kd:Int}(hTT:f.k≠4->f.k≠11->Ty G e f F)(hf:hg 2 f=true)(hF:bL N G f=some (.ok F))(hh:lU F = .ok h)(hk:h.k=kd)(hkd:kd=3\/kd=13\/kd=10)(h0:(0:Int)<=(G.length:Int)+4) :
  (hg 3 h = true /\ kr (rk f e) e h /\ cE ((G.length : Int) + 4) h = true) \/ (f.k = 4 /\ kd = 3) \/ (f.k = 11 /\ kd = 10) := by
 by_cases f4:f.k=4
 ·obtain ⟨k,n,ks⟩:=f;obtain rfl:k=4:=f4;obtain ⟨X,c,rfl⟩:=mA hf rfl;obtain ⟨M,T,_,rfl,_⟩:=mJ hF;have:=oQ (by omega) hh;subst this;exact .inr (.inl ⟨rfl,hk.symm⟩)
 by_cases f11:f.k=11
 ·obtain ⟨k,n,ks⟩:=f;obtain rfl:k=11:=f11;obtain ⟨y,rfl⟩:=oV hf rfl;obtain ⟨M,s,_,rfl,_⟩:=kH hF;have:=oQ (by omega) hh;subst this;exact .inr (.inr ⟨rfl,hk.symm⟩)
 obtain ⟨_,h2,h3,h4⟩:=hTT f4 f11;have hs:=qX hh;obtain ⟨a,b⟩:=sR (h2 (.inl hf)) h3 hs (by unfold aDf;omega);have hv:=eL hh;exact .inl ⟨a,b,aRu h0 h4 hv.1 hv.2.2⟩
theorem TT {G:List Tm}{e:Nat->Nat}(hL:Low G e):∀(N:Nat) (x a:Tm),hg 3 x=true->cE ((G.length:Int)+4) x=true->x.k≠4->x.k≠11->bL N G x=some (.ok a)->Ty G e x a
 | 0,_,_,_,_,_,_,h=>by cases h
 | N+1,x,a,hx,hc,h4,h11,h=>by
  have hI:=h;obtain ⟨hv,_,hj⟩:=jS h;obtain ⟨k,n,ks⟩:=x;have h4:k≠4:=h4;have h11:k≠11:=h11;have h0:(0:Int)<=(G.length:Int)+4:=by omega
  have hkid:∀i,i<ks.length->hg 2 (aI ks i)=true:=λ i hi=>cJ hx hi
  have hckid:∀i:Nat,aR k (i:Int)=0->cE ((G.length:Int)+4) (aI ks i)=true:=λ i hu=>lI hc i hu
  have TK:∀f F,hg 2 f=true->cE ((G.length:Int)+4) f=true->bL N G f=some (.ok F)->f.k≠4->f.k≠11->Ty G e f F:=λ f F h1 h2 h3 h4 h5=>TT hL N f F (fH (by omega) h1) h2 h4 h5 h3
  by_cases e1:k=1
  ·subst e1;obtain ⟨m,rfl,hm,rfl⟩:=wG hI;obtain ⟨a1,a2,a3⟩:=aHv hL hm;refine oR a1 ?_ a2;rw [aCb,<- a3];exact kK a1 e
  by_cases e2:k=2\/k=6\/k=7
  ·obtain ⟨a1,a2⟩:=tA e2 hI;exact lN a1 (a2 _)
  by_cases e8:k=8
  ·subst e8;have hj':(bd (iE (gL (bL N) G (.mk 8 n ks) 0) nT) λ _=>some (.ok nT))=some (.ok a):=hj;obtain ⟨_,_,h2⟩:=bY hj';have:=fI h2;rw [<- this];exact lN (by decide) (mC (by omega))
  by_cases e3:k=3\/k=13
  ·have hj':(bd (oW (gL (bL N) G (.mk k n ks) 0)) λ i=>bd (oW (gL (bL N) G (.mk k n ks) 1)) λ j=>some (.ok (.mk 2 (if j<i then i else j) [])))=some (.ok a):=by
    unfold mM at hj
    rw [if_neg (show ¬(Tm.mk k n ks).k=1 from e1),if_neg (show ¬(Tm.mk k n ks).k=2 by show ¬k=2;omega),if_neg (show ¬(Tm.mk k n ks).k=6 by show ¬k=6;omega),if_neg (show ¬(Tm.mk k n ks).k=7 by show ¬k=7;omega),if_neg (show ¬(Tm.mk k n ks).k=8 from e8),if_pos (show (Tm.mk k n ks).k=3\/(Tm.mk k n ks).k=13 from e3)] at hj;exact hj
   obtain ⟨i,h1,h2⟩:=bY hj';obtain ⟨j,h3,h5⟩:=bY h2;have:=fI h5;rw [<- this];have a1:=fB h1;have a2:=fB h3;exact lN (hg_iff.2 ⟨rfl,by split<;>omega,λ t ht=>by cases ht⟩) (mC (by omega))
  by_cases e10:k=10
  ·subst e10;have hj':(bd (oW (gL (bL N) G (.mk 10 n ks) 0)) λ i=>bd (iE (gL (bL N) G (.mk 10 n ks) 1) (aI ks 0)) λ _=>bd (iE (gL (bL N) G (.mk 10 n ks) 2) (aI ks 0)) λ _=>some (.ok (.mk 2 i [])))=some (.ok a):=hj;obtain ⟨i,h1,h2⟩:=bY hj';obtain ⟨_,_,h5⟩:=bY h2;obtain ⟨_,_,h7⟩:=bY h5;have:=fI h7;rw [<- this];have a1:=fB h1;exact lN (hg_iff.2 ⟨rfl,a1.1,λ t ht=>by cases ht⟩) (mC (by omega))
  by_cases e5:k=5
  ·subst e5;obtain ⟨f,u,rfl⟩:=mA hx rfl;have hj':(bd (oA (gL (bL N) G (.mk 5 n [f,u]) 0) 3) λ h=>bd (iE (gL (bL N) G (.mk 5 n [f,u]) 1) (aI h.ks 0)) λ _=>eC (dC u 0 0 (aI h.ks 1)))=some (.ok a):=hj;obtain ⟨h,h1,h2⟩:=bY hj';obtain ⟨_,_,h5⟩:=bY h2;have ha:=(fV h5).1;obtain ⟨F,hF,hh,hhk⟩:=vT h1;rw [gE rfl] at hF;have hF:bL N G f=some (.ok F):=hF;have hf:hg 2 f=true:=hkid 0 (by simp);have hu:hg 2 u=true:=hkid 1 (by simp);have hcf:cE ((G.length:Int)+4) f=true:=hckid 0 rfl;have hcu:cE ((G.length:Int)+4) u=true:=hckid 1 rfl;have hrk:=aVs (n:=n) (a:=f) (b:=u) e;rcases aBy (TK f F hf hcf hF) hf hF hh hhk (by omega) h0 with ⟨b1,b2,b3⟩|⟨f4,_⟩|⟨_,hx⟩
   ·obtain ⟨kh,nh,sh⟩:=h;obtain rfl:kh=3:=hhk;obtain ⟨A,B,rfl⟩:=mA b1 rfl;have hB:hg 2 B=true:=cJ b1 (i:=1) (by simp);have hBr:rk B (psh (rk A e) e)<rk f e:=by have:=b2 1 (by simp);rw [if_neg (by decide)] at this;exact this
    have hcB:cE ((G.length:Int)+4+1) B=true:=by have:=jR b3 1;exact this
    have ha':a=dC u 0 0 B:=ha;obtain ⟨c1,c2⟩:=aNb (w:=u) (e:=e) (r:=rk A e) (n:=rk (.mk 5 n [f,u]) e) hB (tW (by omega) (kK hB _)) hu (by omega) (by omega);rw [ha'];exact oR c2 c1 (xI h0 hcu hcB)
   ·obtain ⟨kf,nf,sf⟩:=f;obtain rfl:kf=4:=f4;obtain ⟨X,c,rfl⟩:=mA hf rfl;obtain ⟨M,T,hT,rfl,_⟩:=mJ hF;have:=oQ (by omega) hh;subst this;have ha':a=dC u 0 0 T:=ha;have hX:hg 1 X=true:=cJ hf (i:=0) (by simp);have hcX:cE ((G.length:Int)+4) X=true:=lI hcf 0 rfl;have hc1:hg 1 c=true:=cJ hf (i:=1) (by simp);obtain ⟨kc,nc,rfl,hkc,_⟩:=gN hc1;by_cases hkc1:kc=1
    ·subst hkc1;obtain ⟨m,rfl,hm,rfl⟩:=wG hT;cases m with
     | zero=>
      rw [yU] at ha';have hz:=zE u X 0 (by omega);rw [show ((0:Nat):Int)+1=0+1 from rfl,hz,shS_zero.1] at ha';rw [ha'];exact lN hX hcX
     | succ m=>
      rw [List.length_append] at hm;have hm2:m<G.length:=by simp at hm;omega
      rw [aAi G X hm2] at ha';have hz:=zE u (ent G m) ((m:Int)+1) (by omega);rw [show (((m+1:Nat):Int)+1)=((m:Int)+1)+1 from by omega,hz] at ha';obtain ⟨a1,a2,a3⟩:=aHv hL hm2;rw [ha'];have hrl:=aVn (n:=nf) (X:=X) (c:=.mk 1 ((m+1:Nat):Int) []) e;have hrv:=aCb (e:=psh (rk X e) e) (m+1) [];have hps:psh (rk X e) e (m+1)=e m:=rfl;refine oR a1 (tW ?_ (kK a1 e)) a2;rw [a3];omega
    ·obtain ⟨a1,a2⟩:=tA (by omega) hT;rcases nU a1 u with hq|⟨hq,_⟩
     ·-- the type of a leaf that is no variable holds no variable
      have:dC u 0 0 T=T\/hg 1 (dC u 0 0 T)=true:=by
       obtain ⟨kt,nt,rfl,hkt,_⟩:=gN a1;have h1t:kt≠1:=λ hh1=>by have:=mL (a2 (-1)) hh1;have:=(hg_iff.1 a1).2.1;omega
       left
       rw [dC,if_neg (λ hh=>h1t hh.1),if_neg (λ hh=>h1t hh.1),cQ]
      rcases this with h6|h6
      ·rw [ha',h6];exact lN a1 (a2 _)
      ·rw [ha'];exact lN h6 (xI h0 hcu (a2 _))
     ·rw [ha'];exact lN hq (xI h0 hcu (a2 _))
   ·exact absurd hx (by omega)
  by_cases e9:k=9
  ·subst e9;obtain ⟨p,z,s,q,rfl⟩:=aTy hx rfl;have hj':(bd (faV (gL (bL N) G (.mk 9 n [p,z,s,q]) 0) nT) λ _=>vb (kB p (.mk 7 0 [])) (bd (iE (gL (bL N) G (.mk 9 n [p,z,s,q]) 1) (kB p (.mk 7 0 []))) λ _=>vb (kP p) (bd (iE (gL (bL N) G (.mk 9 n [p,z,s,q]) 2) (kP p)) λ _=>bd (iE (gL (bL N) G (.mk 9 n [p,z,s,q]) 3) nT) λ _=>eC (kB p q))))=some (.ok a):=hj;obtain ⟨_,_,h2⟩:=bY hj';obtain ⟨_,_,h3⟩:=bY (gM h2).2;obtain ⟨_,_,h5⟩:=bY (gM h3).2;obtain ⟨_,_,h6⟩:=bY h5;rw [(fV h6).1];have hp:hg 2 p=true:=hkid 0 (by simp);have hq:hg 2 q=true:=hkid 3 (by simp);have r1:rk p e<rk (.mk 9 n [p,z,s,q]) e:=rE hx e (i:=0) (by simp) rfl;have r2:rk q e<rk (.mk 9 n [p,z,s,q]) e:=rE hx e (i:=3) (by simp) rfl;exact oR (aPk hp hq) (aMo r1 r2) (aXi (by omega) (hckid 0 rfl) (hckid 3 rfl))
  by_cases e12:k=12
  ·subst e12;obtain ⟨p,q,z,rfl⟩:=tO hx rfl;have hj':(bd (oA (gL (bL N) G (.mk 12 n [p,q,z]) 1) 10) λ h=>bd (faV (gL (bL N) G (.mk 12 n [p,q,z]) 0) (aI h.ks 0)) λ _=>vb (kB p (aI h.ks 1)) (bd (iE (gL (bL N) G (.mk 12 n [p,q,z]) 2) (kB p (aI h.ks 1))) λ _=>eC (kB p (aI h.ks 2))))=some (.ok a):=hj;obtain ⟨h,h1,h2⟩:=bY hj';obtain ⟨_,_,h3⟩:=bY h2;obtain ⟨_,_,h5⟩:=bY (gM h3).2;have ha:=(fV h5).1;obtain ⟨F,hF,hh,hhk⟩:=vT h1;rw [gE rfl] at hF;have hF:bL N G q=some (.ok F):=hF;have hp:hg 2 p=true:=hkid 0 (by simp);have hq:hg 2 q=true:=hkid 1 (by simp);have hcp:cE ((G.length:Int)+4) p=true:=hckid 0 rfl;have hcq:cE ((G.length:Int)+4) q=true:=hckid 1 rfl;have r1:rk p e<rk (.mk 12 n [p,q,z]) e:=rE hx e (i:=0) (by simp) rfl;have r2:rk q e<rk (.mk 12 n [p,q,z]) e:=rE hx e (i:=1) (by simp) rfl;have fin:∀y,a=kB p y->hg 2 y=true->rk y e<rk (.mk 12 n [p,q,z]) e->cE ((G.length:Int)+4) y=true->Ty G e (.mk 12 n [p,q,z]) a:=λ y h1 h2 h3 h4=>by
    rw [h1];exact oR (aPk hp h2) (aMo r1 h3) (aXi (by omega) hcp h4)
   rcases aBy (TK q F hq hcq hF) hq hF hh hhk (by omega) h0 with ⟨b1,b2,b3⟩|⟨_,hx⟩|⟨f11,_⟩
   ·obtain ⟨kh,nh,sh⟩:=h;obtain rfl:kh=10:=hhk;obtain ⟨A,B,y,rfl⟩:=tO b1 rfl;refine fin y ha (cJ b1 (i:=2) (by simp)) ?_ ?_
    ·have:=b2 2 (by simp);rw [if_pos (by decide)] at this;exact Nat.lt_trans this r2
    ·exact lI b3 2 rfl
   ·exact absurd hx (by omega)
   ·obtain ⟨kf,nf,sf⟩:=q;obtain rfl:kf=11:=f11;obtain ⟨y,rfl⟩:=oV hq rfl;obtain ⟨M,s,_,rfl,_⟩:=kH hF;have:=oQ (by omega) hh;subst this;refine fin y ha (fH (by omega) (cJ hq (i:=0) (by simp))) ?_ ?_
    ·exact Nat.lt_trans (rE hq e (i:=0) (by simp) rfl) r2
    ·exact lI hcq 0 rfl
  by_cases e14:k=14
  ·subst e14;obtain ⟨S,y,z,rfl⟩:=tO hx rfl;have hj':(bd (oW (gL (bL N) G (.mk 14 n [S,y,z]) 0)) λ _=>bd (some (lU S)) λ h=>bd (gU 13 h) λ h=>bd (iE (gL (bL N) G (.mk 14 n [S,y,z]) 1) (aI h.ks 0)) λ _=>vb (dC y 0 0 (aI h.ks 1)) (bd (iE (gL (bL N) G (.mk 14 n [S,y,z]) 2) (dC y 0 0 (aI h.ks 1))) λ _=>some (.ok S)))=some (.ok a):=hj;obtain ⟨_,_,h2⟩:=bY hj';obtain ⟨_,_,h3⟩:=bY h2;obtain ⟨_,_,h5⟩:=bY h3;obtain ⟨_,_,h6⟩:=bY h5;obtain ⟨_,_,h7⟩:=bY (gM h6).2;have:=fI h7;rw [<- this];have hS:hg 2 S=true:=hkid 0 (by simp);have r1:rk S e<rk (.mk 14 n [S,y,z]) e:=rE hx e (i:=0) (by simp) rfl;exact oR (fH (by omega) hS) (tW (Nat.le_of_lt r1) (kK hS e)) (hckid 0 rfl)
  have hk16:k=15\/k=16:=pE (k:=k) (by have:=(hg_iff.1 hx).1;omega) e3 h4 e5 e9 e10 e12 e14 e1 (by omega) (by omega) (by omega) e8 h11;obtain ⟨p,rfl⟩:=oV hx (by rcases hk16 with rfl|rfl<;>rfl);have hp:hg 2 p=true:=hkid 0 (by simp);have hcp:cE ((G.length:Int)+4) p=true:=hckid 0 (lR (by omega) _);have hrk:=aPu (k:=k) (n:=n) (a:=p) (by omega) e;have hfm:∃h,oA (bL N G p) 13=some (.ok h)/\((k=15/\a=aI h.ks 0)\/(k=16/\a=dC (.mk 15 0 [p]) 0 0 (aI h.ks 1))):=by
   rcases hk16 with rfl|rfl
   ·have hj':(bd (oA (gL (bL N) G (.mk 15 n [p]) 0) 13) λ h=>some (.ok (aI h.ks 0)))=some (.ok a):=hj;obtain ⟨h,h1,h2⟩:=bY hj';rw [gE rfl] at h1;exact ⟨h,h1,.inl ⟨rfl,(fI h2).symm⟩⟩
   ·have hj':(bd (oA (gL (bL N) G (.mk 16 n [p]) 0) 13) λ h=>eC (dC (.mk 15 0 [p]) 0 0 (aI h.ks 1)))=some (.ok a):=hj;obtain ⟨h,h1,h2⟩:=bY hj';rw [gE rfl] at h1;exact ⟨h,h1,.inr ⟨rfl,(fV h2).1⟩⟩
  obtain ⟨h,h1,hcase⟩:=hfm;obtain ⟨F,hF,hh,hhk⟩:=vT h1;rcases aBy (TK p F hp hcp hF) hp hF hh hhk (by omega) h0 with ⟨b1,b2,b3⟩|⟨_,hx⟩|⟨_,hx⟩
  ·obtain ⟨kh,nh,sh⟩:=h;obtain rfl:kh=13:=hhk;obtain ⟨A,B,rfl⟩:=mA b1 rfl;have hA:hg 2 A=true:=cJ b1 (i:=0) (by simp);have hB:hg 2 B=true:=cJ b1 (i:=1) (by simp);have hAr:rk A e<rk p e:=by have:=b2 0 (by simp);rw [if_pos (by decide)] at this;exact this
   have hBr:rk B (psh (rk A e) e)<rk p e:=by have:=b2 1 (by simp);rw [if_neg (by decide)] at this;exact this
   have hcA:cE ((G.length:Int)+4) A=true:=lI b3 0 rfl;have hcB:cE ((G.length:Int)+4+1) B=true:=by have:=jR b3 1;exact this
   rcases hcase with ⟨rfl,ha⟩|⟨rfl,ha⟩
   ·have ha':a=A:=ha;rw [ha'];exact oR (fH (by omega) hA) (tW (by omega) (kK hA e)) hcA
   ·have ha':a=dC (.mk 15 0 [p]) 0 0 B:=ha;have hw:=aPu (k:=15) (n:=0) (a:=p) (by omega) e;have w15:wt 15=1:=rfl;have w16:wt 16=2:=rfl;have hgw:∀d,hg d p=true->hg (d+1) (.mk 15 0 [p])=true:=λ d hd=>hg_iff.2 ⟨rfl,by omega,λ t ht=>by rw [List.mem_singleton.1 ht];exact hd⟩
    have hcw:cE ((G.length:Int)+4) (.mk 15 0 [p])=true:=kD (λ h=>absurd h (by omega)) (by show gO _ 15 0 [p]=true;rw [gO,gO];simp only [Bool.and_true];have:aR 15 ((0:Nat):Int)=0:=rfl;rw [this];simpa using hcp);obtain ⟨c1,c2⟩:=aNb (w:=.mk 15 0 [p]) (e:=e) (r:=rk A e) (n:=rk (.mk 16 n [p]) e) (h:=3) hB (tW (by omega) (kK hB _)) (hgw 2 hp) (by omega) (by omega);rw [ha'];refine ⟨⟨c2,aXe hB ⟨by show (15:Int)≠16;omega,by show (15:Int)≠12;omega⟩⟩,λ hx2=>?_,c1,xI h0 hcw hcB⟩;have hx2:hg 2 (.mk 16 n [p])=true:=hx2.resolve_right (λ h=>h rfl);have hp1:hg 1 p=true:=cJ hx2 (i:=0) (by simp);exact (aNb (w:=.mk 15 0 [p]) (e:=e) (r:=rk A e) (n:=rk (.mk 16 n [p]) e) (h:=2) hB (tW (by omega) (kK hB _)) (hgw 1 hp1) (by omega) (by omega)).2
  ·exact absurd hx (by omega)
  ·exact absurd hx (by omega)
theorem sC {d:Nat}{t:Tm}(h:shape d t=true)(hd:d<=30)(hs:t.size<=400):aE t=true:=by
 rw [aE,Bool.and_eq_true,decide_eq_true_eq];exact ⟨eV hd t h,hs⟩
theorem jT {d:Nat}{t:Tm}(hv:aE t=true)(h:hg d t=true):shape d t=true:=aEt (bD hv) h
theorem pQ {d:Nat}{k n:Int}{a b:Tm}(hk:aK k=2)(h0:0<=n/\n<=dN k)(ha:shape d a=true)(hb:shape d b=true):shape (d+1) (.mk k n [a,b])=true:=
 (bA d k n [a,b]).2 ⟨hk,h0.1,h0.2,λ t ht=>by rcases List.mem_cons.1 ht with rfl|ht;exact ha;rw [List.mem_singleton.1 ht];exact hb⟩
theorem shape_shS:(∀(t:Tm) (d:Nat) (m b c:Int),0<=b->shape d t=true->cE m t=true->m+b+d<=21->shape d (eZ b c t)=true)/\
  (∀ (ts : List Tm) (d : Nat) (m b c k : Int) (i : Nat), 0 <= b -> (∀ t, t ∈ ts -> shape d t = true) -> gO m k i ts = true -> m + b + d <= 20 -> ∀ t, t ∈ cP b k c i ts -> shape d t = true) := by
 refine bO (λ k n ks ih d m b c hb hs hc hm=>?_) (λ d m b c k i _ _ _ _ t ht=>?_) (λ t ts h1 h2 d m b c k i hb hs hc hm u hu=>?_)
 ·cases d with
  | zero=>cases hs
  | succ d=>
   obtain ⟨h1,h2,h3,h4⟩:=(bA d k n ks).1 hs;rw [eZ];refine (bA d k _ _).2 ⟨by rw [jV];exact h1,by split<;>omega,?_,?_⟩
   ·split
    ·rename_i hk
     have:=mL hc hk.1;have hm1:dN k=20:=by rw [hk.1];rfl
     omega
    ·exact h3
   ·exact ih d m b c k 0 hb h4 (mF hc) (by omega)
 ·rw [cP] at ht;cases ht
 ·rw [cP] at hu;rw [gO,Bool.and_eq_true] at hc;have hun:=dH k i;rcases List.mem_cons.1 hu with rfl|hu
  ·exact h1 d _ b _ hb (hs t (by simp)) hc.1 (by omega)
  ·exact h2 d m b c k (i+1) hb (λ x hx=>hs x (by simp [hx])) hc.2 hm u hu
theorem size_shS:(∀(t:Tm) (b c:Int),(eZ b c t).size=t.size)/\(∀(ts:List Tm) (b c k:Int) (i:Nat),aH (cP b k c i ts)=aH ts):=by
 refine bO (λ k n ks ih b c=>?_) (λ b c k i=>?_) (λ t ts h1 h2 b c k i=>?_)
 ·rw [eZ,Tm.size,Tm.size,ih]
 ·rw [cP]
 ·rw [cP,aH,aH,h1,h2]
theorem pH {d:Nat}{p x:Tm}(hp:shape d p=true)(hx:shape d x=true)(hd:d<=29)(hs:p.size+x.size<=399):aE (kB p x)=true:=
 sC (pQ rfl ⟨by omega,by decide⟩ hp hx) (by omega) (by simp only [kB,Tm.size,aH];omega)
theorem aJo {p:Tm}{m:Int}(hp:shape 3 p=true)(hz:p.size<=21)(hc:cE m p=true)(hm:m<=16)(h0:0<=m):aE (kP p)=true:=by
 have h1:=shape_shS.1 p 3 m 1 0 (by omega) hp hc (by omega);have h2:=shape_shS.1 p 3 m 2 0 (by omega) hp hc (by omega);have z1:=size_shS.1 p 1 0;have z2:=size_shS.1 p 2 0;unfold kP
 refine sC (d:=6) ?_ (by omega) ?_
 ·refine pQ rfl ⟨by omega,by decide⟩ (eV (by omega) _ (show shape 1 nT=true by decide)) (pQ rfl ⟨by omega,by decide⟩ ?_ ?_)
  ·exact pQ rfl ⟨by omega,by decide⟩ h1 (eV (by omega) _ (show shape 1 (.mk 1 0 [])=true by decide))
  ·exact pQ rfl ⟨by omega,by decide⟩ h2 (eV (by omega) _ (show shape 2 (.mk 8 0 [.mk 1 1 []])=true by decide))
 ·simp only [nT,kB,Tm.size,aH];omega
theorem TYH {d:Nat}:∀{N:Nat} {G:List Tm} {e:Nat->Nat} {x a:Tm},d<=3->Low G e->hg d x=true->cE ((G.length:Int)+4) x=true->bL N G x=some (.ok a)->hg (d+2) a=true:=by
 induction d with
 | zero=>intro N G e x a _ _ h;cases h
 | succ d ih=>
  intro N G e x a hd hL hx hc h;by_cases h4:x.k=4
  ·obtain ⟨k,n,ks⟩:=x;obtain rfl:k=4:=h4;obtain ⟨X,c,rfl⟩:=mA hx rfl;obtain ⟨M,T,hT,rfl,_⟩:=mJ h;have hX:hg d X=true:=cJ hx (i:=0) (by simp);have hcX:cE ((G.length:Int)+4) X=true:=lI hc 0 rfl;have hcc:cE ((G.length:Int)+4+1) c=true:=jR hc 1;have:=ih (by omega) (hL.push (fH (by omega) hX) hcX) (cJ hx (i:=1) (by simp):hg d c=true) (by rw [show (((G++[X]).length:Nat):Int)+4=(G.length:Int)+4+1 from by simp;omega];exact hcc) hT;refine hg_iff.2 ⟨rfl,by omega,λ t ht=>?_⟩;rcases List.mem_cons.1 ht with rfl|ht
   ·exact fH (by omega) hX
   ·rw [List.mem_singleton.1 ht];exact this
  by_cases h11:x.k=11
  ·obtain ⟨k,n,ks⟩:=x;obtain rfl:k=11:=h11;obtain ⟨y,rfl⟩:=oV hx rfl;obtain ⟨M,s,hs,rfl,_⟩:=kH h;have hy:hg d y=true:=cJ hx (i:=0) (by simp);have:=ih (by omega) hL hy (lI hc 0 rfl) hs;refine hg_iff.2 ⟨rfl,by omega,λ t ht=>?_⟩;rcases List.mem_cons.1 ht with rfl|ht
   ·exact this
   ·rcases List.mem_cons.1 ht with rfl|ht
    ·exact fH (by omega) hy
    ·rw [List.mem_singleton.1 ht];exact fH (by omega) hy
  obtain ⟨⟨b1,_⟩,b2,_,_⟩:=TT hL N x a (fH (by omega) hx) hc h4 h11 h;by_cases rW:d+1<=2
  ·exact fH (by omega) (b2 (.inl (fH rW hx)))
  ·exact fH (by omega) b1
theorem aRe {N:Nat}{p F h:Tm}(hp:hg 2 p=true)(hF:bL N [] p=some (.ok F))(hh:lU F = .ok h):h.k≠13:=by
 have lf:∀{M:Nat} {q Q g:Tm},hg 1 q=true->bL M [] q=some (.ok Q)->lU Q = .ok g->g.k≠13/\g.k≠3/\g.k≠10:=by
  intro M q Q g hq hQ hg';obtain ⟨k,n,rfl,hk,_⟩:=gN hq;by_cases h1:k=1
  ·subst h1;obtain ⟨m,_,hm,_⟩:=wG hQ;exact absurd hm (by simp)
  ·obtain ⟨a1,_⟩:=tA (by omega) hQ;have:=qE a1 (qX hg');subst this;have:=rK a1;omega
 obtain ⟨k,n,ks⟩:=p;have ha:=(hg_iff.1 hp).1;have hk1:∀i,i<ks.length->hg 1 (aI ks i)=true:=λ i hi=>cJ hp hi
 have nof:∀{i:Nat} {kd:Int} {o:Tm} {M:Nat},i<ks.length->(kd=13\/kd=3\/kd=10)->oA (bL M [] (aI ks i)) kd=some (.ok o)->False:=by
  intro i kd o M hi hkd ho;obtain ⟨s,h1,h2,h3⟩:=vT ho;have:=lf (hk1 i hi) h1 h2;omega
 cases N with
 | zero=>cases hF
 | succ N=>
  have hF0:=hF;obtain ⟨hv,_,hj⟩:=jS hF;by_cases e0:aK k=0
  ·have hks:ks=[]:=lEn (by omega);subst hks;have:=(lf (M:=N+1) (q:=.mk k n []) (hg_iff.2 ⟨by rw [e0];rfl,(hg_iff.1 hp).2.1,λ t ht=>by cases ht⟩) hF0 hh).1;exact this
  by_cases e4:k=4
  ·subst e4;obtain ⟨X,c,rfl⟩:=mA hp rfl;obtain ⟨M,T,_,rfl,_⟩:=mJ hF0;have:=oQ (by omega) hh;subst this;show (3:Int)≠13;omega
  by_cases e11:k=11
  ·subst e11;obtain ⟨y,rfl⟩:=oV hp rfl;obtain ⟨M,s,_,rfl,_⟩:=kH hF0;have:=oQ (by omega) hh;subst this;show (10:Int)≠13;omega
  have leaf_fin:hg 1 F=true->h.k≠13:=λ h1=>by
   have:=qE h1 (qX hh);subst this;have:=rK h1;omega
  by_cases e8:k=8
  ·subst e8;have hj':(bd (iE (gL (bL N) [] (.mk 8 n ks) 0) nT) λ _=>some (.ok nT))=some (.ok F):=hj;obtain ⟨_,_,h2⟩:=bY hj';have:=fI h2;exact leaf_fin (by rw [<- this];decide)
  by_cases e3:k=3\/k=13
  ·have hj':(bd (oW (gL (bL N) [] (.mk k n ks) 0)) λ i=>bd (oW (gL (bL N) [] (.mk k n ks) 1)) λ j=>some (.ok (.mk 2 (if j<i then i else j) [])))=some (.ok F):=by
    rcases e3 with rfl|rfl<;>exact hj
   obtain ⟨i,h1,h2⟩:=bY hj';obtain ⟨j,h3,h5⟩:=bY h2;have:=fI h5;have a1:=fB h1;have a2:=fB h3;exact leaf_fin (by rw [<- this];exact hg_iff.2 ⟨rfl,by split<;>omega,λ t ht=>by cases ht⟩)
  by_cases e10:k=10
  ·subst e10;have hj':(bd (oW (gL (bL N) [] (.mk 10 n ks) 0)) λ i=>bd (iE (gL (bL N) [] (.mk 10 n ks) 1) (aI ks 0)) λ _=>bd (iE (gL (bL N) [] (.mk 10 n ks) 2) (aI ks 0)) λ _=>some (.ok (.mk 2 i [])))=some (.ok F):=hj;obtain ⟨i,h1,h2⟩:=bY hj';obtain ⟨_,_,h5⟩:=bY h2;obtain ⟨_,_,h7⟩:=bY h5;have:=fI h7;have a1:=fB h1;exact leaf_fin (by rw [<- this];exact hg_iff.2 ⟨rfl,a1.1,λ t ht=>by cases ht⟩)
  by_cases e5:k=5
  ·subst e5;have hj':(bd (oA (gL (bL N) [] (.mk 5 n ks) 0) 3) λ h=>bd (iE (gL (bL N) [] (.mk 5 n ks) 1) (aI h.ks 0)) λ _=>eC (dC (aI ks 1) 0 0 (aI h.ks 1)))=some (.ok F):=hj;obtain ⟨f,h1,_⟩:=bY hj';rw [gE rfl] at h1;exact (nof (i:=0) (by have:aK 5=2:=rfl;omega) (by omega) h1).elim
  by_cases e9:k=9
  ·subst e9;have hj':(bd (faV (gL (bL N) [] (.mk 9 n ks) 0) nT) λ _=>vb (kB (aI ks 0) (.mk 7 0 [])) (bd (iE (gL (bL N) [] (.mk 9 n ks) 1) (kB (aI ks 0) (.mk 7 0 []))) λ _=>vb (kP (aI ks 0)) (bd (iE (gL (bL N) [] (.mk 9 n ks) 2) (kP (aI ks 0))) λ _=>bd (iE (gL (bL N) [] (.mk 9 n ks) 3) nT) λ _=>eC (kB (aI ks 0) (aI ks 3)))))=some (.ok F):=hj;obtain ⟨f,h1,_⟩:=bY hj';obtain ⟨f2,h2,_⟩:=bY h1;rw [gE rfl] at h2;exact (nof (i:=0) (by have:aK 9=4:=rfl;omega) (by omega) h2).elim
  by_cases e12:k=12
  ·subst e12;have hj':(bd (oA (gL (bL N) [] (.mk 12 n ks) 1) 10) λ h=>bd (faV (gL (bL N) [] (.mk 12 n ks) 0) (aI h.ks 0)) λ _=>vb (kB (aI ks 0) (aI h.ks 1)) (bd (iE (gL (bL N) [] (.mk 12 n ks) 2) (kB (aI ks 0) (aI h.ks 1))) λ _=>eC (kB (aI ks 0) (aI h.ks 2))))=some (.ok F):=hj;obtain ⟨f,h1,_⟩:=bY hj';rw [gE rfl] at h1;exact (nof (i:=1) (by have:aK 12=3:=rfl;omega) (by omega) h1).elim
  by_cases e14:k=14
  ·subst e14;have hj':(bd (oW (gL (bL N) [] (.mk 14 n ks) 0)) λ _=>bd (some (lU (aI ks 0))) λ h=>bd (gU 13 h) λ h=>bd (iE (gL (bL N) [] (.mk 14 n ks) 1) (aI h.ks 0)) λ _=>vb (dC (aI ks 1) 0 0 (aI h.ks 1)) (bd (iE (gL (bL N) [] (.mk 14 n ks) 2) (dC (aI ks 1) 0 0 (aI h.ks 1))) λ _=>some (.ok (aI ks 0))))=some (.ok F):=hj;obtain ⟨_,_,h2⟩:=bY hj';obtain ⟨g,h3,h4⟩:=bY h2;obtain ⟨g',h5,_⟩:=bY h4;have hS:=hk1 0 (by have:aK 14=3:=rfl;omega);have:=qE hS (qX (Option.some.inj h3));subst this;unfold gU at h5
   split at h5
   ·have:=rK hS;omega
   ·injection h5 with h5;cases h5
  have hk16:k=15\/k=16:=pE (k:=k) (by omega) e3 e4 e5 (by omega) e10 e12 e14 (λ h=>e0 (by rw [h];rfl)) (λ h=>e0 (by rw [h];rfl)) (λ h=>e0 (by rw [h];rfl)) (λ h=>e0 (by rw [h];rfl)) e8 e11;rcases hk16 with rfl|rfl
  ·have hj':(bd (oA (gL (bL N) [] (.mk 15 n ks) 0) 13) λ h=>some (.ok (aI h.ks 0)))=some (.ok F):=hj;obtain ⟨f,h1,_⟩:=bY hj';rw [gE rfl] at h1;exact (nof (i:=0) (by have:aK 15=1:=rfl;omega) (by omega) h1).elim
  ·have hj':(bd (oA (gL (bL N) [] (.mk 16 n ks) 0) 13) λ h=>eC (dC (.mk 15 0 [aI ks 0]) 0 0 (aI h.ks 1)))=some (.ok F):=hj;obtain ⟨f,h1,_⟩:=bY hj';rw [gE rfl] at h1;exact (nof (i:=0) (by have:aK 16=1:=rfl;omega) (by omega) h1).elim
theorem vR {G:List Tm}{t:Tm}(hv:aE t=true)(hc:20<G.length):T G t:=⟨1,.no false,by rw [bL,if_neg (λ h=>by omega),if_pos hv]⟩
theorem oJ {G:List Tm}{k n:Int}{ks:List Tm}(hv:aE (.mk k n ks)=true)(hk:k≠4/\k≠9/\k≠11/\k≠12/\k≠14)(h:∀i,i<ks.length->T (if aR k (i:Int)=0 then G else G++[aI ks 0]) (aI ks i)):T G (.mk k n ks):=by
 by_cases hc:G.length<=20
 ·exact nA hv hc h (λ e=>absurd e hk.1) (λ e=>absurd e hk.2.1) (λ e=>absurd e hk.2.2.1) (λ e=>absurd e hk.2.2.2.1) (λ e=>absurd e hk.2.2.2.2)
 ·exact vR hv (by omega)
theorem sS {G:List Tm}{k n:Int}(hv:aE (.mk k n [])=true):T G (.mk k n []):=by
 have ha:aK k=0:=(aX hv).1;refine oJ hv ⟨?_,?_,?_,?_,?_⟩ λ i hi=>absurd hi (by simp)
 all_goals (intro e;subst e;exact absurd ha (by decide))
theorem aIx (G:List Tm):T G kN:=sS (by decide +kernel)
theorem aMw {G:List Tm}{b:Tm}(hv:aE (.mk 4 0 [kN,b])=true)(hb:T (G++[kN]) b)(h4:∀N u,bL N (G++[kN]) b=some (.ok u)->TR G (.mk 3 0 [kN,u])):T G (.mk 4 0 [kN,b]):=by
 by_cases hc:G.length<=20
 ·refine nA hv hc (λ i hi=>?_) (λ _=>h4) (λ e=>absurd e (by decide)) (λ e=>absurd e (by decide)) (λ e=>absurd e (by decide)) (λ e=>absurd e (by decide));have hi2:i=0\/i=1:=by have:i<2:=hi;omega
  rcases hi2 with rfl|rfl
  ·exact aIx _
  ·exact hb
 ·exact vR hv (by omega)
theorem aVl {α:Type}{o:Option (Rs α)}(h:Sm o)(hn:kF o):Sm (nof o):=by
 obtain ⟨r,rfl⟩:=h;match r,hn with
 | .ok a,_=>exact ⟨_,rfl⟩
 | .no false,_=>exact ⟨_,rfl⟩
 | .no true,hn=>exact absurd rfl hn
theorem aXn {G:List Tm}{u:Tm}(hv:aE (.mk 3 0 [kN,u])=true)(hu:T (G++[kN]) u):T G (.mk 3 0 [kN,u]):=oJ hv (by decide) λ i hi=>by
 have hi2:i=0\/i=1:=by have:i<2:=hi;omega
 rcases hi2 with rfl|rfl
 ·exact aIx _
 ·exact hu
theorem aMj {G:List Tm}{u:Tm}(hu:T (G++[kN]) u)(hn:∀N,kF (iW (bJ N) (G++[kN]) u)):TR G (.mk 3 0 [kN,u]):=by
 by_cases hv:aE (.mk 3 0 [kN,u])=true
 ·exact (aXn hv hu).tr
 ·obtain ⟨N,h⟩:=hu;refine ⟨N,?_⟩;rw [kV,if_neg hv];exact aVl (qV h) λ e=>hn N (gA (fQ N _ _) _ e)
theorem aMc (G:List Tm):T G famN:=aMw (by decide +kernel) (aIx _) λ N u hu=>by
 rw [aIj (fQ N _ _ _ hu)];exact aMj (sS (by decide +kernel)) λ N=>aEi _ _
theorem aSv {G:List Tm}{k n:Int}{a b:Tm}(hk:k=5)(hv:aE (.mk k n [a,b])=true)(ha:T G a)(hb:T G b):T G (.mk k n [a,b]):=by
 subst hk;refine oJ hv (by decide) λ i hi=>?_
 have hi2:i=0\/i=1:=by have:i<2:=hi;omega
 rcases hi2 with rfl|rfl
 ·exact ha
 ·exact hb
theorem aTs {n:Nat}{x:NT}(hv:aE (tyN x)=true)(h:∀u,x.idx=some u->aE u.tm=true->T (List.replicate n kN) u.tm):T (List.replicate n kN) (tyN x):=by
 unfold tyN at hv⊢
 cases hx:x.idx with
 | none=>exact aIx _
 | some u=>
  rw [hx] at hv;exact aSv rfl hv (aMc _) (h u hx (aL hv (by simp)))
theorem aOd {n:Nat}{b:NT}(hg:NT.Gd (n+1) b)(hv:aE (.mk 4 0 [kN,b.tm])=true)(h:T (List.replicate (n+1) kN) b.tm)(hu:∀u,b.idx=some u->aE u.tm=true->T (List.replicate (n+1) kN) u.tm):T (List.replicate n kN) (.mk 4 0 [kN,b.tm]):=by
 refine aMw hv (by rw [dP];exact h) λ N u hN=>?_
 have hvu:=dG hN;have hR:=fQ N _ _ _ hN;rw [dP] at hR;have:=qQ b _ _ _ hR;subst this;exact aMj (by rw [dP];exact aTs hvu hu) (by rw [dP];exact xJ (aNe hg).2)
theorem aRs {n:Nat}{b:NT}(hg:NT.Gd (n+2) b)(hv:aE (.mk 4 0 [kN,.mk 4 0 [kN,b.tm]])=true)(h:T (List.replicate (n+2) kN) b.tm)(hu:∀u,b.idx=some u->aE u.tm=true->T (List.replicate (n+2) kN) u.tm):T (List.replicate n kN) (.mk 4 0 [kN,.mk 4 0 [kN,b.tm]]):=by
 refine aMw hv (by rw [dP];exact aOd hg (aL hv (by simp)) h hu) λ N u hN=>?_
 have hvu:=dG hN;have hR:=fQ N _ _ _ hN;rw [dP] at hR;have:=rT hR;subst this;refine aMj (by rw [dP];exact aXn hvu (by rw [dP];exact aTs (aL hvu (by simp)) hu)) λ N=>?_
 rw [dP];exact pR (eR (λ M=>aNf (by rw [dP];exact xJ (aNe hg).2 M)) N) λ s hs=>aTd hs
theorem aYs {n:Nat}{x:NT}(h:NT.Gd n x):(aE x.tm=true->T (List.replicate n kN) x.tm)/\∀u,x.idx=some u->aE u.tm=true->T (List.replicate n kN) u.tm:=by
 induction h with
 | var h=>exact ⟨λ hv=>sS hv,λ u hu=>by cases hu⟩
 | zero=>exact ⟨λ hv=>sS hv,λ u hu=>by cases hu⟩
 | suc h ih=>exact ⟨λ hv=>oJ hv (by decide) λ i hi=>by
   obtain rfl:i=0:=by have:i<1:=hi;omega
   exact ih.1 (aL hv (by simp)),λ u hu=>by cases hu⟩
 | @app n b a h1 h2 h3 i1 i2 i3=>
  refine ⟨λ hv=>?_,λ u hu=>?_⟩
  ·have hv1:aE (.mk 4 0 [kN,b.tm])=true:=aL hv (by simp);exact aSv rfl hv (aOd h1 hv1 (i1.1 (aL hv1 (by simp))) i1.2) (i2.1 (aL hv (by simp)))
  ·rw [NT.idx] at hu;cases hb:b.idx with
   | none=>rw [hb] at hu;cases hu
   | some v=>rw [hb] at hu;injection hu with hu;subst hu;exact (i3 v hb).1
 | @elim n z s m h1 h2 h3 i1 i2 i3=>
  refine ⟨λ hv=>?_,λ u hu=>by injection hu with hu;subst hu;exact i3.1⟩;have hv1:aE (.mk 4 0 [kN,.mk 4 0 [kN,s.tm]])=true:=aL hv (by simp);have hv2:aE (.mk 4 0 [kN,s.tm])=true:=aL hv1 (by simp);by_cases hc:(List.replicate n kN).length<=20
  ·refine nA hv hc (λ i hi=>?_) (λ e=>absurd e (by decide)) (λ _=>⟨show aE (kB famN (.mk 7 0 []))=true by decide +kernel,show aE (kP famN)=true by decide +kernel⟩) (λ e=>absurd e (by decide)) (λ e=>absurd e (by decide)) (λ e=>absurd e (by decide));have hi2:i=0\/i=1\/i=2\/i=3:=by have:i<4:=hi;omega
   rcases hi2 with rfl|rfl|rfl|rfl
   ·exact aMc _
   ·exact i1.1 (aL hv (by simp))
   ·exact aRs h2 hv1 (i2.1 (aL hv2 (by simp))) i2.2
   ·exact i3.1 (aL hv (by simp))
  ·exact vR hv (by omega)
 | @part n q a b h1 h2 i1 i2=>
  refine ⟨λ hv=>?_,λ u hu=>by cases hu⟩;have hp:aE (.mk 14 0 [rM,a.tm,b.tm])=true:=aL hv (by simp [rM]);have hT:T (List.replicate n kN) (.mk 14 0 [rM,a.tm,b.tm]):=by
   by_cases hc:(List.replicate n kN).length<=20
   ·refine nA hp hc (λ i hi=>?_) (λ e=>absurd e (by decide)) (λ e=>absurd e (by decide)) (λ e=>absurd e (by decide)) (λ e=>absurd e (by decide)) (λ _ h hh _=>?_)
    ·have hi2:i=0\/i=1\/i=2:=by have:i<3:=hi;omega
     rcases hi2 with rfl|rfl|rfl
     ·exact oJ (by decide +kernel) (by decide) λ i hi=>by
       have hi2:i=0\/i=1:=by have:i<2:=hi;omega
       rcases hi2 with rfl|rfl
       ·exact aIx _
       ·exact aIx _
     ·exact i1.1 (aL hp (by simp))
     ·exact i2.1 (aL hp (by simp))
    ·have h5:=fU (s:=rM) (.inr (.inr (.inr rfl))) hh;subst h5;show aE kN=true
     decide +kernel
   ·exact vR hp (by omega)
  cases q with
  | false=>
   refine oJ hv (by decide) λ i hi=>?_
   obtain rfl:i=0:=by have:i<1:=hi;omega
   exact hT
  | true=>
   refine oJ hv (by decide) λ i hi=>?_
   obtain rfl:i=0:=by have:i<1:=hi;omega
   exact hT
 | @mov n x z h1 h2 i1 i2=>
  refine ⟨λ hv=>?_,λ u hu=>by injection hu with hu;subst hu;exact i1.1⟩;have hv1:aE (.mk 11 0 [x.tm])=true:=aL hv (by simp);have hvx:aE x.tm=true:=aL hv1 (by simp);by_cases hc:(List.replicate n kN).length<=20
  ·refine nA hv hc (λ i hi=>?_) (λ e=>absurd e (by decide)) (λ e=>absurd e (by decide)) (λ e=>absurd e (by decide)) (λ _ N s e hs he hk=>?_) (λ e=>absurd e (by decide))
   ·have hi2:i=0\/i=1\/i=2:=by have:i<3:=hi;omega
    rcases hi2 with rfl|rfl|rfl
    ·exact aMc _
    ·refine nA hv1 hc (λ i hi=>?_) (λ e=>absurd e (by decide)) (λ e=>absurd e (by decide)) (λ _ N s hs=>?_) (λ e=>absurd e (by decide)) (λ e=>absurd e (by decide))
     ·obtain rfl:i=0:=by have:i<1:=hi;omega
      exact i1.1 hvx
     ·have hvs:=dG hs;have:=qQ x _ _ _ (fQ N _ _ _ hs);subst this;exact aTs hvs i1.2
    ·exact i2.1 (aL hv (by simp))
   ·have g3:=aBg (fQ N _ _ _ hs);subst g3;have g4:=fU (by exact .inr (.inr (.inl rfl))) he;subst g4;show aE (.mk 5 0 [famN,x.tm])=true
    obtain ⟨q,hq,_,_,_,hk1⟩:=bX (aW hv);obtain ⟨q2,hq2,_,_,_,hk2⟩:=bX (hk1 (.mk 11 0 [x.tm]) (by simp));have hz:=aJ hv;have hf:famN.size=3:=rfl;have hkN:kN.size=1:=rfl;exact pH (d:=28) (show shape 28 famN=true by decide) (eV (by omega) _ (hk2 x.tm (by simp))) (by omega) (by simp only [aH,Tm.size] at hz;omega)
  ·exact vR hv (by omega)
theorem aHy {t:Tm}(h:hg 3 t=true):t.size<=21:=vF h
theorem aTl {t:Tm}(h:hg 2 t=true):t.size<=5:=vF h
theorem aXv {t:Tm}(h:hg 5 t=true):t.size<=341:=vF h
theorem aVr:∀(n:Nat) (G:List Tm) (e:Nat->Nat) (t:Tm),Low G e->G.length+n<=12->hg 4 t=true->aE t=true->cE ((G.length:Int)+4) t=true->kr n e t->(Cm t\/G=[])->T G t:=by
 intro n;induction n using Nat.strongRecOn with
 | _ n ih=>
 intro G e t hL hn ht hv hc hK hcm
 -- operands and their types
 have KID:∀(G':List Tm) (e':Nat->Nat) (y:Tm),Low G' e'->G'.length+rk y e'<=12->rk y e'<n->hg 3 y=true->aE y=true->cE ((G'.length:Int)+4) y=true->T G' y:=λ G' e' y h1 h2 h3 h4 h5 h6=>ih _ h3 G' e' y h1 h2 (fH (by omega) h4) h5 h6 (kK h4 e') (.inl (cm3 h4))
 have W1:∀(G':List Tm) (e':Nat->Nat) (x a:Tm) (N:Nat),Low G' e'->G'.length+rk x e'<=12->rk x e'<n->hg 3 x=true->aE x=true->cE ((G'.length:Int)+4) x=true->bL N G' x=some (.ok a)->T G' a:=by
  intro G' e' x a N h1 h2 h3 h4 h5 h6 h7;by_cases k4:x.k=4
  ·obtain ⟨k,m,ks⟩:=x;obtain rfl:k=4:=k4;obtain ⟨X,c,rfl⟩:=mA h4 rfl;obtain ⟨M,T',_,rfl,s,hs⟩:=mJ h7;exact ⟨M,_,hs⟩
  by_cases k11:x.k=11
  ·obtain ⟨k,m,ks⟩:=x;obtain rfl:k=11:=k11;obtain ⟨y,rfl⟩:=oV h4 rfl;obtain ⟨M,s,_,rfl,l,hl⟩:=kH h7;have hva:=dG h7;have hy:hg 2 y=true:=cJ h4 (i:=0) (by simp);have hry:rk y e'<rk (.mk 11 m [y]) e':=rE h4 e' (i:=0) (by simp) rfl;have hTy:=KID G' e' y h1 (by omega) (by omega) (fH (by omega) hy) (aL h5 (by simp)) (lI h6 0 rfl);refine nA hva (by omega) (λ i hi=>?_) (λ h=>absurd h (by omega)) (λ h=>absurd h (by omega)) (λ h=>absurd h (by omega)) (λ h=>absurd h (by omega)) (λ h=>absurd h (by omega));rw [if_pos (lR (by omega) _)];have hi:i=0\/i=1\/i=2:=by have:i<3:=hi;omega
   rcases hi with rfl|rfl|rfl
   ·exact ⟨M,_,hl⟩
   ·exact hTy
   ·exact hTy
  ·obtain ⟨⟨b1,b2⟩,_,b3,b4⟩:=TT h1 N x a h4 h6 k4 k11 h7;exact ih _ h3 G' e' a h1 h2 b1 (dG h7) b4 b3 (.inl b2)
 obtain ⟨k,m,ks⟩:=t;have hkid:∀i,i<ks.length->hg 3 (aI ks i)=true:=λ i hi=>cJ ht hi
 have hvk:∀i,i<ks.length->aE (aI ks i)=true:=λ i hi=>kG hv hi
 have ha:=(hg_iff.1 ht).1;have hr0:∀i,i<ks.length->aR k (i:Int)=0->rk (aI ks i) e<n:=λ i hi hu=>by have:=hK i hi;rw [if_pos hu] at this;exact this
 have hr1:∀i,i<ks.length->aR k (i:Int)=1->rk (aI ks i) (psh (rk (aI ks 0) e) e)<n:=λ i hi hu=>by have:=hK i hi;rw [if_neg (by omega)] at this;exact this
 have u00:aR k ((0:Nat):Int)=0:=by rw [kM];simp
 have LP:0<ks.length->Low (G++[aI ks 0]) (psh (rk (aI ks 0) e) e):=λ h=>hL.push (hkid 0 h) (lI hc 0 u00)
 have lenP:∀A:Tm,(((G++[A]).length:Nat):Int)+4=(G.length:Int)+4+1:=λ A=>by simp;omega
 have lenN:∀A:Tm,(G++[A]).length=G.length+1:=λ A=>by simp
 have hTk:∀i,i<ks.length->T (if aR k (i:Int)=0 then G else G++[aI ks 0]) (aI ks i):=by
  intro i hi;by_cases hu:aR k (i:Int)=0
  ·rw [if_pos hu];have:=hr0 i hi hu;exact KID G e _ hL (by omega) this (hkid i hi) (hvk i hi) (lI hc i hu)
  ·have hu1:aR k (i:Int)=1:=by have:=dH k i;omega
   rw [if_neg hu];have:=hr1 i hi hu1;have hci:=jR hc i;rw [hu1] at hci;exact KID _ _ _ (LP (by omega)) (by rw [lenN];omega) this (hkid i hi) (hvk i hi) (by rw [lenP];exact hci)
 refine nA hv (by omega) hTk ?_ ?_ ?_ ?_ ?_
 ·intro e4 N u hu;subst e4;have a4:aK 4=2:=rfl;have h0:0<ks.length:=by omega
  have h1:1<ks.length:=by omega
  have hb:=hkid 1 h1;have hcb:=jR hc 1;have hcb':cE (((G++[aI ks 0]).length:Int)+4) (aI ks 1)=true:=by rw [lenP];exact hcb
  have hrb:=hr1 1 h1 rfl;have hvu:=dG hu;have hgu:=TYH (by omega) (LP h0) hb hcb' hu;have hA:=hkid 0 h0;have hva:=hvk 0 h0;have hvpi:aE (.mk 3 0 [aI ks 0,u])=true:=by
   refine sC (d:=6) (pQ rfl ⟨by omega,by decide⟩ (eV (by omega) _ (jT hva hA)) (jT hvu hgu)) (by omega) ?_;have z1:=aHy hA;have z2:=aXv hgu;simp only [Tm.size,aH];omega
  refine T.tr (nA hvpi (by omega) (λ i hi=>?_) (λ h=>absurd h (by omega)) (λ h=>absurd h (by omega)) (λ h=>absurd h (by omega)) (λ h=>absurd h (by omega)) (λ h=>absurd h (by omega)));have hi:i=0\/i=1:=by have:i<2:=hi;omega
  rcases hi with rfl|rfl
  ·have:=hTk 0 h0;rw [if_pos (by rfl)] at this;rw [if_pos (by rfl)];exact this
  ·rw [if_neg (by decide)];exact W1 (G++[aI ks 0]) _ (aI ks 1) u N (LP h0) (by rw [lenN];omega) hrb hb (hvk 1 h1) hcb' hu
 ·intro e9;subst e9;have a9:aK 9=4:=rfl;have h0:0<ks.length:=by omega
  have hp:=hkid 0 h0;have sp:=jT (hvk 0 h0) hp;have zp:=aHy hp;exact ⟨pH sp (eV (by omega) _ (show shape 1 (.mk 7 0 [])=true by decide)) (by omega) (by simp only [Tm.size,aH];omega),aJo sp zp (lI hc 0 rfl) (by omega) (by omega)⟩
 ·intro e11 N s hs;subst e11;have a11:aK 11=1:=rfl;have h0:0<ks.length:=by omega
  have:=hr0 0 h0 rfl;exact W1 G e (aI ks 0) s N hL (by omega) this (hkid 0 h0) (hvk 0 h0) (lI hc 0 rfl) hs
 ·intro e12 N s h hs hh hk;subst e12;have a12:aK 12=3:=rfl;have h0:0<ks.length:=by omega
  have h1:1<ks.length:=by omega
  have hp:=hkid 0 h0;have hq:=hkid 1 h1;have sp:=jT (hvk 0 h0) hp;have zp:=aHy hp;have hcq:cE ((G.length:Int)+4) (aI ks 1)=true:=lI hc 1 rfl;have hvh:=(eL hh).2.1;have fin:hg 3 h=true->aE (kB (aI ks 0) (aI h.ks 1))=true:=by
   intro h3;obtain ⟨kh,nh,sh⟩:=h;obtain rfl:kh=10:=hk;obtain ⟨A,x,y,rfl⟩:=tO h3 rfl;have hx:hg 2 x=true:=cJ h3 (i:=1) (by simp);have hvx:aE x=true:=aL hvh (by simp);have zx:=aTl hx;exact pH sp (eV (by omega) _ (jT hvx hx)) (by omega) (by show (aI ks 0).size+x.size<=399;omega)
  by_cases k4:(aI ks 1).k=4
  ·obtain ⟨kq,nq,sq,hq'⟩:∃a b l,aI ks 1 = .mk a b l:=by cases aI ks 1 with|mk a b l=>exact ⟨a,b,l,rfl⟩
   rw [hq'] at k4 hs hq;obtain rfl:kq=4:=k4;obtain ⟨X,c,rfl⟩:=mA hq rfl;obtain ⟨M,T',_,rfl,_⟩:=mJ hs;have:=oQ (by omega) hh;subst this;exact absurd hk (by show ¬(3:Int)=10;omega)
  by_cases k11:(aI ks 1).k=11
  ·obtain ⟨kq,nq,sq,hq'⟩:∃a b l,aI ks 1 = .mk a b l:=by cases aI ks 1 with|mk a b l=>exact ⟨a,b,l,rfl⟩
   have hvq:=hvk 1 h1;rw [hq'] at k11 hs hq hvq;obtain rfl:kq=11:=k11;obtain ⟨y,rfl⟩:=oV hq rfl;obtain ⟨M,s',_,rfl,_⟩:=kH hs;have:=oQ (by omega) hh;subst this;have hy:hg 2 y=true:=cJ hq (i:=0) (by simp);have hvy:aE y=true:=aL hvq (by simp);have zy:=aTl hy;exact pH sp (eV (by omega) _ (jT hvy hy)) (by omega) (by show (aI ks 0).size+y.size<=399;omega)
  obtain ⟨_,b2,b3,_⟩:=TT hL N _ s hq hcq k4 k11 hs;have use:hg 2 (aI ks 1)=true\/(aI ks 1).k≠16->aE (kB (aI ks 0) (aI h.ks 1))=true:=λ hu=>fin (sR (b2 hu) b3 (qX hh) (by unfold aDf;omega)).1
  rcases hcm with hcm|rfl
  ·exact use (hcm rfl)
  ·by_cases h16:(aI ks 1).k=16
   ·exfalso
    obtain ⟨kq,nq,sq,hq'⟩:∃a b l,aI ks 1 = .mk a b l:=by cases aI ks 1 with|mk a b l=>exact ⟨a,b,l,rfl⟩
    rw [hq'] at h16 hs hq;obtain rfl:kq=16:=h16;obtain ⟨p,rfl⟩:=oV hq rfl;cases N with
    | zero=>cases hs
    | succ N=>
     obtain ⟨_,_,hj⟩:=jS hs;have hj':(bd (oA (gL (bL N) [] (.mk 16 nq [p]) 0) 13) λ h=>eC (dC (.mk 15 0 [p]) 0 0 (aI h.ks 1)))=some (.ok s):=hj;obtain ⟨f,h1,_⟩:=bY hj';rw [gE rfl] at h1;obtain ⟨F,hF,hF2,hF3⟩:=vT h1;exact aRe (cJ hq (i:=0) (by simp):hg 2 p=true) hF hF2 hF3
   ·exact use (.inr h16)
 ·intro e14 h hh hk;subst e14;have a14:aK 14=3:=rfl;have h0:0<ks.length:=by omega
  have h1:1<ks.length:=by omega
  have hS:=hkid 0 h0;have h3:=(sR (n:=n) (e:=e) hS (wH ht hK h0 rfl) (qX hh) (by unfold aDf;omega)).1;have hvh:=(eL hh).2.1;obtain ⟨kh,nh,sh⟩:=h;obtain rfl:kh=13:=hk;obtain ⟨A,B,rfl⟩:=mA h3 rfl;have hB:hg 2 B=true:=cJ h3 (i:=1) (by simp);have hvB:aE B=true:=aL hvh (by simp);show aE (dC (aI ks 1) 0 0 B)=true
  generalize hw:aI ks 1=w
  have hwg:hg 3 w=true:=by rw [<- hw];exact hkid 1 h1
  have hwv:aE w=true:=by rw [<- hw];exact hvk 1 h1
  have hwc:cE ((G.length:Int)+4) w=true:=by rw [<- hw];exact lI hc 1 rfl
  have sw:=jT hwv hwg;have sw1:=shape_shS.1 w 3 _ 1 0 (by omega) sw hwc (by omega);have zw:=aHy hwg;have zw1:=size_shS.1 w 1 0;obtain ⟨kb,nb,sb⟩:=B;rw [dC];by_cases hb0:kb=1/\nb=0
  ·rw [if_pos hb0,shS_zero.1];exact hwv
  rw [if_neg hb0];obtain ⟨c1,c2,c3,c4⟩:=(bA 1 kb nb sb).1 (jT hvB hB);have hbk:∀i,i<sb.length->hg 1 (aI sb i)=true:=λ i hi=>cJ hB hi
  have lsh:∀{q:Tm},hg 1 q=true->shape 1 q=true->(∀r:Tm,(r=dC w 0 0 q\/r=dC w 1 1 q)->shape 3 r=true/\r.size<=21):=by
   intro q hq sq r hr;obtain ⟨kq,nq,rfl,hkq,_⟩:=gN hq;obtain ⟨d1,d2,d3,d4⟩:=(bA 0 kq nq []).1 sq;have leafr:∀n',0<=n'->n'<=dN kq->shape 3 (.mk kq n' [])=true/\(Tm.mk kq n' []).size<=21:=λ n' h1 h2=>⟨eV (p:=1) (by omega) _ ((bA 0 kq n' []).2 ⟨d1,h1,h2,λ t ht=>by cases ht⟩),by simp only [Tm.size,aH];omega⟩
   rcases hr with rfl|rfl
   ·rw [dC];by_cases hz:kq=1/\nq=0
    ·rw [if_pos hz,shS_zero.1];exact ⟨sw,zw⟩
    ·rw [if_neg hz,cQ];exact leafr _ (by split<;>omega) (by split<;>omega)
   ·rw [dC];by_cases hz:kq=1/\nq=1
    ·rw [if_pos hz];exact ⟨sw1,by rw [zw1];exact zw⟩
    ·rw [if_neg hz,cQ];exact leafr _ (by split<;>omega) (by split<;>omega)
  have each:∀t,t∈cQ w kb 0 0 0 sb->shape 3 t=true/\t.size<=21:=by
   intro t ht';obtain ⟨i,hi,rfl⟩:=List.getElem_of_mem ht';rw [dK] at hi;rw [<- pA,wS w kb 0 0 hi];have sq:shape 1 (aI sb i)=true:=c4 _ (rR hi);refine lsh (hbk i hi) sq _ ?_;by_cases hu:aR kb (i:Int)=0
   ·rw [hu];exact .inl rfl
   ·have hu1:aR kb (i:Int)=1:=by have:=dH kb i;omega
    rw [hu1];exact .inr rfl
  have hlen:=(fN kb).1;have zsum:∀ts:List Tm,(∀t,t∈ts->t.size<=21)->aH ts<=21*ts.length:=by
   intro ts;induction ts with
   | nil=>intro _;simp [aH]
   | cons a r ih2=>intro hh2;have e1:=hh2 a (by simp);have e2:=ih2 λ t ht=>hh2 t (by simp [ht]);rw [aH,List.length_cons];omega
  have hz:=zsum _ λ t ht=>(each t ht).2
  rw [dK] at hz;refine sC (d:=4) ((bA 3 kb _ _).2 ⟨by rw [dK];exact c1,by split<;>omega,by split<;>omega,λ t ht=>(each t ht).1⟩) (by omega) ?_;rw [Tm.size];omega
theorem aOq {b:Bool}{m:Nat}{e:Nat->Nat}:∀{ts:List Tm} {i:Nat} {e1:Nat->Nat},(∀j,j<ts.length->rk (aI ts j) (if b=true/\i+j=1 then (if i=0 then psh (rk (aI ts 0) e) e else e1) else e)<=m)->rkL b i ts e e1<=m
 | [],_,_,_=>by rw [rkL];omega
 | t::ts,i,e1,h=>by
  rw [rkL];refine Nat.max_le.2 ⟨?_,aOq λ j hj=>?_⟩
  ·have:=h 0 (by simp);rw [Nat.add_zero] at this;by_cases hb:b=true/\i=1
   ·rw [if_pos hb] at this⊢;rw [if_neg (by omega)] at this;exact this
   ·rw [if_neg hb] at this⊢;exact this
  ·have:=h (j+1) (by simpa using hj);rw [show i+(j+1)=i+1+j from by omega] at this;have hk:aI (t::ts) (j+1)=aI ts j:=rfl;have hk0:aI (t::ts) 0=t:=rfl;rw [hk,hk0] at this;by_cases hb:b=true/\i+1+j=1
   ·rw [if_pos hb] at this⊢;rw [if_neg (by omega)];exact this
   ·rw [if_neg hb] at this⊢;exact this
theorem aAr {k n:Int}{ks:List Tm}{e:Nat->Nat}{m:Nat}(hk:k≠1)(h:∀i,i<ks.length->rk (aI ks i) (if aR k (i:Int)=0 then e else psh (rk (aI ks 0) e) e)<=m):rk (.mk k n ks) e<=wt k+m:=by
 rw [rk,if_neg hk];refine Nat.add_le_add_left (aOq λ j hj=>?_) _;have:=h j hj;rw [kM] at this;rw [Nat.zero_add];by_cases hb:binds k=true/\j=1
 ·rw [if_pos hb] at this⊢;rw [if_neg (by omega)] at this;rw [if_pos rfl];exact this
 ·rw [if_neg hb] at this⊢;rw [if_pos rfl] at this;exact this
theorem aTj (k:Int):wt k<=2:=by
 unfold wt
 split
 ·omega
 ·split<;>omega
theorem aGb {r M:Nat}{e:Nat->Nat}(hr:r<=M)(he:∀n,e n<=M):∀n,psh r e n<=M
 | 0=>hr
 | n+1=>he n
theorem aPn {t:Tm}{e:Nat->Nat}{M:Nat}(h:hg 1 t=true)(he:∀n,e n<=M):rk t e<=M:=by
 obtain ⟨k,n,rfl,hk,_⟩:=gN h;rw [rk];by_cases h1:k=1
 ·rw [if_pos h1];exact he _
 ·rw [if_neg h1,rkL];have:wt k=0:=by unfold wt;rw [if_neg (by omega),if_pos (by omega)]
  omega
theorem aDq {d:Nat}{n:Int}{ks:List Tm}(h:hg d (.mk 1 n ks)=true):hg 1 (.mk 1 n ks)=true:=by
 cases d with
 | zero=>cases h
 | succ d=>
  have h1:aK 1=0:=rfl;have:=(hg_iff.1 h).1;have hks:ks=[]:=lEn (by omega);subst hks;exact hg_iff.2 ⟨rfl,(hg_iff.1 h).2.1,λ t ht=>by cases ht⟩
theorem aSd {t:Tm}{e:Nat->Nat}{M:Nat}(h:hg 2 t=true)(he:∀n,e n<=M):rk t e<=M+2:=by
 obtain ⟨k,n,ks⟩:=t;by_cases hk:k=1
 ·subst hk;have:=aPn (aDq h) he;omega
 have:=aAr (n:=n) (ks:=ks) (e:=e) (m:=M) hk λ i hi=>by
  have hi1:hg 1 (aI ks i)=true:=cJ h hi;split
  ·exact aPn hi1 he
  ·exact aPn hi1 (aGb (aPn (cJ h (i:=0) (by omega)) he) he)
 have:=aTj k;omega
theorem aPx {k:Int}{i:Nat}(h:aR k (i:Int)≠0):wt k=1:=by
 rw [kM] at h;split at h
 ·rename_i hb
  have hk:k=3\/k=4\/k=13:=by
   have:=hb.1;by_cases h3:k=3\/k=4\/k=13
   ·exact h3
   ·exfalso
    have h0:=lR (k:=k) (by omega) (1:Int);unfold aR at h0
    rw [if_pos ⟨rfl,this⟩] at h0;omega
  unfold wt;rw [if_neg (by omega),if_neg (by omega)]
 ·omega
theorem aUc {t:Tm}{e:Nat->Nat}{M:Nat}(h:hg 3 t=true)(he:∀n,e n<=M):rk t e<=M+5:=by
 obtain ⟨k,n,ks⟩:=t;by_cases hk:k=1
 ·subst hk;have:=aPn (aDq h) he;omega
 by_cases hb:∃i:Nat,aR k (i:Int)≠0
 ·obtain ⟨i,hb⟩:=hb;have hw:=aPx hb;have:=aAr (n:=n) (ks:=ks) (e:=e) (m:=M+4) hk λ i hi=>by
   have hi1:hg 2 (aI ks i)=true:=cJ h hi;split
   ·have:=aSd hi1 he;omega
   ·have:=aSd (M:=M+2) hi1 (aGb (e:=e) (aSd (cJ h (i:=0) (by omega)) he) λ n=>by have:=he n;omega);omega
  omega
 ·have:=aAr (n:=n) (ks:=ks) (e:=e) (m:=M+2) hk λ i hi=>by
   have hi1:hg 2 (aI ks i)=true:=cJ h hi;rw [if_pos (Classical.byContradiction λ hne=>hb ⟨i,hne⟩)];exact aSd hi1 he
  have:=aTj k;omega
theorem aQt {t:Tm}(h:hg 4 t=true)(hv:aE t=true)(hc:cE 4 t=true):T [] t:=by
 refine aVr 11 [] (λ _=>0) t (λ n hn=>absurd hn (by simp)) (by simp) h hv (by simpa using hc) ?_ (.inr rfl);obtain ⟨k,n,ks⟩:=t;intro i hi;have hi1:hg 3 (aI ks i)=true:=cJ h hi;split
 ·have:=aUc (M:=0) hi1 (e:=λ _=>0) (λ n=>by omega);omega
 ·have:=aUc (M:=5) hi1 (aGb (e:=λ _=>0) (aUc (M:=0) (cJ h (i:=0) (by omega)) (e:=λ _=>0) λ n=>by omega) λ n=>by omega);omega
theorem aOx:∀{d q:Nat} {t:Tm},sN d t=true->shape q t=true->hg d t=true
 | 0,q,t,h,_=>by rw [sN] at h;cases h
 | d+1,q,.mk k n ks,h,hs=>by
  rw [sN,Bool.and_eq_true] at h;obtain ⟨q',rfl,ha,h0,h1,hk⟩:=bX hs;exact hg_iff.2 ⟨ha,h0,λ t ht=>aOx (List.all_eq_true.1 h.2 t ht) (hk t ht)⟩
theorem aHw:∀{d:Nat} {t:Tm} {e:Int},4<=e->sN d t=true->cE e t=true
 | 0,t,e,_,h=>by rw [sN] at h;cases h
 | d+1,.mk k n ks,e,he,h=>by
  rw [sN,Bool.and_eq_true] at h;have hn:=of_decide_eq_true h.1;refine kD (λ _=>by omega) (aAo λ j hj=>?_);have:=dH k ((0+j:Nat):Int);exact aHw (by omega) (List.all_eq_true.1 h.2 _ (rR hj))
theorem aEk {t:Tm}(h:sN 4 t=true)(hv:aE t=true):T [] t:=aQt (aOx h (aW hv)) hv (aHw (by omega) h)
theorem aSy {G:List Tm}{t:Tm}(hv:aE (.mk 8 0 [t])=true)(h:T G t):T G (.mk 8 0 [t]):=oJ hv (by decide) λ i hi=>by
 obtain rfl:i=0:=by have:i<1:=hi;omega
 exact h
theorem aWs {k n:Int}{ks:List Tm}{u:Tm}(h:sN 4 (.mk k n ks)=true)(hm:Mut k n ks u)(hv:aE u=true):T [] u:=by
 have h2:=h;rw [sN,Bool.and_eq_true] at h2;rcases hm with rfl|⟨x,hx,rfl⟩|⟨x,hx,rfl⟩|rfl|rfl|⟨t,ts,rfl,rfl⟩
 ·exact aEk h hv
 ·exact aEk (by rw [sN,Bool.and_eq_true];exact h2) hv
 ·have:=tG hv;exact aEk (by rw [sN,Bool.and_eq_true];exact ⟨decide_eq_true (by simp only [List.mem_cons,List.not_mem_nil,or_false] at hx;omega),h2.2⟩) hv
 ·exact aEk (by rw [sN,Bool.and_eq_true];exact ⟨h2.1,by rw [List.all_append,h2.2];rfl⟩) hv
 ·exact aSy hv (aEk h (aL hv (by simp)))
 ·exact absurd (tG (aL hv List.mem_cons_self)) (by omega)
theorem aNz {x:NT}(hx:x.ok 0){k n:Int}{ks:List Tm}{u:Tm}(he:x.tm = .mk k n ks)(hm:Mut k n ks u)(hv:aE u=true):T [] u:=by
 have h0:aE x.tm=true->T [] x.tm:=(aYs (n:=0) (NT.gd_any x 0 hx)).1;have hk:aK k=(ks.length:Int)/\n=0/\k∈([7,8,5,9,15,16,12]:List Int):=by
  cases x with
  | var i=>exact absurd hx (Nat.not_lt_zero _)
  | part q a b=>cases q<;>(injection he with h1 h2 h3;subst h1 h2 h3;exact ⟨rfl,rfl,by decide⟩)
  | _=>injection he with h1 h2 h3;subst h1 h2 h3;exact ⟨rfl,rfl,by decide⟩
 obtain ⟨ha,rfl,hk⟩:=hk;have hm0:dN k=0:=by
  simp only [List.mem_cons,List.not_mem_nil,or_false] at hk
  rcases hk with rfl|rfl|rfl|rfl|rfl|rfl|rfl<;>rfl
 rcases hm with rfl|⟨y,hy,rfl⟩|⟨y,hy,rfl⟩|rfl|rfl|⟨t,ts,rfl,rfl⟩
 ·rw [<- he] at hv⊢;exact h0 hv
 ·have h2:=(aX hv).1;simp only [List.mem_cons,List.not_mem_nil,or_false] at hy hk
  rcases hy with rfl|rfl|rfl|rfl|rfl
  ·rw [show aK 0 = -1 from rfl] at h2;omega
  ·rw [show aK 17 = -1 from rfl] at h2;omega
  ·obtain rfl:=aAu h2 rfl;exact sS hv
  ·have:k=5:=by
    rw [show aK 5=2 from rfl] at h2;rcases hk with rfl|rfl|rfl|rfl|rfl|rfl|rfl<;>first|rfl|(exfalso;rw [<- h2] at ha;exact absurd ha (by decide))
   subst this;rw [<- he] at hv⊢;exact h0 hv
  ·obtain rfl:=aAu h2 rfl;exact sS hv
 ·obtain ⟨q,_,_,h1,h2,_⟩:=bX (aW hv);simp only [List.mem_cons,List.not_mem_nil,or_false] at hy
  omega
 ·have h2:=(aX hv).1;rw [ha,List.length_append] at h2;simp at h2
  omega
 ·exact aSy hv (by rw [<- he];exact h0 (by rw [he];exact aL hv (by simp)))
 ·exact absurd (tG (aL hv List.mem_cons_self)) (by omega)
def aNw:Tm->List Tm
 | .mk k n ks=>.mk k n ks::([0,17,1,5,6]:List Int).map (λ x=>.mk x n ks)++([21,-1,1,9223372036854775807]:List Int).map (λ x=>.mk k x ks)++[.mk k n (ks++[.mk 7 0 []]),.mk 8 0 [.mk k n ks]]++match ks with|[]=>[]|_::ts=>[.mk k n (.mk 1 25 []::ts)]
theorem aSk {k n:Int}{ks:List Tm}{u:Tm}(hm:Mut k n ks u):u∈aNw (.mk k n ks):=by
 unfold aNw
 rcases hm with rfl|⟨y,hy,rfl⟩|⟨y,hy,rfl⟩|rfl|rfl|⟨t,ts,rfl,rfl⟩
 ·simp
 ·exact List.mem_append_left _ (List.mem_append_left _ (List.mem_append_left _ (List.mem_cons_of_mem _ (List.mem_map.2 ⟨y,hy,rfl⟩))))
 ·exact List.mem_append_left _ (List.mem_append_left _ (List.mem_append_right _ (List.mem_map.2 ⟨y,hy,rfl⟩)))
 ·simp
 ·simp
 ·simp
theorem aLi:(drws.all λ t=>(aNw t).all λ u=>!aE u || (bL 60 [] u).isSome)=true:=by decide +kernel
theorem aVf {k n:Int}{ks:List Tm}{u:Tm}(h:Tm.mk k n ks∈drws)(hm:Mut k n ks u)(hv:aE u=true):T [] u:=by
 have h1:=List.all_eq_true.1 (List.all_eq_true.1 aLi _ h) _ (aSk hm);rw [hv,Bool.not_true,Bool.false_or] at h1;obtain ⟨r,hr⟩:=Option.isSome_iff_exists.1 h1;exact ⟨60,r,hr⟩
theorem aYl {k n:Int}{ks:List Tm}{u:Tm}(h:(∃q,uZ 0 q (.mk k n ks))\/Tm.mk k n ks∈drws\/sN 4 (.mk k n ks)=true)(hm:Mut k n ks u)(hv:aE u=true):T [] u:=by
 rcases h with ⟨q,x,hx,_,he⟩|h|h
 ·exact aNz hx he hm hv
 ·exact aVf h hm hv
 ·exact aWs h hm hv
def CnT (u:Tm):Prop:=∃(k n:Int) (ks:List Tm),((∃q,uZ 0 q (.mk k n ks))\/Tm.mk k n ks∈drws\/sN 4 (.mk k n ks)=true)/\Mut k n ks u
theorem CnT.ends {u:Tm}(h:CnT u)(hv:aE u=true):T [] u:=by
 obtain ⟨k,n,ks,h1,h2⟩:=h;exact aYl h1 h2 hv
theorem CnT.code {u:Tm}(h:CnT u):∃N co,ctN (N+1) u=some co:=by
 by_cases hv:aE u=true
 ·obtain ⟨N,r,hr⟩:=h.ends hv;have h2:=kI (Nat.le_succ N) [] u r hr;obtain ⟨s,hs⟩:∃s,iE (bL (N+1) [] u) kN=some s:=by
   rw [h2];cases r with
   | ok t=>exact ⟨_,rfl⟩
   | no b=>exact ⟨_,rfl⟩
  exact ⟨N,s.cd,by rw [ctN,if_pos hv,hs];rfl⟩
 ·exact ⟨0,3,by rw [ctN,if_neg hv]⟩
theorem aRc {co m:Int}{t:Tm}(hv:co=0->aE t=true)(h:cnC co t=(m,0)):co=0/\∃j:Nat,j<=20/\m=(j:Int)/\dJ 200 t=(some (cR j),0)/\aE (cR j)=true:=by
 by_cases hc:co=0
 ·refine ⟨hc,?_⟩;replace hv:=hv hc;subst hc;rcases nV 200 t hv with ⟨x,hn,hvx⟩|⟨c,hn,hc⟩
  ·cases hx:gQ x with
   | none=>
    rw [vE hn (tT hx)] at h;injection h with _ h;exact absurd h (by decide)
   | some j=>
    have he:=aIe j x hvx hx;subst he;by_cases hj:j<=20
    ·rw [aAz hn (sY hx hj)] at h;injection h with h _;exact ⟨j,hj,h.symm,hn,hvx⟩
    ·rw [vE hn (wF hx hj)] at h;injection h with _ h;exact absurd h (by decide)
  ·rw [xP hn hc] at h;injection h with _ h;exact absurd h (by decide)
 ·rw [aBu hc] at h;injection h with _ h;exact absurd h hc
theorem aVj {N:Nat}{t:Tm}(h:ctN N t=some 0):iE (bL N [] t) kN=some (.ok ())/\cE 0 t=true:=by
 have hv:=pB h;rw [ctN,if_pos hv] at h;cases hc:iE (bL N [] t) kN with
 | none=>rw [hc] at h;cases h
 | some r=>
  rw [hc] at h;have:=aXd (Option.some.inj h);subst this;refine ⟨rfl,?_⟩;rcases aO hc with ⟨b,_,h2⟩|⟨s,h1,_⟩
  ·cases h2
  ·exact wR N [] t s h1
theorem nB {j:Nat}(h:j<=20):aE (cR j)=true:=by
 have h1:((List.range 21).all λ j=>aE (cR j))=true:=by decide +kernel
 exact List.all_eq_true.1 h1 _ (List.mem_range.2 (by omega))
theorem aPi {N:Nat}{t:Tm}{j y:Nat}(h:ctN N t=some 0)(hn:dJ 200 t=(some (cR j),0))(hj:j<=20)(hy:y<=20)(hne:y≠j):mfT t=0/\aE t=true/\iP 200 t (cR j)=1/\iP 200 t (cR y)=2:=by
 have hv:=pB h;refine ⟨aQl (aVj h).2,hv,?_,?_⟩
 ·rw [aEc hv (nB hj) hn,if_pos rfl]
 ·rw [aEc hv (nB hy) hn,if_neg λ e=>hne e.symm]
def aSj (w:World)(e:Ending)(w':World):Prop:=
 ∃(k n:Int) (ks:List Tm) (A:Option Addr) (c:Nat),e = .returned (.agg (Ro k n A ks.length c))/\ks.length<=9223372036854775807/\aH ks<=20000/\CnT (.mk k n ks)/\Rd w' A 0 ks/\Bw w w'
theorem aUa {x:Int}(h:x∈([3,2,4,5]:List Int)):x<=5/\-5<=x:=by
 simp only [List.mem_cons,List.not_mem_nil,or_false] at h
 omega
theorem aFn (bs:List Int)(A:Option Addr)(c:Nat)(w:World)(hl:bs.length<=9223372036854775807)(hc:bs.length<=c)(hr:RdY w A bs):Calls prog 5 #[.slice A bs.length c] w (aSj w):=by
 have hNB:NB 5=10240:=rfl;go_enter func5,ntmps5;go_wp2_with (first
  | (go_at_call 12;have _t:=tok2;refine (aRa 5 (by omega) w1.heap.size r 1 0 x _ hx5.1 hx5.2 (by omega) (by omega) (by omega) (by omega) hr2).mono ?_;rintro e w3 ⟨k3,n3,s3,A3,c3,p3,rfl,hl3,hs3,hp3,hk3,hr3,hg3,hN3⟩;replace hN3:=aD hN3;clear tok2;have tok3:=trivial)
  | (go_at_call 13;have _t:=tok1;refine (jK [3,2,4,5] w1.heap.size r 0 w1.heap.size _ (by decide) (by decide) (by omega) (by simp) (hr1.alloc (by omega) _) (aC _ 3 _ rfl) (by omega)).mono ?_;rintro e w2 ⟨x,hx,rfl,hr2,hg2⟩;have hx5:=aUa hx;clear hx tok1;have s2:w1.heap.size+1<=w2.heap.size:=(by have:=hg2.size;simpa using this);have tok2:=trivial)
  | (go_at_call 11;refine (aLp bs A c _ hl hc (hr.keeps (.alloc _ _))).mono ?_;rintro e w1 ⟨r,rfl,hr0,hrlt,hr1,hb1⟩;have hZ1:=nQ hb1;have g1:Bw w w1:=(bw1).trans (hb1.mono (by simp));have s1:w.heap.size+1<=w1.heap.size:=(by have:=hb1.size;simpa using this);have hr0':w.heap.size+1<=r:=(by simpa using hr0);have tok1:=trivial))
 rw [hNB] at hs3 hp3;clear hNB;have t3:=hg3.size;have g13:w1.grownBy w3 (some r):=bE (bE (aM (iM _ _) _) hg2) hg3;refine (jW w1.heap.size r p3 8 _ (by omega) (by omega) (by simp;omega) (hr3.alloc (by omega) _)).mono ?_;rintro e w4 ⟨m,rfl,hm,hm0,hr4,hg4⟩;clear hm hm0;have s4:w3.heap.size+1<=w4.heap.size:=by have:=hg4.size;simpa using this
 have g14:w1.grownBy w4 (some r):=bE (aM g13 _) hg4;have hX4:Blk w4 w3.heap.size (Ro k3 n3 A3 s3.length c3):=(aC w3 25 (Ro k3 n3 A3 s3.length c3) rfl).grown hg4 (by simp;omega);have hZ4:=hZ1.grown g14 (by simp;omega);have hk4:RdP (λ b=>w2.heap.size<=b) w4 A3 0 s3:=(hk3.alloc _).grown hg4 (λ b hb=>by simp;omega);by_cases m0:m=0
 ·subst m0;obtain ⟨x0,x1,x2,f0,f1,f2⟩:=bW hX4;go_upto_region 5 with (go_at_call 15;refine (aGv w1.heap.size r (p3+1) _ (by omega) (by omega) hr4).mono ?_;rintro e w5 ⟨k5,n5,s5,A5,c5,p5,rfl,hl5,hs5,h5,hp5,hf5,hr5,hg5⟩;replace h5:=aD h5;have hX5:=hX4.grown hg5 (by simp;omega);clear x0 x1 x2 f0 f1 f2;obtain ⟨x0,x1,x2,f0,f1,f2,lx5⟩:=dA hX5)
  have t5:=hg5.size;have g15:=bE g14 hg5;have lx4:=hX4.lt;refine aN ?_;intro wx hwx;have hXx:Blk wx w3.heap.size (Ro k5 n5 A5 s5.length c5):=by rw [hwx];exact ((hX5.set_ 0 _).set_ 1 _).set_ 2 _
  have hZx:Blk wx w.heap.size Zr:=by rw [hwx];exact (((hZ1.grown g15 (by simp;omega)).far (by simp;omega) _).far (by simp;omega) _).far (by simp;omega) _
  have hRx:Rdr w1.heap.size wx r p5:=by rw [hwx];exact ((hr5.setCell (by simp;omega) _).setCell (by simp;omega) _).setCell (by simp;omega) _
  have hkx:RdP (λ b=>w4.heap.size<=b) wx A5 0 s5:=by rw [hwx];exact (((hf5.rdp.mono (λ b hb=>hb.1)).setCell (by simp;omega) _).setCell (by simp;omega) _).setCell (by simp;omega) _
  have hGx:w1.grownBy wx (some r):=by rw [hwx];exact aG (aG (aG g15 (.inr (by simp;omega)) _) (.inr (by simp;omega)) _) (.inr (by simp;omega)) _
  have sx:w4.heap.size<=wx.heap.size:=by rw [hwx];simp;omega
  clear hwx x0 x1 x2 f0 f1 f2;have hpx:p5<=900000000:=by omega
  obtain ⟨px,hpe⟩:∃px,px=p5:=⟨_,rfl⟩;rw [<- hpe] at hRx hpx;clear hpe;have x0:=hXx.three.1;have x1:=hXx.three.2.1;have x2:=hXx.three.2.2;go_wp2_with (go_at_call 16;refine (wI w1.heap.size r px k5 n5 s5 A5 c5 _ (by omega) (by omega) hRx (by omega) hkx.rd).mono ?_;rintro e w6 ⟨k6,n6,s6,A6,c6,p6,rfl,hl6,hs6,hm6,hp6,hk6,hr6,hg6⟩;have hZ6:=hZx.grown hg6 (by simp;omega);obtain ⟨d0,d1,d2,e0,e1,e2,lz⟩:=dA hZ6)
  have g16:=bE hGx hg6;refine bodyPost_ret (v:=.agg (Ro k6 n6 A6 s6.length c6)) (by simp [results,results5,go_sem,d0,d1,d2]) rfl ⟨k6,n6,s6,A6,c6,rfl,hl6,by omega,⟨_,_,_,.inr h5.out,hm6⟩,?_,?_⟩
  ·exact (((hk6.setCell (by simp;omega) _).setCell (by simp;omega) _).setCell (by simp;omega) _).rd
  ·exact (((g1.grown g16 (by omega) (λ k e=>by cases e;omega)).setCell (by simp) _).setCell (by simp) _).setCell (by simp) _
 ·have mq:((m:Int)==0)=false:=beq_eq_false_iff_ne.2 (by omega);obtain ⟨px,hpe⟩:∃px,px=p3+1:=⟨_,rfl⟩;have hRx:Rdr w1.heap.size w4 r px:=by rw [hpe];exact hr4
  have hpx:px<=900000000:=by omega
  have hXx:=hX4;have hZx:=hZ4;have hkx:=hk4;have hGx:=g14;clear hpe;have x0:=hXx.three.1;have x1:=hXx.three.2.1;have x2:=hXx.three.2.2;go_wp2_with (go_at_call 16;refine (wI w1.heap.size r px k3 n3 s3 A3 c3 _ (by omega) (by omega) hRx (by omega) hkx.rd).mono ?_;rintro e w6 ⟨k6,n6,s6,A6,c6,p6,rfl,hl6,hs6,hm6,hp6,hk6,hr6,hg6⟩;have hZ6:=hZx.grown hg6 (by simp;omega);obtain ⟨d0,d1,d2,e0,e1,e2,lz⟩:=dA hZ6)
  have g16:=bE hGx hg6;refine bodyPost_ret (v:=.agg (Ro k6 n6 A6 s6.length c6)) (by simp [results,results5,go_sem,d0,d1,d2]) rfl ⟨k6,n6,s6,A6,c6,rfl,hl6,by omega,⟨_,_,_,.inl ⟨_,hN3.out⟩,hm6⟩,?_,?_⟩
  ·exact (((hk6.setCell (by simp;omega) _).setCell (by simp;omega) _).setCell (by simp;omega) _).rd
  ·exact (((g1.grown g16 (by omega) (λ k e=>by cases e;omega)).setCell (by simp) _).setCell (by simp) _).setCell (by simp) _
theorem aPy (N:Nat)(co:Int)(C:Option Addr)(c0:Nat)(k n:Int)(ks:List Tm)(A:Option Addr)(c:Nat)(w:World)(h:ctN (N+1) (.mk k n ks)=some co)(hz:aH ks<=2000000)(hlen:ks.length<=9223372036854775807)(hra:Rd w A 0 ks) :
  Calls prog 17 #[.slice C 0 c0,.agg (Ro k n A ks.length c),.agg (Ro 6 0 none 0 0)] w λ e w'=>e = .returned (.int .i64 co)/\Bw w w':=by
 cases hv:aE (.mk k n ks) with
 | false=>
  rw [ctN,hv,if_neg (by decide)] at h;injection h with h;subst h;exact yF C c0 k n ks A c 6 0 [] none 0 w hz hlen (by simp) hv hra Rd.nil
 | true=>
  rw [ctN,hv,if_pos rfl] at h;cases hc:iE (bL (N+1) [] (.mk k n ks)) kN with
  | none=>rw [hc] at h;cases h
  | some r=>
   rw [hc] at h;injection h with h;subst h;exact aCs (N+1) C c0 k n ks A c 6 0 [] none 0 0 r w (aTq N) hc hv (by decide +kernel) hra Rd.nil
theorem xO {w:World}{r:Option Tm × Int}{e:Ending}{w':World}(h:aRg w r e w'){k n c:Int}{ks:List Tm}(h1:r.1.getD (.mk 0 0 []) = .mk k n ks)(h2:r.2=c) :
  ∃A d,e = .returned (.tuple #[.agg (Ro k n A ks.length d),.int .i64 c])/\ks.length<=9223372036854775807/\Rd w' A 0 ks/\Bw w w':=by
 obtain ⟨k',n',ks',A,d,h3,rfl,h4,h5,h6⟩:=h;rw [h1] at h3;injection h3 with e1 e2 e3;subst e1 e2 e3 h2;exact ⟨A,d,rfl,h4,h5.rd,h6⟩
theorem aCx (N:Nat)(co:Int)(k n:Int)(ks:List Tm)(A:Option Addr)(c:Nat)(w:World)(h:ctN (N+1) (.mk k n ks)=some co)(hz:aH ks<=2000000)(hlen:ks.length<=9223372036854775807)(hra:Rd w A 0 ks) :
  Calls prog 6 #[.agg (Ro k n A ks.length c)] w λ e w'=>e = .returned (.tuple #[.int .i64 (cnC co (.mk k n ks)).1,.int .i64 (cnC co (.mk k n ks)).2])/\Bw w w':=by
 have hK:=aD (λ (w:World) (hra:Rd w A 0 ks)=>aPy N co none 0 k n ks A c w h hz hlen hra);by_cases hc0:co=0
 ·subst hc0;have hv:=aD (pB h);clear h;rcases nV 200 (.mk k n ks) hv.out with ⟨⟨k1,n1,s1⟩,hn,hvx⟩|⟨cc,hn,hcc⟩
  ·have hr:redI dB 200 (.mk k n ks)=(some (.mk k1 n1 s1),0):=by rw [<- fR 200 _ hv.out];exact hn
   have hN1:=aD (show (redI dB 200 (.mk k n ks)).1.getD (.mk 0 0 []) = .mk k1 n1 s1 by rw [hr];rfl);have hN2:=aD (show (redI dB 200 (.mk k n ks)).2=0 by rw [hr]);replace hvx:=aD hvx;clear hr;obtain ⟨⟨m,b⟩,hx⟩:∃y,oC (.mk k1 n1 s1)=y:=⟨_,rfl⟩;have hnx:=aD hx;cases b with
   | true=>
    rw [aAz hn hx];clear hn hx;go_enter func6,ntmps6;go_upto_region 1 with fail
    refine aRt (show Blk _ w.heap.size (Ro k n A ks.length c) from (aC _ 25 _ rfl)) bw1 ?_;intro wx h6x kwx hwx;have hrx:Rd wx A 0 ks:=by rw [hwx];exact hra.alloc _
    clear hwx;obtain ⟨v0,v1,v2⟩:=iD h6x;refine dX wx [2,3] [0] 4 3 (lT:=[_]) ?_;intro q0 bq0;refine bV (aD ?_);refine bG 1 ?_
    ·go_wp2_with (go_at_call 18;refine (aS 6 _ ⟨none,0,0,rfl⟩ _).mono ?_;rintro e q1 ⟨rfl,hbq1⟩)
     refine aY bq0 hbq1 ?_;intro bq1 lq1;refine cD [2,3] (lB:=[_,_]) ?_;have kq:=kwx.trans (bq1.mono kwx.size);have hXq:=h6x.keep bq1;have hrq:=hrx.below bq1;clear v0 v1 v2;refine gS (aD ?_);go_wp2_with (first|(go_at_call 20;have _t:=tok2;refine (uH k1 n1 s1 A2 d2 _ hvx.out (r2.alloc _)).mono ?_;rw [hnx.out];rintro e w3 ⟨rfl,hb3⟩;have g3:=(g2.alloc g2.size (.cells (Ro k1 n1 A2 s1.length d2) 25)).trans (hb3.mono (by have:=g2.size;simp;omega)))|(go_at_call 19;have _t:=tok1;refine (mP k n ks A c 200 _ hv.out (by omega) (hra.below g1)).mono ?_;rintro e w2 h2;obtain ⟨A2,d2,rfl,hl2,r2,hb2⟩:=xO h2 hN1.out hN2.out;have g2:=g1.trans (hb2.mono g1.size);have tok2:=trivial)|(go_at_call 17;refine (hK.out _ hrq).mono ?_;rintro e w1 ⟨rfl,hb1⟩;have hX1:=hXq.keep hb1;have g1:=kq.trans (hb1.mono kq.size);obtain ⟨x0,x1,x2⟩:=hX1.three;have tok1:=trivial))
     go_ret2
     exact ⟨rfl,g3⟩
   | false=>
    rw [vE hn hx];clear hn hx;go_enter func6,ntmps6;go_upto_region 1 with fail
    refine aRt (show Blk _ w.heap.size (Ro k n A ks.length c) from (aC _ 25 _ rfl)) bw1 ?_;intro wx h6x kwx hwx;have hrx:Rd wx A 0 ks:=by rw [hwx];exact hra.alloc _
    clear hwx;obtain ⟨v0,v1,v2⟩:=iD h6x;refine dX wx [2,3] [0] 4 3 (lT:=[_]) ?_;intro q0 bq0;refine bV (aD ?_);refine bG 1 ?_
    ·go_wp2_with (go_at_call 18;refine (aS 6 _ ⟨none,0,0,rfl⟩ _).mono ?_;rintro e q1 ⟨rfl,hbq1⟩)
     refine aY bq0 hbq1 ?_;intro bq1 lq1;refine cD [2,3] (lB:=[_,_]) ?_;have kq:=kwx.trans (bq1.mono kwx.size);have hXq:=h6x.keep bq1;have hrq:=hrx.below bq1;clear v0 v1 v2;refine gS (aD ?_);go_wp2_with (first|(go_at_call 20;have _t:=tok2;refine (uH k1 n1 s1 A2 d2 _ hvx.out (r2.alloc _)).mono ?_;rw [hnx.out];rintro e w3 ⟨rfl,hb3⟩;have g3:=(g2.alloc g2.size (.cells (Ro k1 n1 A2 s1.length d2) 25)).trans (hb3.mono (by have:=g2.size;simp;omega)))|(go_at_call 19;have _t:=tok1;refine (mP k n ks A c 200 _ hv.out (by omega) (hra.below g1)).mono ?_;rintro e w2 h2;obtain ⟨A2,d2,rfl,hl2,r2,hb2⟩:=xO h2 hN1.out hN2.out;have g2:=g1.trans (hb2.mono g1.size);have tok2:=trivial)|(go_at_call 17;refine (hK.out _ hrq).mono ?_;rintro e w1 ⟨rfl,hb1⟩;have hX1:=hXq.keep hb1;have g1:=kq.trans (hb1.mono kq.size);obtain ⟨x0,x1,x2⟩:=hX1.three;have tok1:=trivial))
     go_ret2
     exact ⟨rfl,g3⟩
  ·have hr:redI dB 200 (.mk k n ks)=(none,cc):=by rw [<- fR 200 _ hv.out];exact hn
   have hN1:=aD (show (redI dB 200 (.mk k n ks)).1.getD (.mk 0 0 []) = .mk 0 0 [] by rw [hr];rfl);have hN2:=aD (show (redI dB 200 (.mk k n ks)).2=cc by rw [hr]);rw [xP hn hcc];have hcq:(cc != 0)=true:=bne_iff_ne.2 hcc;clear hr hn hcc;go_enter func6,ntmps6;go_upto_region 1 with fail
   refine aRt (show Blk _ w.heap.size (Ro k n A ks.length c) from (aC _ 25 _ rfl)) bw1 ?_;intro wx h6x kwx hwx;have hrx:Rd wx A 0 ks:=by rw [hwx];exact hra.alloc _
   clear hwx;obtain ⟨v0,v1,v2⟩:=iD h6x;refine dX wx [2,3] [0] 4 3 (lT:=[_]) ?_;intro q0 bq0;refine bV (aD ?_);refine bG 1 ?_
   ·go_wp2_with (go_at_call 18;refine (aS 6 _ ⟨none,0,0,rfl⟩ _).mono ?_;rintro e q1 ⟨rfl,hbq1⟩)
    refine aY bq0 hbq1 ?_;intro bq1 lq1;refine cD [2,3] (lB:=[_,_]) ?_;have kq:=kwx.trans (bq1.mono kwx.size);have hXq:=h6x.keep bq1;have hrq:=hrx.below bq1;clear v0 v1 v2;refine gS (aD ?_);go_wp2_with (first|(go_at_call 19;have _t:=tok1;refine (mP k n ks A c 200 _ hv.out (by omega) (hra.below g1)).mono ?_;rintro e w2 h2;obtain ⟨A2,d2,rfl,hl2,r2,hb2⟩:=xO h2 hN1.out hN2.out;have g2:=g1.trans (hb2.mono g1.size);have tok2:=trivial)|(go_at_call 17;refine (hK.out _ hrq).mono ?_;rintro e w1 ⟨rfl,hb1⟩;have hX1:=hXq.keep hb1;have g1:=kq.trans (hb1.mono kq.size);obtain ⟨x0,x1,x2⟩:=hX1.three;have tok1:=trivial))
    go_ret2
    exact ⟨rfl,g2.alloc g2.size _⟩
 ·rw [aBu hc0];have hcq:(co != 0)=true:=bne_iff_ne.2 hc0;clear h hc0;go_enter func6,ntmps6;go_upto_region 1 with fail
  refine aRt (show Blk _ w.heap.size (Ro k n A ks.length c) from (aC _ 25 _ rfl)) bw1 ?_;intro wx h6x kwx hwx;have hrx:Rd wx A 0 ks:=by rw [hwx];exact hra.alloc _
  clear hwx;obtain ⟨v0,v1,v2⟩:=iD h6x;refine dX wx [2,3] [0] 4 3 (lT:=[_]) ?_;intro q0 bq0;refine bV (aD ?_);refine bG 1 ?_
  ·go_wp2_with (go_at_call 18;refine (aS 6 _ ⟨none,0,0,rfl⟩ _).mono ?_;rintro e q1 ⟨rfl,hbq1⟩)
   refine aY bq0 hbq1 ?_;intro bq1 lq1;refine cD [2,3] (lB:=[_,_]) ?_;have kq:=kwx.trans (bq1.mono kwx.size);have hXq:=h6x.keep bq1;have hrq:=hrx.below bq1;clear v0 v1 v2;refine gS (aD ?_);go_wp2_with (first|(go_at_call 17;refine (hK.out _ hrq).mono ?_;rintro e w1 ⟨rfl,hb1⟩;have hX1:=hXq.keep hb1;have g1:=kq.trans (hb1.mono kq.size);obtain ⟨x0,x1,x2⟩:=hX1.three;have tok1:=trivial))
   go_ret2
   exact ⟨rfl,g1⟩
end Go.Proofs.YtajjhldcjikkpaaGreat
