/- Parts of the proof. No condition. -/
import Derived.Test.YtddkehjdjfmhmaaGreatK20
import Derived.Test.YtddkehjdjfmhmaaGreatK21
import Derived.Test.YtddkehjdjfmhmaaGreatK22
open Go.Proofs.Tryz
namespace Go.Proofs.YtddkehjdjfmhmaaGreat
open Go.RowKit
set_option maxHeartbeats 16000000
set_option maxRecDepth 100000
set_option linter.unusedSimpArgs false
set_option linter.unusedVariables false
def Le {α:Type}(o1 o2:Option α):Prop:=∀r,o1=some r→o2=some r
theorem Le.refl {α:Type}(o:Option α):Le o o:=fun _ h=>h
theorem dP {α β:Type}{o1 o2:Option (Rs α)}{f1 f2:α→Option (Rs β)}(h:Le o1 o2)(hf:∀a,Le (f1 a) (f2 a)):Le (bd o1 f1) (bd o2 f2):=by
 intro r hr;rcases cB hr with ⟨b,h1,rfl⟩|⟨a,h1,h2⟩
 ·rw [h _ h1];rfl
 ·rw [h _ h1,aBi];exact hf a r h2
section
variable {r1 r2:aCp}(hr:∀c t,Le (r1 c t) (r2 c t))(ctx:List Tm)
include hr
theorem oP (t:Tm):Le (pX r1 ctx t) (pX r2 ctx t):=dP (hr _ _) fun _=>Le.refl _
theorem tW (t:Tm)(k:Int):Le (uE r1 ctx t k) (uE r2 ctx t k):=dP (hr _ _) fun _=>Le.refl _
theorem jD (t u:Tm):Le (jQ r1 ctx t u) (jQ r2 ctx t u):=dP (hr _ _) fun _=>Le.refl _
theorem aEu (a b:Tm):Le (aCl r1 ctx a b) (aCl r2 ctx a b):=dP (oP hr _ _) fun _=>dP (oP hr _ _) fun _=>Le.refl _
theorem aEv (p f:Tm):Le (aBo r1 ctx p f) (aBo r2 ctx p f):=dP (tW hr _ _ _) fun _=>Le.refl _
theorem aOp (t:Tm):Le (fT r1 ctx t) (fT r2 ctx t):=by
 obtain ⟨k,n,ks⟩:=t;rw [fT,fT];by_cases h3:k=3∨k=13
 ·rw [if_pos h3,if_pos h3];exact aEu hr _ _ _
 rw [if_neg h3,if_neg h3];by_cases h4:k=4
 ·rw [if_pos h4,if_pos h4];exact dP (oP hr _ _) fun _=>dP (hr _ _) fun _=>dP (aEu hr _ _ _) fun _=>Le.refl _
 rw [if_neg h4,if_neg h4];by_cases h5:k=5
 ·rw [if_pos h5,if_pos h5];exact dP (tW hr _ _ _) fun _=>dP (jD hr _ _ _) fun _=>Le.refl _
 rw [if_neg h5,if_neg h5];by_cases h9:k=9
 ·rw [if_pos h9,if_pos h9];exact dP (aEv hr _ _ _) fun _=>dP (jD hr _ _ _) fun _=>dP (jD hr _ _ _) fun _=>dP (jD hr _ _ _) fun _=>Le.refl _
 rw [if_neg h9,if_neg h9];by_cases h10:k=10
 ·rw [if_pos h10,if_pos h10];exact dP (oP hr _ _) fun _=>dP (jD hr _ _ _) fun _=>dP (jD hr _ _ _) fun _=>Le.refl _
 rw [if_neg h10,if_neg h10];by_cases h12:k=12
 ·rw [if_pos h12,if_pos h12];exact dP (tW hr _ _ _) fun _=>dP (aEv hr _ _ _) fun _=>dP (jD hr _ _ _) fun _=>Le.refl _
 rw [if_neg h12,if_neg h12];by_cases h14:k=14
 ·rw [if_pos h14,if_pos h14];exact dP (oP hr _ _) fun _=>dP (Le.refl _) fun _=>dP (Le.refl _) fun _=>dP (jD hr _ _ _) fun _=>dP (jD hr _ _ _) fun _=>Le.refl _
 rw [if_neg h14,if_neg h14];by_cases h1:k=1
 ·rw [if_pos h1,if_pos h1];exact Le.refl _
 rw [if_neg h1,if_neg h1];by_cases h2:k=2
 ·rw [if_pos h2,if_pos h2];exact Le.refl _
 rw [if_neg h2,if_neg h2];by_cases h6:k=6
 ·rw [if_pos h6,if_pos h6];exact Le.refl _
 rw [if_neg h6,if_neg h6];by_cases h7:k=7
 ·rw [if_pos h7,if_pos h7];exact Le.refl _
 rw [if_neg h7,if_neg h7];by_cases h8:k=8
 ·rw [if_pos h8,if_pos h8];exact dP (jD hr _ _ _) fun _=>Le.refl _
 rw [if_neg h8,if_neg h8];by_cases h11:k=11
 ·rw [if_pos h11,if_pos h11];exact dP (hr _ _) fun _=>dP (oP hr _ _) fun _=>Le.refl _
 rw [if_neg h11,if_neg h11];exact dP (tW hr _ _ _) fun _=>Le.refl _
end
theorem tZ:∀(N:Nat) (ctx:List Tm) (t:Tm),Le (bZ N ctx t) (bZ (N+1) ctx t)
 | 0,_,_=>fun _ h=>by cases h
 | N+1,ctx,t=>by
  intro r h;rw [bZ] at h⊢;split at h
  ·rename_i hv
   rw [if_pos hv];exact dP (aOp (tZ N) ctx t) (fun _=>Le.refl _) r h
  ·rename_i hv
   rw [if_neg hv];exact h
theorem rW {N M:Nat}(h:N≤M)(ctx:List Tm)(t:Tm):Le (bZ N ctx t) (bZ M ctx t):=by
 induction M with
 | zero=>rw [show N=0 by omega];exact Le.refl _
 | succ M ih=>
  by_cases hN:N=M+1
  ·rw [hN];exact Le.refl _
  ·exact fun r hr=>tZ M ctx t r (ih (by omega) r hr)
def Ends (ctx:List Tm)(t:Tm):Prop:=∃N r,bZ N ctx t=some r
def Df {α:Type}(o:Option α):Prop:=∃r,o=some r
theorem bP {α:Type}(r:α):Df (some r):=⟨r,rfl⟩
theorem dJ {α β:Type}{o:Option (Rs α)}{f:α→Option (Rs β)}(h:Df o)(hf:∀a,o=some (.ok a)→Df (f a)):Df (bd o f):=by
 obtain ⟨r,rfl⟩:=h;cases r with
 | no b=>exact ⟨_,rfl⟩
 | ok a=>exact hf a rfl
theorem qA {α:Type}{p:Prop}[Decidable p]{a b:Option α}(ha:Df a)(hb:Df b):Df (if p then a else b):=by
 split
 ·exact ha
 ·exact hb
section
variable {rc:aCp}{ctx:List Tm}
theorem nB {t:Tm}(h:Df (rc ctx t)):Df (pX rc ctx t):=dJ h fun _ _=>dJ (bP _) fun _ _=>qA (bP _) (bP _)
theorem tY {t:Tm}{k:Int}(h:Df (rc ctx t)):Df (uE rc ctx t k):=dJ h fun _ _=>dJ (bP _) fun _ _=>qA (bP _) (bP _)
theorem jE {t u:Tm}(h:Df (rc ctx t)):Df (jQ rc ctx t u):=dJ h fun _ _=>bP _
theorem aEt {a b:Tm}(ha:Df (rc ctx a))(hb:Df (rc (ctx++[a]) b)):Df (aCl rc ctx a b):=dJ (nB ha) fun _ _=>dJ (nB hb) fun _ _=>bP _
theorem aEi {p f:Tm}(h:Df (rc ctx p)):Df (aBo rc ctx p f):=dJ (tY h) fun _ _=>dJ (bP _) fun _ _=>dJ (bP _) fun _ _=>qA (bP _) (bP _)
def cxo (ctx:List Tm)(k:Int)(ks:List Tm)(i:Nat):List Tm:=if i=1∧binds k=true then ctx++[aL ks 0] else ctx
theorem aOh {k n:Int}{ks:List Tm}(hk:∀i,i<4→Df (rc (cxo ctx k ks i) (aL ks i)))(h4:k=4→∀u,rc (ctx++[aL ks 0]) (aL ks 1)=some (.ok u)→Df (rc (ctx++[aL ks 0]) u))(h11:k=11→∀u,rc ctx (aL ks 0)=some (.ok u)→Df (rc ctx u)):Df (fT rc ctx (.mk k n ks)):=by
 have k0:Df (rc ctx (aL ks 0)):=by have:=hk 0 (by omega);rwa [cxo,if_neg (by omega)] at this
 have k2:Df (rc ctx (aL ks 2)):=by have:=hk 2 (by omega);rwa [cxo,if_neg (by omega)] at this
 have k3:Df (rc ctx (aL ks 3)):=by have:=hk 3 (by omega);rwa [cxo,if_neg (by omega)] at this
 have kb:binds k=true→Df (rc (ctx++[aL ks 0]) (aL ks 1)):=fun h=>by have:=hk 1 (by omega);rwa [cxo,if_pos ⟨rfl,h⟩] at this
 have k1:¬binds k=true→Df (rc ctx (aL ks 1)):=fun h=>by have:=hk 1 (by omega);rwa [cxo,if_neg (fun h'=>h h'.2)] at this
 rw [fT];by_cases e3:k=3∨k=13
 ·rw [if_pos e3];exact aEt k0 (kb (by rcases e3 with rfl|rfl<;>rfl))
 rw [if_neg e3];by_cases e4:k=4
 ·rw [if_pos e4];have hb:=kb (by rw [e4];rfl);exact dJ (nB k0) fun _ _=>dJ hb fun u hu=>dJ (aEt k0 (h4 e4 u hu)) fun _ _=>bP _
 rw [if_neg e4];have k1':=k1 (by unfold binds;simp only [Bool.or_eq_true,beq_iff_eq];omega);by_cases e5:k=5
 ·rw [if_pos e5];exact dJ (tY k0) fun _ _=>dJ (jE k1') fun _ _=>bP _
 rw [if_neg e5];by_cases e9:k=9
 ·rw [if_pos e9];exact dJ (aEi k0) fun _ _=>dJ (jE k1') fun _ _=>dJ (jE k2) fun _ _=>dJ (jE k3) fun _ _=>bP _
 rw [if_neg e9];by_cases e10:k=10
 ·rw [if_pos e10];exact dJ (nB k0) fun _ _=>dJ (jE k1') fun _ _=>dJ (jE k2) fun _ _=>bP _
 rw [if_neg e10];by_cases e12:k=12
 ·rw [if_pos e12];exact dJ (tY k1') fun _ _=>dJ (aEi k0) fun _ _=>dJ (jE k2) fun _ _=>bP _
 rw [if_neg e12];by_cases e14:k=14
 ·rw [if_pos e14];exact dJ (nB k0) fun _ _=>dJ (bP _) fun _ _=>dJ (qA (bP _) (bP _)) fun _ _=>dJ (jE k1') fun _ _=>dJ (jE k2) fun _ _=>bP _
 rw [if_neg e14];by_cases e1:k=1
 ·rw [if_pos e1];exact qA (bP _) (bP _)
 rw [if_neg e1];by_cases e2:k=2
 ·rw [if_pos e2];exact qA (bP _) (bP _)
 rw [if_neg e2];by_cases e6:k=6
 ·rw [if_pos e6];exact bP _
 rw [if_neg e6];by_cases e7:k=7
 ·rw [if_pos e7];exact bP _
 rw [if_neg e7];by_cases e8:k=8
 ·rw [if_pos e8];exact dJ (jE k0) fun _ _=>bP _
 rw [if_neg e8];by_cases e11:k=11
 ·rw [if_pos e11];exact dJ k0 fun u hu=>dJ (nB (h11 e11 u hu)) fun _ _=>bP _
 rw [if_neg e11];exact dJ (tY k0) fun _ _=>qA (bP _) (bP _)
end
theorem Ends.at_ {ctx:List Tm}{t:Tm}(h:Ends ctx t):∃N,∀M,N≤M→Df (bZ M ctx t):=by
 obtain ⟨N,r,h⟩:=h;exact ⟨N,fun M hM=>⟨r,rW hM _ _ _ h⟩⟩
theorem aAx {N M:Nat}{ctx:List Tm}{t:Tm}{r s:Rs Tm}(h1:bZ N ctx t=some r)(h2:bZ M ctx t=some s):r=s:=by
 have e1:=rW (Nat.le_max_left N M) ctx t _ h1;have e2:=rW (Nat.le_max_right N M) ctx t _ h2;rw [e1] at e2;injection e2
theorem kE {ctx:List Tm}{k n:Int}{ks:List Tm}(hk:∀i,i<4→Ends (cxo ctx k ks i) (aL ks i))(h4:k=4→∀N u,bZ N (ctx++[aL ks 0]) (aL ks 1)=some (.ok u)→Ends (ctx++[aL ks 0]) u)(h11:k=11→∀N u,bZ N ctx (aL ks 0)=some (.ok u)→Ends ctx u):Ends ctx (.mk k n ks):=by
 obtain ⟨N0,g0⟩:=(hk 0 (by omega)).at_;obtain ⟨N1,g1⟩:=(hk 1 (by omega)).at_;obtain ⟨N2,g2⟩:=(hk 2 (by omega)).at_;obtain ⟨N3,g3⟩:=(hk 3 (by omega)).at_;have e4:∃N,k=4→∀M u,bZ M (ctx++[aL ks 0]) (aL ks 1)=some (.ok u)→∀L,N≤L→Df (bZ L (ctx++[aL ks 0]) u):=by
  by_cases h:∃M u,bZ M (ctx++[aL ks 0]) (aL ks 1)=some (.ok u)
  ·obtain ⟨M,u,hu⟩:=h;by_cases hk4:k=4
   ·obtain ⟨N,hN⟩:=(h4 hk4 M u hu).at_;refine ⟨N,fun _ M' u' hu'=>?_⟩;have:=aAx hu hu';injection this with this;subst this;exact hN
   ·exact ⟨0,fun h=>absurd h hk4⟩
  ·exact ⟨0,fun _ M u hu=>absurd ⟨M,u,hu⟩ h⟩
 have e11:∃N,k=11→∀M u,bZ M ctx (aL ks 0)=some (.ok u)→∀L,N≤L→Df (bZ L ctx u):=by
  by_cases h:∃M u,bZ M ctx (aL ks 0)=some (.ok u)
  ·obtain ⟨M,u,hu⟩:=h;by_cases hk4:k=11
   ·obtain ⟨N,hN⟩:=(h11 hk4 M u hu).at_;refine ⟨N,fun _ M' u' hu'=>?_⟩;have:=aAx hu hu';injection this with this;subst this;exact hN
   ·exact ⟨0,fun h=>absurd h hk4⟩
  ·exact ⟨0,fun _ M u hu=>absurd ⟨M,u,hu⟩ h⟩
 obtain ⟨N4,g4⟩:=e4;obtain ⟨N5,g5⟩:=e11;obtain ⟨M,hM⟩:∃M,M=N0+N1+N2+N3+N4+N5:=⟨_,rfl⟩;have hd:Df (fT (bZ M) ctx (.mk k n ks)):=by
  refine aOh (fun i hi=>?_) (fun e u hu=>g4 e M u hu M (by omega)) (fun e u hu=>g5 e M u hu M (by omega));rcases (show i=0∨i=1∨i=2∨i=3 by omega) with rfl|rfl|rfl|rfl
  ·exact g0 M (by omega)
  ·exact g1 M (by omega)
  ·exact g2 M (by omega)
  ·exact g3 M (by omega)
 have:Df (bZ (M+1) ctx (.mk k n ks)):=by
  rw [bZ];exact qA (dJ hd fun _ _=>qA (bP _) (bP _)) (bP _)
 obtain ⟨r,hr⟩:=this;exact ⟨M+1,r,hr⟩
namespace NT
def idx:NT→Option NT
 | .elim z s n=>some n
 | .mov x z=>some x
 | .app b a=>(idx b).map (fD a 0)
 | _=>none
inductive Gd:Nat→NT→Prop where
 | var {n i:Nat} (h:i<n):Gd n (.var i)
 | zero {n:Nat}:Gd n .zero
 | suc {n:Nat} {a:NT} (h:Gd n a):Gd n (.suc a)
 | app {n:Nat} {b a:NT} (h1:Gd (n+1) b) (h2:Gd n a) (h3:∀u,idx b=some u→Gd n (fD a 0 u)):Gd n (.app b a)
 | elim {n:Nat} {z s m:NT} (h1:Gd n z) (h2:Gd (n+2) s) (h3:Gd n m):Gd n (.elim z s m)
 | part {n:Nat} {q:Bool} {a b:NT} (h1:Gd n a) (h2:Gd n b):Gd n (.part q a b)
 | mov {n:Nat} {x z:NT} (h1:Gd n x) (h2:Gd n z):Gd n (.mov x z)
theorem aJj {n:Nat}{x u:NT}(h:Gd n x)(hu:idx x=some u):Gd n u:=by
 cases h with
 | var h=>cases hu
 | zero=>cases hu
 | suc h=>cases hu
 | app h1 h2 h3=>
  rename_i b a
  cases hb:idx b with
  | none=>rw [idx,hb] at hu;cases hu
  | some v=>rw [idx,hb] at hu;injection hu with hu;subst hu;exact h3 v hb
 | elim h1 h2 h3=>injection hu with hu;subst hu;exact h3
 | part h1 h2=>cases hu
 | mov h1 h2=>injection hu with hu;subst hu;exact h1
theorem xN (x:NT):∀m c,idx (x.shift m c)=(idx x).map (shift m c):=by
 induction x with
 | var i=>intro m c;rw [shift];split<;>rfl
 | zero=>intros;rfl
 | suc a _=>intros;rfl
 | app b a h1 h2=>
  intro m c;rw [shift,idx,idx,h1];cases idx b with
  | none=>rfl
  | some u=>
   simp only [Option.map_some]
   rw [show c+1=c+0+1 by omega,← wN u a m c 0];rfl
 | elim z s n _ _ _=>intros;rfl
 | part q a b _ _=>intros;rfl
 | mov x z _ _=>intros;rfl
theorem aAo {n:Nat}{x:NT}(h:Gd n x):∀(m c:Nat),c≤n→Gd (n+m) (x.shift m c):=by
 induction h with
 | var h=>intro m c hc;rw [shift];split<;>exact .var (by omega)
 | zero=>intros;exact .zero
 | suc h ih=>intro m c hc;exact .suc (ih m c hc)
 | @app n b a h1 h2 h3 i1 i2 i3=>
  intro m c hc;refine .app (by have:=i1 m (c+1) (by omega);rwa [show n+1+m=n+m+1 by omega] at this) (i2 m c hc) ?_;intro u hu;rw [xN] at hu;cases hb:idx b with
  | none=>rw [hb] at hu;cases hu
  | some v=>
   rw [hb] at hu;injection hu with hu;subst hu;have:=i3 v hb m c hc;rwa [show c=c+0 by omega,wN v a m c 0] at this
 | @elim n z s k h1 h2 h3 i1 i2 i3=>
  intro m c hc;exact .elim (i1 m c hc) (by have:=i2 m (c+2) (by omega);rwa [show n+2+m=n+m+2 by omega] at this) (i3 m c hc)
 | part h1 h2 i1 i2=>intro m c hc;exact .part (i1 m c hc) (i2 m c hc)
 | mov h1 h2 i1 i2=>intro m c hc;exact .mov (i1 m c hc) (i2 m c hc)
theorem aNs (x a:NT):∀(k:Nat) (v:NT),idx (fD a k x)=some v→(∃u,idx x=some u∧v=fD a k u)∨(∃w,idx a=some w∧v=w.shift k 0):=by
 induction x with
 | var i=>
  intro k v h;rw [fD] at h;split at h
  ·rw [xN] at h;cases ha:idx a with
   | none=>rw [ha] at h;cases h
   | some w=>rw [ha] at h;injection h with h;exact .inr ⟨w,rfl,h.symm⟩
  ·split at h<;>cases h
 | zero=>intro k v h;cases h
 | suc b _=>intro k v h;cases h
 | app b c h1 h2=>
  intro k v h;rw [fD,idx] at h;cases hb:idx (fD a (k+1) b) with
  | none=>rw [hb] at h;cases h
  | some w=>
   rw [hb] at h;injection h with h;subst h;rcases h1 (k+1) w hb with ⟨u,hu,rfl⟩|⟨y,hy,rfl⟩
   ·refine .inl ⟨fD c 0 u,by rw [idx,hu];rfl,?_⟩;exact aEm u a c k 0
   ·refine .inr ⟨y,hy,?_⟩;exact uZ y _ k 0 0 (by omega) (by omega)
 | elim z s n _ _ _=>intro k v h;injection h with h;exact .inl ⟨n,rfl,h.symm⟩
 | part q x y _ _=>intro k v h;cases h
 | mov x z _ _=>intro k v h;injection h with h;exact .inl ⟨x,rfl,h.symm⟩
theorem aQg {n:Nat}{x:NT}(h:Gd n x):∀(m k:Nat) (a:NT),n=m+1+k→Gd m a→Gd (m+k) (fD a k x):=by
 induction h with
 | @var n i h=>
  intro m k a hn ha;rw [fD];split
  ·exact aAo ha k 0 (by omega)
  ·split
   ·exact .var (by omega)
   ·exact .var (by omega)
 | zero=>intros;exact .zero
 | suc h ih=>intro m k a hn ha;exact .suc (ih m k a hn ha)
 | @app n b c h1 h2 h3 i1 i2 i3=>
  intro m k a hn ha;refine .app (by have:=i1 m (k+1) a (by omega) ha;rwa [show m+(k+1)=m+k+1 by omega] at this) (i2 m k a hn ha) ?_;intro v hv;rcases aNs b a (k+1) v hv with ⟨u,hu,rfl⟩|⟨w,hw,rfl⟩
  ·have:=i3 u hu m k a hn ha;rwa [show k=k+0 by omega,← aEm u a c k 0] at this
  ·rw [uZ w _ k 0 0 (by omega) (by omega)];exact aAo (aJj ha hw) k 0 (by omega)
 | @elim n z s j h1 h2 h3 i1 i2 i3=>
  intro m k a hn ha;exact .elim (i1 m k a hn ha) (by have:=i2 m (k+2) a (by omega) ha;rwa [show m+(k+2)=m+k+2 by omega] at this) (i3 m k a hn ha)
 | part h1 h2 i1 i2=>intro m k a hn ha;exact .part (i1 m k a hn ha) (i2 m k a hn ha)
 | mov h1 h2 i1 i2=>intro m k a hn ha;exact .mov (i1 m k a hn ha) (i2 m k a hn ha)
theorem gd_any (x:NT):∀n,x.ok n→Gd n x:=by
 induction x with
 | var i=>intro n h;exact .var h
 | zero=>intros;exact .zero
 | suc a ih=>intro n h;exact .suc (ih n h)
 | app b a h1 h2=>
  intro n h;have g1:=h1 (n+1) h.1;have g2:=h2 n h.2;exact .app g1 g2 fun u hu=>aQg (aJj g1 hu) n 0 a (by omega) g2
 | elim z s m h1 h2 h3=>intro n h;exact .elim (h1 n h.1) (h2 (n+2) h.2.1) (h3 n h.2.2)
 | part q a b h1 h2=>intro n h;exact .part (h1 n h.1) (h2 n h.2)
 | mov a b h1 h2=>intro n h;exact .mov (h1 n h.1) (h2 n h.2)
theorem aKz (x:NT):∀(m c:Nat),jM m c x.tm=(x.shift m c).tm:=by
 induction x with
 | var i=>
  intro m c;rw [tm,jM,shift];by_cases h:c≤i
  ·rw [if_pos h,if_pos ⟨rfl,by omega⟩,tm,dY];congr 1
  ·rw [if_neg h,if_neg (by rintro ⟨-,h'⟩;omega),tm,dY]
 | zero=>intro m c;simp [tm,shift,jM,dY]
 | suc a ih=>intro m c;simp [tm,shift,jM,dY,aO,binds,ih]
 | app b a h1 h2=>intro m c;have:=h1 m (c+1);simp [tm,shift,jM,dY,aO,binds,kN,h2] at this⊢;exact this
 | elim z s n h1 h2 h3=>intro m c;have:=h2 m (c+2);simp [tm,shift,jM,dY,aO,binds,kN,h1,h3] at this⊢;rw [← this];congr 1
 | part q a b h1 h2=>intro m c;cases q<;>simp [tm,shift,jM,dY,aO,binds,kN,h1,h2]
 | mov x z h1 h2=>intro m c;simp [tm,shift,jM,dY,aO,binds,kN,h1,h2]
theorem tm_sub (x a:NT):∀(k:Nat),jB a.tm k k x.tm=(fD a k x).tm:=by
 induction x with
 | var i=>
  intro k;rw [tm,jB,fD];by_cases h:i=k
  ·rw [if_pos h,if_pos ⟨rfl,by omega⟩];have:=aKz a k 0;simpa using this
  ·rw [if_neg h,if_neg (by rintro ⟨-,h'⟩;omega),dQ];by_cases h2:k<i
   ·rw [if_pos h2,if_pos ⟨rfl,by omega⟩,tm];congr 1;omega
   ·rw [if_neg h2,if_neg (by rintro ⟨-,h'⟩;omega),tm]
 | zero=>intro k;simp [tm,fD,jB,dQ]
 | suc a ih=>intro k;simp [tm,fD,jB,dQ,aO,binds,ih]
 | app b c h1 h2=>intro k;have:=h1 (k+1);simp [tm,fD,jB,dQ,aO,binds,kN,h2] at this⊢;exact this
 | elim z s n h1 h2 h3=>intro k;have:=h2 (k+2);simp [tm,fD,jB,dQ,aO,binds,kN,h1,h3] at this⊢;rw [← this];congr 1
 | part q a b h1 h2=>intro k;cases q<;>simp [tm,fD,jB,dQ,aO,binds,kN,h1,h2]
 | mov x z h1 h2=>intro k;simp [tm,fD,jB,dQ,aO,binds,kN,h1,h2]
end NT
theorem aTt:aOz:=by
 intro B r p n d w hn hd hp hB hr;refine (aMz 4 (iD 4) B r p n d w (by omega) (by omega) (by omega) (by omega) (by simp [NB];omega) hB hr).mono ?_;rintro e w' ⟨k,m,ks,A,c,p',he,hl,hs,hp',h1,h2,h3,h4⟩;simp [NB] at hs hp'
 exact ⟨k,m,ks,A,c,p',he,hl,by omega,by omega,h1,h2,h3,by simpa using h4⟩
mutual
def dA (d:Int):Tm→Bool
 | .mk k n ks=>(!(k==1 && decide (d≤n))) && gX d k 0 ks
def gX (d k:Int)(i:Nat):List Tm→Bool
 | []=>true
 | t::ts=>dA (d+aO k i) t && gX d k (i+1) ts
end
theorem aEz {d k:Int}:∀{ks:List Tm} {i j:Nat},gX d k i ks=true→(h:j<ks.length)→dA (d+aO k ((i+j:Nat):Int)) ks[j]=true
 | t::ts,i,0,h,_=>by rw [gX,Bool.and_eq_true] at h;simpa using h.1
 | t::ts,i,j+1,h,hj=>by
  rw [gX,Bool.and_eq_true] at h;have:=aEz (i:=i+1) (j:=j) h.2 (by simpa using hj);rw [show i+1+j=i+(j+1) from by omega] at this;simpa using this
theorem rC {d k n:Int}{ks:List Tm}(h:dA d (.mk k n ks)=true)(hk:k=1):n<d:=by
 rw [dA,Bool.and_eq_true] at h;have h1:=h.1;subst hk;by_cases hd:d≤n
 ·simp [hd] at h1
 ·omega
theorem dN {d k n:Int}{ks:List Tm}(h:dA d (.mk k n ks)=true)(j:Nat):dA (d+aO k (j:Int)) (aL ks j)=true:=by
 rw [dA,Bool.and_eq_true] at h;by_cases hj:j<ks.length
 ·have:=aEz (i:=0) h.2 hj;rw [Nat.zero_add] at this;simpa [aL,List.getD,iG hj] using this
 ·have:aL ks j=default:=by simp [aL,List.getD,List.getElem?_eq_none (Nat.le_of_not_lt hj)]
  rw [this];rfl
theorem jA {d k n:Int}{ks:List Tm}(h1:k=1→n<d)(h2:gX d k 0 ks=true):dA d (.mk k n ks)=true:=by
 rw [dA,h2,Bool.and_true];by_cases hk:k=1
 ·have:=h1 hk;simp;omega
 ·simp [hk]
theorem sF {d k n:Int}{ks:List Tm}(h:dA d (.mk k n ks)=true):gX d k 0 ks=true:=by
 rw [dA,Bool.and_eq_true] at h;exact h.2
theorem aLs (k:Int)(i:Int):0≤aO k i:=by unfold aO;split<;>omega
theorem aEo (b:Int)(hb:0≤b):(∀(t:Tm) (d c:Int),dA d t=true→dA (d+b) (jM b c t)=true)∧
  (∀ (ts : List Tm) (k d c : Int) (i : Nat), gX d k i ts = true → gX (d + b) k i (dY b k c i ts) = true) := by
 refine bM (fun k n ks ih d c h=>?_) (fun k d c i h=>rfl) (fun t ts h1 h2 k d c i h=>?_)
 ·rw [jM];refine jA (fun hk=>?_) (ih _ _ _ _ (sF h));have:=rC h hk;split<;>omega
 ·rw [gX,Bool.and_eq_true] at h;rw [dY,gX,Bool.and_eq_true];refine ⟨?_,h2 _ _ _ _ h.2⟩;have:=h1 _ (c+aO k i) h.1;rwa [show d+aO k (i:Int)+b=d+b+aO k (i:Int) by omega] at this
theorem aOt (u:Tm)(d0:Int)(h0:0≤d0)(hu:dA d0 u=true):(∀(t:Tm) (e:Int),0≤e→dA (d0+1+e) t=true→dA (d0+e) (jB u e e t)=true)∧
  (∀ (ts : List Tm) (k e : Int) (i : Nat), 0 ≤ e → gX (d0 + 1 + e) k i ts = true → gX (d0 + e) k i (dQ u k e e i ts) = true) := by
 refine bM (fun k n ks ih e he h=>?_) (fun k e i he h=>rfl) (fun t ts h1 h2 k e i he h=>?_)
 ·rw [jB];split
  ·exact (aEo e he).1 u d0 0 hu
  ·rename_i hne
   refine jA (fun hk=>?_) (ih _ _ _ he (sF h));have:=rC h hk;have h3:n≠e:=fun h4=>hne ⟨hk,h4⟩
   split
   ·omega
   ·rename_i h5
    have:¬e<n:=fun h6=>h5 ⟨hk,h6⟩
    omega
 ·rw [gX,Bool.and_eq_true] at h;rw [dQ,gX,Bool.and_eq_true];refine ⟨?_,h2 _ _ _ he h.2⟩;have h3:=h.1;rw [show d0+1+e+aO k (i:Int)=d0+1+(e+aO k (i:Int)) by omega] at h3;have:=h1 (e+aO k i) (by have:=aLs k i;omega) h3;rwa [show d0+(e+aO k (i:Int))=d0+e+aO k (i:Int) by omega] at this
theorem aDt {u t:Tm}{d:Int}(h0:0≤d)(hu:dA d u=true)(ht:dA (d+1) t=true):dA d (jB u 0 0 t)=true:=by
 have:=(aOt u d h0 hu).1 t 0 (by omega) (by simpa using ht);simpa using this
theorem aBf {d k:Int}{u:Tm}:∀{ks:List Tm} {i j:Nat},gX d k i ks=true→dA (d+aO k ((i+j:Nat):Int)) u=true→gX d k i (ks.set j u)=true
 | [],i,j,h,hu=>h
 | t::ts,i,0,h,hu=>by
  rw [gX,Bool.and_eq_true] at h;rw [List.set_cons_zero,gX,Bool.and_eq_true];exact ⟨by simpa using hu,h.2⟩
 | t::ts,i,j+1,h,hu=>by
  rw [gX,Bool.and_eq_true] at h;rw [List.set_cons_succ,gX,Bool.and_eq_true];exact ⟨h.1,aBf (i:=i+1) (j:=j) h.2 (by rw [show i+1+j=i+(j+1) from by omega];exact hu)⟩
theorem mP {t u:Tm}(h:vO t=some u):u=t:=by
 unfold vO at h
 split at h
 ·injection h with h;exact h.symm
 ·cases h
theorem pQ {k:Int}(h:k≠3∧k≠4∧k≠13)(i:Int):aO k i=0:=by
 unfold aO binds
 split
 ·rename_i h2
  simp [h.1,h.2.1,h.2.2] at h2
 ·rfl
theorem dL {k n:Int}{ks:List Tm}(hv:aE (.mk k n ks)=true){j:Nat}(hj:j<ks.length):aE (aL ks j)=true:=by
 have:=aX hv (fG hj);simpa [aL,List.getD,iG hj] using this
theorem kB {d k n:Int}{ks:List Tm}(hk:k≠3∧k≠4∧k≠13)(h:dA d (.mk k n ks)=true)(j:Nat):dA d (aL ks j)=true:=by
 have:=dN h j;rwa [pQ hk,Int.add_zero] at this
theorem headP_cls:(∀(t:Tm) (p:List Int),bS t=some p→∀d u,dA d t=true→eP t p=some u→dA d u=true∧∀v,dA d v=true→dA d (iL t p v)=true)∧
  (∀ (ts : List Tm) (i : Nat) (p : List Int), iE i ts = some p → i < ts.length ∧ ∀ d u, dA d (aL ts i) = true → eP (aL ts i) p = some u → dA d u = true ∧ ∀ v, dA d v = true → dA d (iL (aL ts i) p v) = true) := by
 refine bM (fun k n ks ih p hp d u hc hu=>?_) (fun i p hp=>by rw [iE] at hp;cases hp) (fun t ts h1 h2 i p hp=>?_)
 ·rw [bS] at hp;split at hp
  ·split at hp
   ·cases hp
   ·rename_i hm
    cases h:iE (fB k).toNat ks with
    | none=>rw [h] at hp;cases hp
    | some q=>
     rw [h] at hp;injection hp with hp;subst hp;obtain ⟨hj,h3⟩:=ih _ _ h;have hmk:k≠3∧k≠4∧k≠13:=by unfold fB at hm;(repeat' split at hm)<;>omega
     rw [show fB k=((fB k).toNat:Int) from by omega,oE hj] at hu;have hg:aL ks (fB k).toNat=ks[(fB k).toNat]:=by simp [aL,List.getD,iG hj]
     rw [← hg] at hu;obtain ⟨h4,h5⟩:=h3 d u (kB hmk hc _) hu;refine ⟨h4,fun v hv=>?_⟩;rw [iL];refine jA (fun hk=>rC hc hk) (aBf (sF hc) ?_);rw [pQ hmk,Int.add_zero];exact h5 v hv
  ·injection hp with hp;subst hp;rw [eP] at hu;injection hu with hu;subst hu;exact ⟨hc,fun v hv=>hv⟩
 ·cases i with
  | zero=>
   rw [iE] at hp;exact ⟨by simp,fun d u hc hu=>h1 p hp d u hc hu⟩
  | succ i=>
   rw [iE] at hp;obtain ⟨hj,h3⟩:=h2 i p hp;exact ⟨by simp;omega,fun d u hc hu=>h3 d u (by simpa [aL] using hc) (by simpa [aL] using hu)⟩
theorem yR {ks:List Tm}{i:Nat}{x:Int}(h:lI ks i=x)(hx:x≠0):∃m l,aL ks i = .mk x m l:=by
 unfold lI at h
 unfold aL
 cases he:ks.getD i default with
 | mk a b l=>rw [he] at h;exact ⟨b,l,by rw [← h];rfl⟩
theorem aKm {t v:Tm}{d:Int}(h0:0≤d)(hv:aE t=true)(hc:dA d t=true)(h:oV t=some v):dA d v=true:=by
 obtain ⟨k,n,ks⟩:=t;have har:=(bC hv).1;have hr:cT k ks=1∨cT k ks=2∨cT k ks=3∨cT k ks=4∨cT k ks=5∨cT k ks=6:=by
  rw [oV] at h;by_cases h1:cT k ks=1
  ·exact .inl h1
  by_cases h2:cT k ks=2
  ·exact .inr (.inl h2)
  by_cases h3:cT k ks=3
  ·exact .inr (.inr (.inl h3))
  by_cases h4:cT k ks=4
  ·exact .inr (.inr (.inr (.inl h4)))
  by_cases h5:cT k ks=5
  ·exact .inr (.inr (.inr (.inr (.inl h5))))
  by_cases h6:cT k ks=6
  ·exact .inr (.inr (.inr (.inr (.inr h6))))
  simp [h1,h2,h3,h4,h5,h6] at h
 have hK:k=5∨k=9∨k=12∨k=15∨k=16:=by
  by_cases hk:k=5∨k=9∨k=12∨k=15∨k=16
  ·exact hk
  ·rw [yJ ks hk] at hr;omega
 have hnb:k≠3∧k≠4∧k≠13:=by omega
 have hkid:=fun j=>kB hnb hc j
 rw [oV] at h;have hrx:cT k ks=cT k ks:=rfl;conv at hrx=>lhs;unfold cT
 rcases hr with r|r|r|r|r|r
 ·rw [if_pos r] at h;rw [r] at hrx;have hk5:k=5:=by (repeat' split at hrx)<;>first|assumption|(exfalso;omega)
  subst hk5;simp only [if_true] at hrx
  have hk4:lI ks 0=4:=by split at hrx<;>first|assumption|(exfalso;omega)
  have hl:ks.length=2:=by have h3:aW 5=2:=rfl;omega
  obtain ⟨m,l,hm⟩:=yR hk4 (by decide);have hv0:=dL hv (j:=0) (by omega);have hv1:=dL hv (j:=1) (by omega);have hc0:=hkid 0;rw [hm] at hv0 h hc0;have hl2:l.length=2:=by have:=(bC hv0).1;have h3:aW 4=2:=rfl;omega
  have hvb:=dL hv0 (j:=1) (by omega);rw [show (Tm.mk 4 m l).ks=l from rfl,kK hv1 hvb] at h;rw [mP h];exact aDt h0 (hkid 1) (dN hc0 1)
 ·rw [if_neg (by omega),if_pos r] at h;rw [mP h];exact hkid 1
 ·rw [if_neg (by omega),if_neg (by omega),if_pos r] at h;rw [r] at hrx;have hk9:k=9:=by (repeat' split at hrx)<;>first|assumption|(exfalso;omega)
  subst hk9;simp only [show ¬(9:Int)=5 by decide,if_true,if_false] at hrx
  have hk8:lI ks 3=8:=by (repeat' split at hrx)<;>first|assumption|(exfalso;omega)
  obtain ⟨m,l,hm⟩:=yR hk8 (by decide);rw [hm] at h;have hc3:=hkid 3;rw [hm] at hc3;have hcx:=kB (by decide) hc3 0;rw [mP h];have u5:∀i,aO 5 i=0:=pQ (by decide);have u9:∀i,aO 9 i=0:=pQ (by decide);have ha:=hkid 0;have hb:=hkid 1;have he:=hkid 2;refine jA (fun h=>absurd h (by decide)) ?_;have hcx':dA d (aL l 0)=true:=hcx;simp [gX,dA,u5,u9,ha,hb,he,hcx',Tm.ks]
 ·rw [if_neg (by omega),if_neg (by omega),if_neg (by omega),if_pos r] at h;rw [mP h];exact hkid 2
 ·rw [if_neg (by omega),if_neg (by omega),if_neg (by omega),if_neg (by omega),if_pos r] at h;rw [r] at hrx;have hk:k=15:=by (repeat' split at hrx)<;>first|assumption|(exfalso;omega)
  subst hk;simp only [show ¬(15:Int)=5 by decide,show ¬(15:Int)=9 by decide,show ¬(15:Int)=12 by decide,if_true,if_false] at hrx
  have hk8:lI ks 0=14:=by (repeat' split at hrx)<;>first|assumption|(exfalso;omega)
  obtain ⟨m,l,hm⟩:=yR hk8 (by decide);have hc3:=hkid 0;rw [hm] at hc3 h;rw [mP h];exact kB (by decide) hc3 1
 ·rw [if_neg (by omega),if_neg (by omega),if_neg (by omega),if_neg (by omega),if_neg (by omega),if_pos r] at h;rw [r] at hrx;have hk:k=16:=by (repeat' split at hrx)<;>first|assumption|(exfalso;omega)
  subst hk;simp only [show ¬(16:Int)=5 by decide,show ¬(16:Int)=9 by decide,show ¬(16:Int)=12 by decide,show ¬(16:Int)=15 by decide,if_true,if_false] at hrx
  have hk8:lI ks 0=14:=by (repeat' split at hrx)<;>first|assumption|(exfalso;omega)
  obtain ⟨m,l,hm⟩:=yR hk8 (by decide);have hc3:=hkid 0;rw [hm] at hc3 h;rw [mP h];exact kB (by decide) hc3 2
theorem aMb {d:Int}(h0:0≤d):∀(f:Nat) (t o:Tm) (c:Int),aE t=true→dA d t=true→redI bS f t=(some o,c)→dA d o=true:=by
 intro f;induction f with
 | zero=>
  intro t o c hv hc h;rw [redI] at h;cases hp:bS t with
  | none=>rw [hp] at h;injection h with h _;injection h with h;subst h;exact hc
  | some p=>rw [hp] at h;cases h
 | succ f ih=>
  intro t o c hv hc h;rw [redI] at h;cases hp:bS t with
  | none=>rw [hp] at h;injection h with h _;injection h with h;subst h;exact hc
  | some p=>
   rw [hp] at h;simp only at h
   cases hq:lL t p with
   | none=>rw [hq] at h;cases h
   | some t'=>
    rw [hq] at h;simp only at h
    unfold lL at hq
    cases hu:eP t p with
    | none=>rw [hu] at hq;cases hq
    | some u=>
     rw [hu] at hq;simp only at hq
     cases hw:oV u with
     | none=>rw [hw] at hq;cases hq
     | some v=>
      rw [hw] at hq;simp only at hq
      obtain ⟨h1,h2⟩:=headP_cls.1 t p hp d u hc hu;have h3:=aKm h0 (gU hu hv) h1 hw;refine ih t' o c (kJ hq) ?_ h;rw [mP hq];exact h2 v h3
theorem zO {s o:Tm}{d:Int}(h0:0≤d)(hc:dA d s=true)(hv:aE s=true)(h:redI bS 200 s=(some o,0)):dA d o=true:=aMb h0 200 s o 0 hv hc h
theorem dO {α:Type}{a b:α}(h:some (Rs.ok a)=some (Rs.ok b)):a=b:=by injection h with h;injection h
theorem cE {α β:Type}{o:Option (Rs α)}{f:α→Option (Rs β)}{b:β}(h:bd o f=some (.ok b)):∃a,o=some (.ok a)∧f a=some (.ok b):=by
 rcases cB h with ⟨c,_,hc⟩|h
 ·cases hc
 ·exact h
theorem nY {s o:Tm}{kind:Int}(h:yL s = .ok o)(hk:o.k=kind):oU s kind=some o:=by
 obtain ⟨h1,_,h3⟩:=eT h;unfold oU
 rw [if_pos h1,h3];simp [hk]
theorem jK {rc:aCp}{ctx:List Tm}{t:Tm}{l:Int}(h:pX rc ctx t=some (.ok l)):∃s,rc ctx t=some (.ok s)∧jX (some s)=some l:=by
 obtain ⟨s,h1,h2⟩:=cE h;obtain ⟨o,h3,h4⟩:=cE h2;injection h3 with h3;unfold aRb at h4
 split at h4
 ·rename_i hk
  exact ⟨s,h1,by rw [jX,nY h3 hk];exact congrArg some (dO h4)⟩
 ·injection h4 with h4;cases h4
theorem qH {rc:aCp}{ctx:List Tm}{t o:Tm}{kind:Int}(h:uE rc ctx t kind=some (.ok o)):∃s,rc ctx t=some (.ok s)∧yL s = .ok o∧o.k=kind:=by
 obtain ⟨s,h1,h2⟩:=cE h;obtain ⟨o',h3,h4⟩:=cE h2;injection h3 with h3;unfold zW at h4
 split at h4
 ·rename_i hk
  have:=dO h4;subst this;exact ⟨s,h1,h3,hk⟩
 ·injection h4 with h4;cases h4
theorem zD {a b:Tm}(h:smR a b = .ok ()):vZ a b=true∧aE b=true:=by
 unfold smR at h
 split at h
 ·rename_i hv
  split at h
  ·rename_i hc
   simp [vZ,hv.1,hv.2,hc]
  ·split at h<;>cases h
 ·cases h
theorem fZ {rc:aCp}{ctx:List Tm}{t want:Tm}(h:jQ rc ctx t want=some (.ok ())):∃s,rc ctx t=some (.ok s)∧fW (some s) want=true∧aE want=true:=by
 obtain ⟨s,h1,h2⟩:=cE h;injection h2 with h2;exact ⟨s,h1,(zD h2).1,(zD h2).2⟩
theorem pP {b:Int}{t:Tm}(hb:0≤b)(ht:aE t=true)(hv:aE (jM b 0 t)=true):cP b 0 t=some (jM b 0 t):=by
 have h1:=xI hb (bO ht) hv;have h2:=nN (bO ht) h1;obtain ⟨v,h3⟩:=Option.isSome_iff_exists.1 h1;rw [h3] at h2⊢;exact congrArg some h2
theorem zV {rc:aCp}{ctx:List Tm}{p from_:Tm}(h:aBo rc ctx p from_=some (.ok ())):∃s,rc ctx p=some (.ok s)∧pL (some s) from_=true:=by
 obtain ⟨f,h1,h2⟩:=cE h;obtain ⟨_,h3,h4⟩:=cE h2;obtain ⟨s,h5,h6,h7⟩:=qH h1;injection h3 with h3;obtain ⟨o,h8,h9⟩:=cE h4;injection h8 with h8;refine ⟨s,h5,?_⟩;unfold aQb at h9
 split at h9
 ·rename_i hk
  simp only [pL,qD,nY h6 h7,nY h8 hk,Option.isSome_some,Bool.and_true]
  exact (zD h3).1
 ·injection h9 with h9;cases h9
def Tele (ctx:List Tm):Prop:=∀(i:Nat) (h:i<ctx.length),dA (i:Int) ctx[i]=true∧aE ctx[i]=true
theorem Tele.push {ctx:List Tm}{a:Tm}(h:Tele ctx)(hc:dA (ctx.length:Int) a=true)(hv:aE a=true):Tele (ctx++[a]):=by
 intro i hi;by_cases hlt:i<ctx.length
 ·rw [List.getElem_append_left hlt];exact h i hlt
 ·have:i=ctx.length:=by simp at hi;omega
  subst this;simpa using ⟨hc,hv⟩
theorem aNh {r1 r2:Tm→Option Tm}{t1 t2:Nat→Option Tm}(hr:∀t u,r1 t=some u→r2 t=some u)(ht:∀i u,t1 i=some u→t2 i=some u)(ctx:List Tm)(t u:Tm)(h:jH r1 ctx t t1=some u):jH r2 ctx t t2=some u:=by
 have hlv:∀i l,jX (t1 i)=some l→jX (t2 i)=some l:=fun i l h=>by
  cases h1:t1 i with
  | none=>rw [h1] at h;cases h
  | some s=>rw [h1] at h;rw [ht i s h1];exact h
 have hfm:∀i k s,qD (t1 i) k=some s→qD (t2 i) k=some s:=fun i k s h=>by
  cases h1:t1 i with
  | none=>rw [h1] at h;cases h
  | some s=>rw [h1] at h;rw [ht i s h1];exact h
 have hck:∀i w,fW (t1 i) w=true→fW (t2 i) w=true:=fun i w h=>by
  cases h1:t1 i with
  | none=>rw [h1] at h;cases h
  | some s=>rw [h1] at h;rw [ht i s h1];exact h
 have hhs:∀i w,oT (t1 i) w=true→oT (t2 i) w=true:=fun i w h=>by
  unfold oT at h⊢
  split at h
  ·exact hck _ _ h
  ·cases h
 have hfa:∀i w,pL (t1 i) w=true→pL (t2 i) w=true:=fun i w h=>by
  unfold pL at h⊢
  split at h
  ·rename_i s hs
   rw [hfm _ _ _ hs];exact h
  ·cases h
 have hpi:(match jX (t1 0) with|none=>none|some i=>match jX (t1 1) with|none=>none|some j=>some (Tm.mk 2 (if i<j then j else i) []))=some u→(match jX (t2 0) with|none=>none|some i=>match jX (t2 1) with|none=>none|some j=>some (Tm.mk 2 (if i<j then j else i) []))=some u:=by
  intro h;cases h1:jX (t1 0) with
  | none=>rw [h1] at h;cases h
  | some i=>
   rw [h1] at h;cases h2:jX (t1 1) with
   | none=>rw [h2] at h;cases h
   | some j=>rw [h2] at h;rw [hlv _ _ h1,hlv _ _ h2];exact h
 unfold jH at h⊢
 by_cases e1:t.k=1
 ·rw [if_pos e1] at h⊢;exact h
 rw [if_neg e1] at h⊢;by_cases e2:t.k=2
 ·rw [if_pos e2] at h⊢;exact h
 rw [if_neg e2] at h⊢;by_cases e6:t.k=6
 ·rw [if_pos e6] at h⊢;exact h
 rw [if_neg e6] at h⊢;by_cases e7:t.k=7
 ·rw [if_pos e7] at h⊢;exact h
 rw [if_neg e7] at h⊢;by_cases e8:t.k=8
 ·rw [if_pos e8] at h⊢;split at h
  ·rename_i hc;rw [if_pos (hck _ _ hc)];exact h
  ·cases h
 rw [if_neg e8] at h⊢;by_cases e3:t.k=3
 ·rw [if_pos e3] at h⊢;exact hpi h
 rw [if_neg e3] at h⊢;by_cases e4:t.k=4
 ·rw [if_pos e4] at h⊢;cases h1:jX (t1 0) with
  | none=>rw [h1] at h;cases h
  | some i=>
   rw [h1] at h;rw [hlv _ _ h1];cases h2:t1 1 with
   | none=>rw [h2] at h;cases h
   | some b=>
    rw [h2] at h;rw [ht _ _ h2];simp only at h⊢
    split at h
    ·cases h
    ·rename_i o ho
     split at h
     ·rename_i hs
      obtain ⟨v,hv⟩:=Option.isSome_iff_exists.1 hs;rw [if_pos (by rw [hr _ _ hv];rfl)];exact h
     ·cases h
 rw [if_neg e4] at h⊢;by_cases e5:t.k=5
 ·rw [if_pos e5] at h⊢;cases h1:qD (t1 0) 3 with
  | none=>rw [h1] at h;cases h
  | some s=>
   rw [h1] at h;rw [hfm _ _ _ h1];simp only at h⊢
   split at h
   ·rename_i hc;rw [if_pos (hck _ _ hc)];exact h
   ·cases h
 rw [if_neg e5] at h⊢;by_cases e9:t.k=9
 ·rw [if_pos e9] at h⊢;split at h
  ·rename_i hc;rw [if_pos ⟨hfa _ _ hc.1,hhs _ _ hc.2.1,hhs _ _ hc.2.2.1,hck _ _ hc.2.2.2⟩];exact h
  ·cases h
 rw [if_neg e9] at h⊢;by_cases e10:t.k=10
 ·rw [if_pos e10] at h⊢;cases h1:jX (t1 0) with
  | none=>rw [h1] at h;cases h
  | some i=>
   rw [h1] at h;rw [hlv _ _ h1];simp only at h⊢
   split at h
   ·rename_i hc;rw [if_pos ⟨hck _ _ hc.1,hck _ _ hc.2⟩];exact h
   ·cases h
 rw [if_neg e10] at h⊢;by_cases e11:t.k=11
 ·rw [if_pos e11] at h⊢;cases h1:t1 0 with
  | none=>rw [h1] at h;cases h
  | some s=>
   rw [h1] at h;rw [ht _ _ h1];simp only at h⊢
   split at h
   ·rename_i hc
    obtain ⟨l,hl⟩:=Option.isSome_iff_exists.1 hc;cases h2:r1 s with
    | none=>rw [h2] at hl;cases hl
    | some v=>rw [h2] at hl;rw [hr _ _ h2,if_pos (by rw [hl];rfl)];exact h
   ·cases h
 rw [if_neg e11] at h⊢;by_cases e12:t.k=12
 ·rw [if_pos e12] at h⊢;cases h1:qD (t1 1) 10 with
  | none=>rw [h1] at h;cases h
  | some e=>
   rw [h1] at h;rw [hfm _ _ _ h1];simp only at h⊢
   split at h
   ·rename_i hc;rw [if_pos ⟨hfa _ _ hc.1,hhs _ _ hc.2⟩];exact h
   ·cases h
 rw [if_neg e12] at h⊢;by_cases e13:t.k=13
 ·rw [if_pos e13] at h⊢;exact hpi h
 rw [if_neg e13] at h⊢;by_cases e14:t.k=14
 ·rw [if_pos e14] at h⊢;cases h1:jX (t1 0) with
  | none=>rw [h1] at h;cases h
  | some i=>
   rw [h1] at h;rw [hlv _ _ h1];simp only at h⊢
   split at h
   ·cases h
   ·rename_i s hs
    split at h
    ·rename_i hc;rw [if_pos ⟨hck _ _ hc.1,hhs _ _ hc.2⟩];exact h
    ·cases h
 rw [if_neg e14] at h⊢;by_cases e15:t.k=15
 ·rw [if_pos e15] at h⊢;cases h1:qD (t1 0) 13 with
  | none=>rw [h1] at h;cases h
  | some s=>rw [h1] at h;rw [hfm _ _ _ h1];exact h
 rw [if_neg e15] at h⊢;by_cases e16:t.k=16
 ·rw [if_pos e16] at h⊢;cases h1:qD (t1 0) 13 with
  | none=>rw [h1] at h;cases h
  | some s=>rw [h1] at h;rw [hfm _ _ _ h1];exact h
 rw [if_neg e16] at h;cases h
theorem aQf {r1 r2:List Tm→Tm→Option Tm}(hr:∀c t u,r1 c t=some u→r2 c t=some u)(ctx:List Tm)(t:Tm)(i:Nat)(u:Tm)(h:tT r1 ctx t i=some u):tT r2 ctx t i=some u:=by
 unfold tT at h⊢
 split at h
 ·rename_i h0;rw [if_pos h0];exact hr _ _ _ h
 ·rename_i h0
  rw [if_neg h0];split at h
  ·cases h
  ·rename_i h1;rw [if_neg h1];exact hr _ _ _ h
theorem oH:∀(N:Nat) (ctx:List Tm) (t u:Tm),eG N ctx t=some u→eG (N+1) ctx t=some u
 | 0,_,_,_,h=>by cases h
 | N+1,ctx,t,u,h=>aNh (fun t u h=>oH N ctx t u h) (fun i u h=>aQf (fun c t u h=>oH N c t u h) ctx t i u h) ctx t u h
theorem rL {N:Nat}{ctx:List Tm}{t s:Tm}(h:bZ (N+1) ctx t=some (.ok s)):aE t=true∧ctx.length≤20∧fT (bZ N) ctx t=some (.ok s)∧aE s=true:=by
 rw [bZ] at h;split at h
 ·rename_i hc
  obtain ⟨o,h1,h2⟩:=cE h;unfold aJm at h2
  split at h2
  ·rename_i hv
   have:=dO h2;subst this;exact ⟨hc.1,hc.2,h1,hv⟩
  ·injection h2 with h2;cases h2
 ·injection h with h;cases h
theorem aRm (r:Tm→Option Tm)(c:List Tm)(n:Int)(ks:List Tm)(ty:Nat→Option Tm):jH r c (.mk 2 n ks) ty=(if n=3 then none else some (.mk 2 (n+1) [])):=rfl
theorem aLf (r:Tm→Option Tm)(c:List Tm)(n:Int)(ks:List Tm)(ty:Nat→Option Tm):jH r c (.mk 3 n ks) ty=(match jX (ty 0) with|none=>none|some i=>match jX (ty 1) with|none=>none|some j=>some (.mk 2 (if i<j then j else i) [])):=rfl
theorem aQj (r:Tm→Option Tm)(c:List Tm)(n:Int)(ks:List Tm)(ty:Nat→Option Tm):jH r c (.mk 4 n ks) ty=(match jX (ty 0) with|none=>none|some _=>match ty 1 with|none=>none|some b=>match vO (.mk 3 0 [aL ks 0,b]) with|none=>none|some o=>if (r o).isSome=true then some o else none):=rfl
theorem aQo (r:Tm→Option Tm)(c:List Tm)(n:Int)(ks:List Tm)(ty:Nat→Option Tm):jH r c (.mk 5 n ks) ty=(match qD (ty 0) 3 with|none=>none|some s=>if fW (ty 1) (aL s.ks 0)=true then eC 0 (aL ks 1) (aL s.ks 1) else none):=rfl
theorem aQi (r:Tm→Option Tm)(c:List Tm)(n:Int)(ks:List Tm)(ty:Nat→Option Tm):jH r c (.mk 8 n ks) ty=(if fW (ty 0) pZ=true then some pZ else none):=rfl
theorem aPw (r:Tm→Option Tm)(c:List Tm)(n:Int)(ks:List Tm)(ty:Nat→Option Tm):jH r c (.mk 9 n ks) ty=(if pL (ty 0) pZ=true∧oT (ty 1) (vO (tN (aL ks 0) (.mk 7 0 [])))=true∧oT (ty 2) (aHs (aL ks 0))=true∧fW (ty 3) pZ=true then vO (tN (aL ks 0) (aL ks 3)) else none):=rfl
theorem aOe (r:Tm→Option Tm)(c:List Tm)(n:Int)(ks:List Tm)(ty:Nat→Option Tm):jH r c (.mk 10 n ks) ty=(match jX (ty 0) with|none=>none|some i=>if fW (ty 1) (aL ks 0)=true∧fW (ty 2) (aL ks 0)=true then some (.mk 2 i []) else none):=rfl
theorem aMt (r:Tm→Option Tm)(c:List Tm)(n:Int)(ks:List Tm)(ty:Nat→Option Tm):jH r c (.mk 11 n ks) ty=(match ty 0 with|none=>none|some s=>if (jX (r s)).isSome=true then vO (.mk 10 0 [s,aL ks 0,aL ks 0]) else none):=rfl
theorem aMq (r:Tm→Option Tm)(c:List Tm)(n:Int)(ks:List Tm)(ty:Nat→Option Tm):jH r c (.mk 12 n ks) ty=(match qD (ty 1) 10 with|none=>none|some e=>if pL (ty 0) (aL e.ks 0)=true∧oT (ty 2) (vO (tN (aL ks 0) (aL e.ks 1)))=true then vO (tN (aL ks 0) (aL e.ks 2)) else none):=rfl
theorem aOa (r:Tm→Option Tm)(c:List Tm)(n:Int)(ks:List Tm)(ty:Nat→Option Tm):jH r c (.mk 13 n ks) ty=(match jX (ty 0) with|none=>none|some i=>match jX (ty 1) with|none=>none|some j=>some (.mk 2 (if i<j then j else i) [])):=rfl
theorem aNp (r:Tm→Option Tm)(c:List Tm)(n:Int)(ks:List Tm)(ty:Nat→Option Tm):jH r c (.mk 14 n ks) ty=(match jX (ty 0) with|none=>none|some _=>match oU (aL ks 0) 13 with|none=>none|some s=>if fW (ty 1) (aL s.ks 0)=true∧oT (ty 2) (eC 0 (aL ks 1) (aL s.ks 1))=true then some (aL ks 0) else none):=rfl
theorem aOs (r:Tm→Option Tm)(c:List Tm)(n:Int)(ks:List Tm)(ty:Nat→Option Tm):jH r c (.mk 15 n ks) ty=(match qD (ty 0) 13 with|none=>none|some s=>some (aL s.ks 0)):=rfl
theorem aNx (r:Tm→Option Tm)(c:List Tm)(n:Int)(ks:List Tm)(ty:Nat→Option Tm):jH r c (.mk 16 n ks) ty=(match qD (ty 0) 13 with|none=>none|some s=>eC 0 (.mk 15 0 [aL ks 0]) (aL s.ks 1)):=rfl
theorem aSo {k:Int}(hk:k≠1∧k≠3∧k≠4∧k≠13){d n:Int}{a b:Tm}(ha:dA d a=true)(hb:dA d b=true):dA d (.mk k n [a,b])=true:=by
 have hu:=pQ (k:=k) ⟨hk.2.1,hk.2.2.1,hk.2.2.2⟩;exact jA (fun h=>absurd h hk.1) (by simp [gX,hu,ha,hb])
theorem aUm {k:Int}(hk:k≠1∧k≠3∧k≠4∧k≠13){d n:Int}{a b c:Tm}(ha:dA d a=true)(hb:dA d b=true)(hc:dA d c=true):dA d (.mk k n [a,b,c])=true:=by
 have hu:=pQ (k:=k) ⟨hk.2.1,hk.2.2.1,hk.2.2.2⟩;exact jA (fun h=>absurd h hk.1) (by simp [gX,hu,ha,hb,hc])
theorem mD {k n d:Int}(hk:k≠1):dA d (.mk k n [])=true:=jA (fun h=>absurd h hk) rfl
theorem rM {o:Tm}{k:Int}(h:o.k=k):o = .mk k o.n o.ks:=by obtain ⟨a,b,c⟩:=o;subst h;rfl
theorem fL {k n:Int}{ks:List Tm}{m:Nat}(hv:aE (.mk k n ks)=true)(h:aW k=(m:Int)):ks.length=m:=by have:=(bC hv).1;omega
theorem aHh {k:Int}(h:0≤aW k)(e3:¬(k=3∨k=13))(e4:¬k=4)(e5:¬k=5)(e9:¬k=9)(e10:¬k=10)(e12:¬k=12)(e14:¬k=14)(e1:¬k=1)(e2:¬k=2)(e6:¬k=6)(e7:¬k=7)(e8:¬k=8)(e11:¬k=11):k=15∨k=16:=by
 by_cases h15:k=15
 ·exact .inl h15
 by_cases h16:k=16
 ·exact .inr h16
 unfold aW at h
 rw [if_neg e1,if_neg e2,if_neg e6,if_neg e7,if_neg e8,if_neg e11,if_neg h15,if_neg h16,if_neg (fun h=>e3 (.inl h)),if_neg e4,if_neg e5,if_neg (fun h=>e3 (.inr h)),if_neg e10,if_neg e12,if_neg e14,if_neg e9] at h;omega
theorem aHv {n:Int}{ks:List Tm}(hv:aE (.mk 16 n ks)=true)(hl:ks.length=1):aE (.mk 15 0 [aL ks 0])=true:=by
 match ks,hl with
 | [p],_=>
  show aE (.mk 15 0 [p])=true
  unfold aE at hv⊢
  rw [Bool.and_eq_true,decide_eq_true_eq] at hv⊢;refine ⟨?_,by have:=hv.2;simpa [Tm.size] using this⟩;have h1:=((bD 29 16 n [p]).1 hv.1).2.2.2;exact (bD 29 15 0 [p]).2 ⟨rfl,by omega,by decide,h1⟩
theorem rG:∀(N:Nat) (G D:List Tm) (t u:Tm),Tele D→dA (D.length:Int) t=true→bZ N (G++D) t=some (.ok u)→eG (2*N) D t=some u∧dA (D.length:Int) u=true:=by
 intro N;induction N with
 | zero=>intro G D t u _ _ h;cases h
 | succ N ih=>
  intro G D t u hT hc h;obtain ⟨hv,hl,hk,hvu⟩:=rL h;obtain ⟨k,n,ks⟩:=t;have hd0:(0:Int)≤(D.length:Int):=by omega
  have har:=(bC hv).1;have hop:∀(i:Nat) (s:Tm),aO k (i:Int)=0→bZ N (G++D) (aL ks i)=some (.ok s)→tT (eG (2*N+1)) D (.mk k n ks) i=some s∧dA (D.length:Int) s=true:=fun i s hu hs=>by
   have hck:=dN hc i;rw [hu,Int.add_zero] at hck;obtain ⟨h1,h2⟩:=ih G D _ _ hT hck hs;refine ⟨?_,h2⟩;unfold tT
   rw [if_pos (show aO (Tm.mk k n ks).k (i:Int)=0 from hu)];exact oH _ _ _ _ h1
  have hob:∀(s:Tm),binds k=true→ks.length=2→bZ N (G++D++[aL ks 0]) (aL ks 1)=some (.ok s)→tT (eG (2*N+1)) D (.mk k n ks) 1=some s∧dA ((D.length:Int)+1) s=true∧eG (2*N) (D++[aL ks 0]) (aL ks 1)=some s∧Tele (D++[aL ks 0])∧D.length<20:=fun s hb hl2 hs=>by
   have hu1:aO k ((1:Nat):Int)=1:=by unfold aO;rw [if_pos ⟨rfl,hb⟩]
   have hck:=dN hc 1;rw [hu1] at hck;have hck0:=dN hc 0;rw [show aO k ((0:Nat):Int)=0 by unfold aO;rw [if_neg (by rintro ⟨h,-⟩;cases h)],Int.add_zero] at hck0;have hT':=hT.push hck0 (dL hv (j:=0) (by omega));have hlen:((D++[aL ks 0]).length:Int)=(D.length:Int)+1:=by simp
   have h20:D.length<20:=by
    cases N with
    | zero=>cases hs
    | succ N=>have:=(rL hs).2.1;simp at this;omega
   rw [List.append_assoc] at hs;obtain ⟨h1,h2⟩:=ih G (D++[aL ks 0]) _ _ hT' (by rw [hlen];exact hck) hs;rw [hlen] at h2;refine ⟨?_,h2,h1,hT',h20⟩;unfold tT
   rw [if_neg (show ¬aO (Tm.mk k n ks).k ((1:Nat):Int)=0 by show ¬aO k ((1:Nat):Int)=0;rw [hu1];decide),if_neg (by omega)];exact oH _ _ _ _ h1
  rw [show 2*(N+1)=(2*N+1)+1 from by omega];show jH (eG (2*N+1) D) D (.mk k n ks) (tT (eG (2*N+1)) D (.mk k n ks))=some u∧_
  generalize tT (eG (2*N+1)) D (.mk k n ks)=ty at hop hob⊢
  have hpi:aCl (bZ N) (G++D) (aL ks 0) (aL ks 1)=some (.ok u)→binds k=true→ks.length=2→(match jX (ty 0) with|none=>none|some i=>match jX (ty 1) with|none=>none|some j=>some (Tm.mk 2 (if i<j then j else i) []))=some u∧dA (D.length:Int) u=true:=fun hk hb hl2=>by
   obtain ⟨i,h1,hk⟩:=cE hk;obtain ⟨j,h2,hk⟩:=cE hk;obtain ⟨s1,h3,h4⟩:=jK h1;obtain ⟨s2,h5,h6⟩:=jK h2;have h7:=dO hk;subst h7;rw [(hop 0 s1 (by unfold aO;rw [if_neg (by rintro ⟨h,-⟩;cases h)]) h3).1,h4,(hob s2 hb hl2 h5).1,h6];refine ⟨?_,mD (by decide)⟩;simp only
   congr 2
   split<;>split<;>omega
  rw [fT] at hk;by_cases e3:k=3∨k=13
  ·rw [if_pos e3] at hk;rcases e3 with rfl|rfl
   ·rw [aLf];exact hpi hk rfl (fL hv rfl)
   ·rw [aOa];exact hpi hk rfl (fL hv rfl)
  rw [if_neg e3] at hk;by_cases e4:k=4
  ·subst e4;rw [if_pos rfl] at hk;have hl2:ks.length=2:=fL hv rfl;obtain ⟨i,h1,hk⟩:=cE hk;obtain ⟨b,h2,hk⟩:=cE hk;obtain ⟨_,h3,hk⟩:=cE hk;obtain ⟨s1,h4,h5⟩:=jK h1;obtain ⟨i',g1,h3⟩:=cE h3;obtain ⟨j,g2,_⟩:=cE h3;obtain ⟨s2,g3,g4⟩:=jK g2;have h7:=dO hk;subst h7;have q0:=hop 0 s1 (by decide) h4;obtain ⟨q1,q2,q3,q4,q5⟩:=hob b rfl hl2 h2;have hck0:=dN hc 0;rw [show aO 4 ((0:Nat):Int)=0 from rfl,Int.add_zero] at hck0;have hlen:((D++[aL ks 0]).length:Int)=(D.length:Int)+1:=by simp
   rw [List.append_assoc] at g3;obtain ⟨p1,p2⟩:=ih G (D++[aL ks 0]) _ _ q4 (by rw [hlen];exact q2) g3;have q6:eG (2*N) D (aL ks 0)=some s1:=(ih G D _ _ hT hck0 h4).1;have hpi:eG (2*N+1) D (.mk 3 0 [aL ks 0,b])=some (.mk 2 (if i<j then j else i) []):=by
    show jH (eG (2*N) D) D (.mk 3 0 [aL ks 0,b]) (tT (eG (2*N)) D (.mk 3 0 [aL ks 0,b]))=_
    rw [aLf,show tT (eG (2*N)) D (.mk 3 0 [aL ks 0,b]) 0=eG (2*N) D (aL ks 0) from rfl,q6,h5,
     show tT (eG (2*N)) D (.mk 3 0 [aL ks 0,b]) 1=if 20≤D.length then none else eG (2*N) (D++[aL ks 0]) b from rfl,if_neg (by omega),p1,g4]
   rw [aQj,q0.1,h5,q1];simp only
   rw [iA hvu];simp only
   rw [hpi];refine ⟨rfl,jA (fun h=>absurd h (by decide)) ?_⟩;rw [gX,gX,gX,Bool.and_true,Bool.and_eq_true];refine ⟨?_,q2⟩;have hu3:aO 3 0=0:=rfl;simpa [hu3] using hck0
  rw [if_neg e4] at hk;by_cases e5:k=5
  ·subst e5;rw [if_pos rfl] at hk;have hl2:ks.length=2:=fL hv rfl;obtain ⟨o,h1,hk⟩:=cE hk;obtain ⟨_,h2,hk⟩:=cE hk;obtain ⟨s1,h3,h4,h5⟩:=qH h1;obtain ⟨s2,h6,h7,h8⟩:=fZ h2;have h9:=dO hk;subst h9;have q0:=hop 0 s1 (by decide) h3;have q1:=hop 1 s2 (by decide) h6;obtain ⟨r1,r2,r3⟩:=eT h4;have hco:=zO hd0 q0.2 r1 r3;have ho:=rM h5;rw [ho] at hco r2;have hlo:o.ks.length=2:=fL r2 rfl;rw [aQo,q0.1,qD,nY h4 h5,q1.1];simp only
   rw [if_pos h7,kK (dL hv (by omega)) (dL r2 (j:=1) (by omega))];have hck:=dN hc 1;rw [show aO 5 ((1:Nat):Int)=0 from rfl,Int.add_zero] at hck;exact ⟨iA hvu,aDt hd0 hck (dN hco 1)⟩
  rw [if_neg e5] at hk;by_cases e9:k=9
  ·subst e9;rw [if_pos rfl] at hk;have hl2:ks.length=4:=fL hv rfl;obtain ⟨_,h1,hk⟩:=cE hk;obtain ⟨_,h2,hk⟩:=cE hk;obtain ⟨_,h3,hk⟩:=cE hk;obtain ⟨_,h4,hk⟩:=cE hk;have h9:=dO hk;subst h9;obtain ⟨s0,g1,g2⟩:=zV h1;obtain ⟨s1,g3,g4,g5⟩:=fZ h2;obtain ⟨s2,g6,g7,g8⟩:=fZ h3;obtain ⟨s3,g9,g10,g11⟩:=fZ h4;have hvp:=dL hv (j:=0) (by omega);have w1:aE (.mk 3 0 [apT (jM 1 0 (aL ks 0)) (.mk 1 0 []),apT (jM 2 0 (aL ks 0)) (.mk 8 0 [.mk 1 1 []])])=true:=dL g8 (j:=1) (by simp);have w2:aE (apT (jM 1 0 (aL ks 0)) (.mk 1 0 []))=true:=dL w1 (j:=0) (by simp);have w3:aE (apT (jM 2 0 (aL ks 0)) (.mk 8 0 [.mk 1 1 []]))=true:=dL w1 (j:=1) (by simp);have w4:aE (jM 1 0 (aL ks 0))=true:=dL w2 (j:=0) (by simp);have w5:aE (jM 2 0 (aL ks 0))=true:=dL w3 (j:=0) (by simp);have hst:aHs (aL ks 0)=some (aIv (aL ks 0)):=by
    unfold aHs
    rw [pP (by omega) hvp w4,pP (by omega) hvp w5];exact iA g8
   rw [aPw,(hop 0 s0 (by decide) g1).1,(hop 1 s1 (by decide) g3).1,(hop 2 s2 (by decide) g6).1,(hop 3 s3 (by decide) g9).1,show tN (aL ks 0) (.mk 7 0 [])=apT (aL ks 0) (.mk 7 0 []) from rfl,iA g5,hst,if_pos ⟨g2,g4,g7,g10⟩];have hck:=dN hc 0;rw [show aO 9 ((0:Nat):Int)=0 from rfl,Int.add_zero] at hck;have hck3:=dN hc 3;rw [show aO 9 ((3:Nat):Int)=0 from rfl,Int.add_zero] at hck3;exact ⟨iA hvu,aSo (by decide) hck hck3⟩
  rw [if_neg e9] at hk;by_cases e10:k=10
  ·subst e10;rw [if_pos rfl] at hk;obtain ⟨i,h1,hk⟩:=cE hk;obtain ⟨_,h2,hk⟩:=cE hk;obtain ⟨_,h3,hk⟩:=cE hk;have h9:=dO hk;subst h9;obtain ⟨s0,g1,g2⟩:=jK h1;obtain ⟨s1,g3,g4,g5⟩:=fZ h2;obtain ⟨s2,g6,g7,g8⟩:=fZ h3;rw [aOe,(hop 0 s0 (by decide) g1).1,g2,(hop 1 s1 (by decide) g3).1,(hop 2 s2 (by decide) g6).1];simp only
   rw [if_pos ⟨g4,g7⟩];exact ⟨rfl,mD (by decide)⟩
  rw [if_neg e10] at hk;by_cases e12:k=12
  ·subst e12;rw [if_pos rfl] at hk;have hl2:ks.length=3:=fL hv rfl;obtain ⟨o,h1,hk⟩:=cE hk;obtain ⟨_,h2,hk⟩:=cE hk;obtain ⟨_,h3,hk⟩:=cE hk;have h9:=dO hk;subst h9;obtain ⟨s1,g1,g2,g3⟩:=qH h1;obtain ⟨s0,g4,g5⟩:=zV h2;obtain ⟨s2,g6,g7,g8⟩:=fZ h3;have q1:=hop 1 s1 (by decide) g1;obtain ⟨r1,r2,r3⟩:=eT g2;have hco:=zO hd0 q1.2 r1 r3;rw [rM g3] at hco;rw [aMq,q1.1,qD,nY g2 g3,(hop 0 s0 (by decide) g4).1,(hop 2 s2 (by decide) g6).1];simp only
   rw [show tN (aL ks 0) (aL o.ks 1)=apT (aL ks 0) (aL o.ks 1) from rfl,iA g8,if_pos ⟨g5,g7⟩];have hck:=dN hc 0;rw [show aO 12 ((0:Nat):Int)=0 from rfl,Int.add_zero] at hck;exact ⟨iA hvu,aSo (by decide) hck (kB (by decide) hco 2)⟩
  rw [if_neg e12] at hk;by_cases e14:k=14
  ·subst e14;rw [if_pos rfl] at hk;have hl2:ks.length=3:=fL hv rfl;obtain ⟨i,h1,hk⟩:=cE hk;obtain ⟨o',h2,hk⟩:=cE hk;obtain ⟨o,h3,hk⟩:=cE hk;obtain ⟨_,h4,hk⟩:=cE hk;obtain ⟨_,h5,hk⟩:=cE hk;have h9:=dO hk;subst h9;injection h2 with h2;have ho:o'=o∧o'.k=13:=by
    unfold zW at h3
    split at h3
    ·rename_i hk;exact ⟨dO h3,hk⟩
    ·injection h3 with h3;cases h3
   obtain ⟨rfl,ho13⟩:=ho;obtain ⟨s0,g1,g2⟩:=jK h1;obtain ⟨s1,g3,g4,g5⟩:=fZ h4;obtain ⟨s2,g6,g7,g8⟩:=fZ h5;obtain ⟨r1,r2,r3⟩:=eT h2;rw [rM ho13] at r2;have hlo:o'.ks.length=2:=fL r2 rfl;rw [aNp,(hop 0 s0 (by decide) g1).1,g2,nY h2 ho13,(hop 1 s1 (by decide) g3).1,(hop 2 s2 (by decide) g6).1];simp only
   rw [kK (dL hv (j:=1) (by omega)) (dL r2 (j:=1) (by omega)),iA g8,if_pos ⟨g4,g7⟩];have hck:=dN hc 0;rw [show aO 14 ((0:Nat):Int)=0 from rfl,Int.add_zero] at hck;exact ⟨rfl,hck⟩
  rw [if_neg e14] at hk;by_cases e1:k=1
  ·subst e1;rw [if_pos rfl] at hk;have hn:=rC hc rfl;have hn0:0≤n:=by have:=(bC hv).2;omega
   unfold aFf at hk
   rw [if_neg (by simp;omega)] at hk;have h9:=dO hk;have hp:D.length - 1 - n.toNat<D.length:=by omega
   have hg:(G++D).getD ((G++D).length - 1 - n.toNat) default=D[D.length - 1 - n.toNat]:=by
    rw [List.getD_eq_getElem?_getD,List.getElem?_append_right (by simp;omega),List.length_append,show G.length+D.length - 1 - n.toNat - G.length=D.length - 1 - n.toNat by omega,iG hp,Option.getD_some]
   rw [hg] at h9;subst h9;obtain ⟨hc1,hv1⟩:=hT _ hp;have hcl:=(aEo (n+1) (by omega)).1 _ _ 0 hc1;rw [show ((D.length - 1 - n.toNat:Nat):Int)+(n+1)=(D.length:Int) by omega] at hcl;refine ⟨?_,hcl⟩;unfold jH
   rw [if_pos (show (Tm.mk 1 n ks).k=1 from rfl),if_pos (show 0≤(Tm.mk 1 n ks).n∧(Tm.mk 1 n ks).n<(D.length:Int) from ⟨hn0,hn⟩)];show cP (n+1) 0 (D.getD (D.length - 1 - n.toNat) default)=_
   rw [show D.getD (D.length - 1 - n.toNat) default=D[D.length - 1 - n.toNat] by simp [List.getD,iG hp]];exact pP (by omega) hv1 hvu
  rw [if_neg e1] at hk;by_cases e2:k=2
  ·subst e2;rw [if_pos rfl] at hk;split at hk
   ·injection hk with hk;cases hk
   ·have h9:=dO hk;subst h9;rw [aRm,if_neg (by omega)];exact ⟨rfl,mD (by decide)⟩
  rw [if_neg e2] at hk;by_cases e6:k=6
  ·subst e6;rw [if_pos rfl] at hk;have h9:=dO hk;subst h9;exact ⟨rfl,mD (by decide)⟩
  rw [if_neg e6] at hk;by_cases e7:k=7
  ·subst e7;rw [if_pos rfl] at hk;have h9:=dO hk;subst h9;exact ⟨rfl,mD (by decide)⟩
  rw [if_neg e7] at hk;by_cases e8:k=8
  ·subst e8;rw [if_pos rfl] at hk;obtain ⟨_,h1,hk⟩:=cE hk;have h9:=dO hk;subst h9;obtain ⟨s0,g1,g2,g3⟩:=fZ h1;rw [aQi,(hop 0 s0 (by decide) g1).1,if_pos (show fW (some s0) pZ=true from g2)];exact ⟨rfl,mD (by decide)⟩
  rw [if_neg e8] at hk;by_cases e11:k=11
  ·subst e11;rw [if_pos rfl] at hk;obtain ⟨s,h1,hk⟩:=cE hk;obtain ⟨i,h2,hk⟩:=cE hk;have h9:=dO hk;subst h9;obtain ⟨q,g1,g2⟩:=jK h2;have q0:=hop 0 s (by decide) h1;have q1:=oH _ _ _ _ (ih G D _ _ hT q0.2 g1).1;rw [aMt,q0.1];simp only
   rw [q1,g2,if_pos (show (some i).isSome=true from rfl)];have hck:=dN hc 0;rw [show aO 11 ((0:Nat):Int)=0 from rfl,Int.add_zero] at hck;exact ⟨iA hvu,aUm (by decide) q0.2 hck hck⟩
  rw [if_neg e11] at hk;obtain ⟨o,h1,hk⟩:=cE hk;obtain ⟨s,h2,h3,h4⟩:=qH h1;have e15:k=15∨k=16:=aHh (by omega) e3 e4 e5 e9 e10 e12 e14 e1 e2 e6 e7 e8 e11;have hu0:aO k ((0:Nat):Int)=0:=by unfold aO;rw [if_neg (by rintro ⟨h,-⟩;cases h)]
  have q0:=hop 0 s hu0 h2;obtain ⟨r1,r2,r3⟩:=eT h3;have hco:=zO hd0 q0.2 r1 r3;rw [rM h4] at hco r2;have hlo:o.ks.length=2:=fL r2 rfl;rcases e15 with rfl|rfl
  ·rw [if_pos rfl] at hk;have h9:=dO hk;subst h9;rw [aOs,q0.1,qD,nY h3 h4];have hck:=dN hco 0;rw [show aO 13 ((0:Nat):Int)=0 from rfl,Int.add_zero] at hck;exact ⟨rfl,hck⟩
  ·rw [if_neg (by decide)] at hk;have h9:=dO hk;subst h9;have hl1:ks.length=1:=fL hv rfl;have hck:=dN hc 0;rw [hu0,Int.add_zero] at hck;have hvf:aE (.mk 15 0 [aL ks 0])=true:=aHv hv hl1;rw [aNx,q0.1,qD,nY h3 h4];simp only
   rw [kK hvf (dL r2 (j:=1) (by omega))];refine ⟨iA hvu,aDt hd0 (jA (fun h=>absurd h (by decide)) ?_) (dN hco 1)⟩;simp [gX,hck,pQ]
theorem aCc (C:Option Addr)(m cc:Nat)(k n:Int)(A:Option Addr)(c fc:Nat)(ev:Array Value)(kp np:Int)(sp:List Tm)(t1' t2':Tm)(ni ka na:Int)(sa:List Tm)(kb nb:Int)(sb:List Tm)(kd nd:Int)(sd:List Tm)(ty:Nat→Option Tm)(w:World)(h1:qD (ty 1) 10=some (.mk 10 ni [.mk ka na sa,.mk kb nb sb,.mk kd nd sd]))(hf:pL (ty 0) (.mk ka na sa)=true)(hvb:aE (.mk 5 0 [.mk kp np sp,.mk kb nb sb])=true)(h2c:fW (ty 2) (.mk 5 0 [.mk kp np sp,.mk kb nb sb])=true)(hvd:aE (.mk 5 0 [.mk kp np sp,.mk kd nd sd])=true)(hT:TyOk fc ev w ty)(hr:Rd w A 0 [.mk kp np sp,t1',t2']) :
  Calls prog 102 #[.agg #[.slice C m cc,.int .i64 k,.int .i64 n,.slice A 3 c,.func (.func fc) #[] ev]] w (eO w 5 0 [.mk kp np sp,.mk kd nd sd]):=by
 replace h1:=aD h1;replace hf:=aD hf;replace hvb:=aD hvb;replace h2c:=aD h2c;replace hvd:=aD hvd;obtain ⟨bp,op,Ap,cp,rfl,i1,i2,i3,hlp,rp0⟩:=oF hr;simp only [Nat.zero_mul,Nat.add_zero,Nat.one_mul,Nat.reduceMul] at i1 i2 i3
 go_enter func102,ntmps102;go_upto_region 4 with (go_at_call 96;refine (kA C m cc k n _ 3 c fc ev 1 (by omega) 10 ni [.mk ka na sa,.mk kb nb sb,.mk kd nd sd] ty _ h1.out (hT.below bw2)).mono ?_;rintro e w1 ⟨A3,ci,rfl,hl3,r3,hb1⟩;have hZ1:=bA hb1;have hJ1:=((aC w 90 #[.slice C m cc,.int .i64 k,.int .i64 n,.slice (some ⟨bp,op,none⟩) 3 c,.func (.func fc) #[] ev] rfl).alloc (.cells Zr 25)).keep hb1;have g1:Bw w w1:=bW bw2 hb1)
 refine aT ?_;intro wx hwx;have hJx:=(show Blk wx w.heap.size _ by rw [hwx];exact hJ1.alloc _);have hZx:=(show Blk wx (w.heap.size+1) _ by rw [hwx];exact hZ1.alloc _);have hIx0:Blk wx w1.heap.size (Ro 10 ni A3 3 ci):=by rw [hwx];exact aC _ 25 _ rfl
 have gx:Bw w wx:=by rw [hwx];exact g1.alloc g1.size _
 have r3x:Rd wx A3 0 [.mk ka na sa,.mk kb nb sb,.mk kd nd sd]:=by rw [hwx];exact r3.alloc _
 clear hwx;obtain ⟨bi,oi,Aa,ca,rfl,a1,a2,a3,hla,ra0⟩:=oF r3x;obtain ⟨Ab,cb,c1,c2,c3,hlb,rb0⟩:=tX r3x;obtain ⟨Ad,cd,d1,d2,d3,hld,rd0⟩:=kd2 r3x;simp only [Nat.zero_mul,Nat.add_zero,Nat.one_mul,Nat.reduceMul] at a1 a2 a3 c1 c2 c3 d1 d2 d3
 have hIx:Blk wx w1.heap.size (Ro 10 ni (some ⟨bi,oi,none⟩) 3 ci):=hIx0;have u2':=aF hIx.three.2.2;have y0':=aF a1;have y1':=aF a2;have y2':=aF a3;have uj0:=aF (hJx.at_ (i:=0) rfl);have uj1:=aF (hJx.at_ (i:=1) rfl);have uj2:=aF (hJx.at_ (i:=2) rfl);have uj3:=aF (hJx.at_ (i:=3) rfl);have uj4:=aF (hJx.at_ (i:=4) rfl);refine fE wx [6] [0,1,2,3,4] 7 2 (lT:=[_,_,_,_,_]) ?_;intro q0 bq0;refine cL (aD ?_);refine bG 5 ?_
 ·go_wp2_with (go_at_call 122;refine (tB C m cc k n _ 3 c fc ev 0 (by omega) ka na sa Aa ca ty _ hf.out ((hT.below gx).below bq0) (ra0.below bq0)).mono ?_;rintro e q1 ⟨rfl,hbq1⟩)
  refine bJ bq0 hbq1 ?_;intro bq1 lq1;refine cY [6] (lB:=[_]) ?_;have hJ3:=hJx.keep bq1;have hZ3:=hZx.keep bq1;have hI3:=hIx.keep bq1;have g3:=gx.trans (bq1.mono gx.size);have j3:=hJ3.at_ (i:=3) rfl;have p0:=(bR g3) _ _ i1;have p1:=(bR g3) _ _ i2;have p2:=(bR g3) _ _ i3;go_upto_region 8 with fail
  refine aT ?_;intro wu hwu;have hJu:=(show Blk wu w.heap.size _ by rw [hwu];exact hJ3.alloc _);have hZu:=(show Blk wu (w.heap.size+1) _ by rw [hwu];exact hZ3.alloc _);have hIu:=(show Blk wu w1.heap.size _ by rw [hwu];exact hI3.alloc _);have hPu:Blk wu q1.heap.size (Ro kp np Ap sp.length cp):=by rw [hwu];exact aC _ 25 _ rfl
  have gu:Bw w wu:=by rw [hwu];exact g3.alloc g3.size _
  have kxu:Bw wx wu:=by rw [hwu];exact bq1.alloc bq1.size _
  clear hwu j3 p0 p1 p2;have rpu:=rp0.below gu;have rbu:=rb0.below kxu;obtain ⟨v0,v1,v2⟩:=kZ hPu;have u2:=aF hIu.three.2.2;have y0:=aF ((bR kxu) _ _ c1);have y1:=aF ((bR kxu) _ _ c2);have y2:=aF ((bR kxu) _ _ c3);go_cut [5,8] (fun vc vp wy=>∃(gz:Nat) (Az:Option Addr) (cz:Nat),vp = .pointer (some ⟨gz,0,none⟩)∧vc = .int .i64 0∧Blk wy gz (Ro 5 0 Az 2 cz)∧Rd wy Az 0 [.mk kp np sp,.mk kb nb sb]∧Bw wu wy∧wu.heap.size≤gz)
  case first=>
   refine fE wu [8,9,10,12,13] [0,1,2,3,4] 14 9 (lT:=[_,_,_,_,_]) ?_;intro q0 bq0;refine cL (aD ?_);refine oC 5 11 ?_ ?_
   ·go_wp2_with fail
    refine eQ ?_;intro q1 hbq1 zq1 seq1;have rq1:Rd q1 (some ⟨q0.heap.size,0,none⟩) 0 [.mk kp np sp,.mk kb nb sb]:=fF (s0:=sp) (s1:=sb) zq1 hlp hlb ((rpu.below bq0).below hbq1) ((rbu.below bq0).below hbq1);refine bJ bq0 hbq1 ?_;intro bq1 lq1;refine oC 6 11 ?_ ?_
    ·go_wp2_with (go_at_call 92;refine (bL 5 _ ⟨_,_,_,rfl⟩ _).mono ?_;rintro e q2 ⟨rfl,hbq2⟩)
     have Pq2:=rq1.below hbq2;refine bJ bq1 hbq2 ?_;intro bq2 lq2;refine oC 7 11 ?_ ?_
     ·go_wp2_with (go_at_call 89;refine (cJ 5 0 [.mk kp np sp,.mk kb nb sb] _ 2 _ hvb.out Pq2).mono ?_;rintro e q3 ⟨rfl,hbq3⟩)
      have Pq3:=Pq2.below hbq3;refine bJ bq2 hbq3 ?_;intro bq3 lq3;refine jW [8,9,10] 3 (lT:=[_,_,_]) ?_;refine cL (aD ?_);refine bG 11 ?_
      ·go_wp2_with fail
       refine eQ ?_;intro q4 hbq4 zq4 seq4;have Pq4:=Pq3.below hbq4;refine bJ bq3 hbq4 ?_;intro bq4 lq4;refine cY [12,13] (lB:=[_,_]) ?_;obtain ⟨d0,d1,d2,e0,e1,e2⟩:=cA zq4;have szb:wu.heap.size≤q3.heap.size:=by first|exact bq0.size|exact bq3.size
       go_wp2_with fail
       go_meet
       exact ⟨q3.heap.size,some ⟨q0.heap.size,0,none⟩,2,rfl,rfl,((zq4.set_ 0 _).set_ 1 _).set_ 2 _,bT zq4 hvb.out Pq4 _ _ _,((bq4.setCell szb _).setCell szb _).setCell szb _,szb⟩
     ·go_wp2_with fail
      refine eQ ?_;intro q5 hbq5 zq5 seq5;have Pq5:=Pq2.below hbq5;refine bJ bq2 hbq5 ?_;intro bq5 lq5;refine bG 7 ?_
      ·go_wp2_with (go_at_call 89;refine (cJ 5 0 [.mk kp np sp,.mk kb nb sb] _ 2 _ hvb.out Pq5).mono ?_;rintro e q6 ⟨rfl,hbq6⟩)
       have Pq6:=Pq5.below hbq6;have Zq6:=zq5.keep hbq6;refine bJ bq5 hbq6 ?_;intro bq6 lq6;refine jW [8,9,10] 2 (lT:=[_,_,_]) ?_;refine cL (aD ?_);refine cY [12,13] (lB:=[_,_]) ?_;obtain ⟨d0,d1,d2,e0,e1,e2⟩:=cA Zq6;have szb:wu.heap.size≤q2.heap.size:=by first|exact bq0.size|exact bq2.size
       go_wp2_with fail
       go_meet
       exact ⟨q2.heap.size,some ⟨q0.heap.size,0,none⟩,2,rfl,rfl,((Zq6.set_ 0 _).set_ 1 _).set_ 2 _,bT Zq6 hvb.out Pq6 _ _ _,((bq6.setCell szb _).setCell szb _).setCell szb _,szb⟩
    ·go_wp2_with fail
     refine eQ ?_;intro q7 hbq7 zq7 seq7;have Pq7:=rq1.below hbq7;refine bJ bq1 hbq7 ?_;intro bq7 lq7;refine bG 6 ?_
     ·go_wp2_with (go_at_call 92;refine (bL 5 _ ⟨_,_,_,rfl⟩ _).mono ?_;rintro e q8 ⟨rfl,hbq8⟩)
      have Pq8:=Pq7.below hbq8;have Zq8:=zq7.keep hbq8;refine bJ bq7 hbq8 ?_;intro bq8 lq8;refine bG 7 ?_
      ·go_wp2_with (go_at_call 89;refine (cJ 5 0 [.mk kp np sp,.mk kb nb sb] _ 2 _ hvb.out Pq8).mono ?_;rintro e q9 ⟨rfl,hbq9⟩)
       have Pq9:=Pq8.below hbq9;have Zq9:=Zq8.keep hbq9;refine bJ bq8 hbq9 ?_;intro bq9 lq9;refine jW [8,9,10] 2 (lT:=[_,_,_]) ?_;refine cL (aD ?_);refine cY [12,13] (lB:=[_,_]) ?_;obtain ⟨d0,d1,d2,e0,e1,e2⟩:=cA Zq9;have szb:wu.heap.size≤q1.heap.size:=by first|exact bq0.size|exact bq1.size
       go_wp2_with fail
       go_meet
       exact ⟨q1.heap.size,some ⟨q0.heap.size,0,none⟩,2,rfl,rfl,((Zq9.set_ 0 _).set_ 1 _).set_ 2 _,bT Zq9 hvb.out Pq9 _ _ _,((bq9.setCell szb _).setCell szb _).setCell szb _,szb⟩
   ·go_wp2_with fail
    refine eQ ?_;intro q10 hbq10 zq10 seq10;refine bJ bq0 hbq10 ?_;intro bq10 lq10;refine bG 5 ?_
    ·go_wp2_with fail
     refine eQ ?_;intro q11 hbq11 zq11 seq11;have rq11:Rd q11 (some ⟨q10.heap.size,0,none⟩) 0 [.mk kp np sp,.mk kb nb sb]:=fF (s0:=sp) (s1:=sb) zq11 hlp hlb ((rpu.below bq10).below hbq11) ((rbu.below bq10).below hbq11);have Zq11:=zq10.keep hbq11;refine bJ bq10 hbq11 ?_;intro bq11 lq11;refine bG 6 ?_
     ·go_wp2_with (go_at_call 92;refine (bL 5 _ ⟨_,_,_,rfl⟩ _).mono ?_;rintro e q12 ⟨rfl,hbq12⟩)
      have Zq12:=Zq11.keep hbq12;have Pq12:=rq11.below hbq12;refine bJ bq11 hbq12 ?_;intro bq12 lq12;refine bG 7 ?_
      ·go_wp2_with (go_at_call 89;refine (cJ 5 0 [.mk kp np sp,.mk kb nb sb] _ 2 _ hvb.out Pq12).mono ?_;rintro e q13 ⟨rfl,hbq13⟩)
       have Zq13:=Zq12.keep hbq13;have Pq13:=Pq12.below hbq13;refine bJ bq12 hbq13 ?_;intro bq13 lq13;refine jW [8,9,10] 2 (lT:=[_,_,_]) ?_;refine cL (aD ?_);refine cY [12,13] (lB:=[_,_]) ?_;obtain ⟨d0,d1,d2,e0,e1,e2⟩:=cA Zq13;have szb:wu.heap.size≤q0.heap.size:=by first|exact bq0.size|exact bq0.size
       go_wp2_with fail
       go_meet
       exact ⟨q0.heap.size,some ⟨q10.heap.size,0,none⟩,2,rfl,rfl,((Zq13.set_ 0 _).set_ 1 _).set_ 2 _,bT Zq13 hvb.out Pq13 _ _ _,((bq13.setCell szb _).setCell szb _).setCell szb _,szb⟩
  case rest=>
   obtain ⟨gz,Az,cz,rfl,rfl,hTz,rz,hxy,hgz⟩:=hcut;have gy:=gu.trans (hxy.mono gu.size);have hJy:=hJu.keep hxy;have hZy:=hZu.keep hxy;have hPy:=hPu.keep hxy;have hIy:=hIu.keep hxy;obtain ⟨t0,t1,t2⟩:=hTz.three;have j0:=hJy.at_ (i:=0) rfl;have j1:=hJy.at_ (i:=1) rfl;have j2:=hJy.at_ (i:=2) rfl;have j3:=hJy.at_ (i:=3) rfl;have j4:=hJy.at_ (i:=4) rfl;go_upto_region 12 with (go_at_call 97;refine (lQ C m cc k n _ 3 c fc ev 2 (by omega) 5 0 [.mk kp np sp,.mk kb nb sb] Az cz ty _ h2c.out (hT.below gy) rz).mono ?_;rintro e w5 ⟨rfl,hb5⟩)
   refine aT ?_;intro ws hws;have hZs:=(show Blk ws (w.heap.size+1) _ by rw [hws];exact hZy.keep hb5);have hPs:=(show Blk ws q1.heap.size _ by rw [hws];exact hPy.keep hb5);have hIs:=(show Blk ws w1.heap.size _ by rw [hws];exact hIy.keep hb5);have gs:Bw w ws:=by rw [hws];exact gy.trans (hb5.mono gy.size)
   have kxs:Bw wx ws:=by rw [hws];exact (kxu.trans (hxy.mono kxu.size)).trans (hb5.mono (kxu.trans (hxy.mono kxu.size)).size)
   clear hws;have rps:=rp0.below gs;have rds:=rd0.below kxs;obtain ⟨v0,v1,v2⟩:=kZ hPs;have u2:=aF hIs.three.2.2;have y0:=aF ((bR kxs) _ _ d1);have y1:=aF ((bR kxs) _ _ d2);have y2:=aF ((bR kxs) _ _ d3);refine fE ws [8,9,10,11] [0,1,2,3,4] 12 7 (lT:=[_,_,_,_,_]) ?_;intro q0 bq0;refine cL (aD ?_);refine bG 5 ?_
   ·go_wp2_with fail
    refine eQ ?_;intro q1 hbq1 zq1 seq1;have rq1:Rd q1 (some ⟨q0.heap.size,0,none⟩) 0 [.mk kp np sp,.mk kd nd sd]:=fF (s0:=sp) (s1:=sd) zq1 hlp hld ((rps.below bq0).below hbq1) ((rds.below bq0).below hbq1);refine bJ bq0 hbq1 ?_;intro bq1 lq1;refine bG 6 ?_
    ·go_wp2_with (go_at_call 92;refine (bL 5 _ ⟨_,_,_,rfl⟩ _).mono ?_;rintro e q2 ⟨rfl,hbq2⟩)
     have Pq2:=rq1.below hbq2;refine bJ bq1 hbq2 ?_;intro bq2 lq2;refine bG 7 ?_
     ·go_wp2_with (go_at_call 89;refine (cJ 5 0 [.mk kp np sp,.mk kd nd sd] _ 2 _ hvd.out Pq2).mono ?_;rintro e q3 ⟨rfl,hbq3⟩)
      have Pq3:=Pq2.below hbq3;refine bJ bq2 hbq3 ?_;intro bq3 lq3;refine jW [8,9] 2 (lT:=[_,_]) ?_;refine cL (aD ?_);refine cY [10,11] (lB:=[_,_]) ?_;have hZ2:=hZs.keep bq3;obtain ⟨d0,d1,d2,e0,e1,e2⟩:=cA hZ2;have gf:=gs.trans (bq3.mono gs.size);have rP:=Pq3;go_wp2_with fail
      refine bodyPost_ret (v:=.tuple #[.agg (Ro 5 0 (some ⟨q0.heap.size,0,none⟩) 2 2),.int .i64 0]) (by simp [results,results102,go_sem,d0,d1,d2]) rfl ⟨some ⟨q0.heap.size,0,none⟩,2,rfl,by simp,bT hZ2 hvd.out rP _ _ _,?_⟩;exact ((gf.setCell (by simp) _).setCell (by simp) _).setCell (by simp) _
theorem PartR.ownBY {lo:Nat→Prop}{B:Nat}{w:World}{v:Value}{ts:List Tm}(h:PartR lo B w v ts):∀g,v.ownBlock=some g→B≤g:=fun g hg=>by
 obtain ⟨xs,h1,_⟩:=h;exact (h1.lt g hg).1
def aTf (p:Nat→Prop)(w:World)(ctx:List Tm)(e:Ending)(w':World):Prop:=
 ∃D d,e = .returned (.tuple #[.slice D ctx.length d,.int .i64 0])∧RdP (fun b=>p b∨w.heap.size≤b) w' D 0 ctx∧Bw w w'
theorem aMh (p:Nat→Prop)(ctx:List Tm)(C:Option Addr)(cc:Nat)(k n:Int)(ks:List Tm)(A:Option Addr)(c:Nat)(w:World)(hm:ctx.length<20)(hl:ks.length≤9223372036854775807)(hrc:RdP p w C 0 ctx)(hra:RdP p w A 0 ks)(hp:∀b,p b→b<w.heap.size) :
  Calls prog 88 #[.slice C ctx.length cc,.agg (Ro k n A ks.length c)] w (aTf p w (ctx++[.mk k n ks])):=by
 have hq:decide ((20:Int)≤(ctx.length:Int))=false:=decide_eq_false (by omega);go_enter func88,ntmps88;go_upto_region 3 with fail
 refine aQn (show Blk _ w.heap.size (Ro k n A ks.length c) from (aC _ 25 _ rfl)) bw1 ?_;intro wx hT gx;have rcx:=hrc.below gx;have rax:=hra.below gx;have hpx:∀b,p b→b<wx.heap.size:=fun b hb=>by have:=hp b hb;have:=gx.size;omega
 obtain ⟨v0,v1,v2⟩:=kZ hT;refine fE wx [4,5,6] [0,2] 7 5 (lT:=[_,_]) ?_;intro q0 bq0;refine cL (aD ?_);refine oC 1 3 ?_ ?_
 ·go_wp2_with (go_at_call 115;refine (mX p ctx _ cc _ (by omega) (rcx.below bq0) (fun b hb=>kT (hpx b hb) bq0.size)).mono ?_;rintro e q1 ⟨C2,c2,rfl,hPq1,hbq1⟩)
  refine bJ bq0 hbq1 ?_;intro bq1 lq1;refine bG 3 ?_
  ·go_wp2_with fail
   refine eQ ?_;intro q2 hbq2 zq2 seq2;have Pq2:=hPq1.below hbq2;refine bJ bq1 hbq2 ?_;intro bq2 lq2;refine cY [4,5,6] (lB:=[_,_,_]) ?_;have hB0:wx.heap.size≤q0.heap.size:=bq0.size;have hsz:wx.heap.size≤q2.heap.size:=bq2.size;have hBw:q0.heap.size≤q2.heap.size:=by first|exact iD _|omega
   refine cC (lo:=p) (B:=q0.heap.size) (q:=p) Pq2 hBw (rax.below bq2) (fun b hb=>⟨.inl hb,by have:=hpx b hb;omega,fun e=>by have:=hpx b hb;have:=Pq2.ownBY b e;omega⟩) hl rfl (by omega) q1.heap.size 1 zq2 rfl _ _ rfl rfl rfl ?_;intro A9 c9 w9 hp9 hb9 hg9 hn9;obtain ⟨A8,c8,e8,r8⟩:=hp9.rd;injection e8 with e81 e82 e83;subst e81 e83;have hlen9:(ctx++[Tm.mk k n ks]).length=ctx.length+1:=by simp
   refine gS (aD ?_);go_wp2_with fail
   go_ret2
   exact ⟨A9,c9,by rw [hlen9];rfl,r8.mono (fun b hb=>hb.imp id fun h=>by have:=gx.size;omega),(gx.trans (bq2.mono gx.size)).trans (hb9.mono (by have:=gx.size;omega))⟩
 ·go_wp2_with fail
  refine eQ ?_;intro q3 hbq3 zq3 seq3;refine bJ bq0 hbq3 ?_;intro bq3 lq3;refine bG 1 ?_
  ·go_wp2_with (go_at_call 115;refine (mX p ctx _ cc _ (by omega) (rcx.below bq3) (fun b hb=>kT (hpx b hb) bq3.size)).mono ?_;rintro e q4 ⟨C2,c2,rfl,hPq4,hbq4⟩)
   have Zq4:=zq3.keep hbq4;refine bJ bq3 hbq4 ?_;intro bq4 lq4;refine cY [4,5,6] (lB:=[_,_,_]) ?_;have hB0:wx.heap.size≤q3.heap.size:=bq3.size;have hsz:wx.heap.size≤q4.heap.size:=bq4.size;have hBw:q3.heap.size≤q4.heap.size:=by first|exact iD _|omega
   refine cC (lo:=p) (B:=q3.heap.size) (q:=p) hPq4 hBw (rax.below bq4) (fun b hb=>⟨.inl hb,by have:=hpx b hb;omega,fun e=>by have:=hpx b hb;have:=hPq4.ownBY b e;omega⟩) hl rfl (by omega) q0.heap.size 1 Zq4 rfl _ _ rfl rfl rfl ?_;intro A9 c9 w9 hp9 hb9 hg9 hn9;obtain ⟨A8,c8,e8,r8⟩:=hp9.rd;injection e8 with e81 e82 e83;subst e81 e83;have hlen9:(ctx++[Tm.mk k n ks]).length=ctx.length+1:=by simp
   refine gS (aD ?_);go_wp2_with fail
   go_ret2
   exact ⟨A9,c9,by rw [hlen9];rfl,r8.mono (fun b hb=>hb.imp id fun h=>by have:=gx.size;omega),(gx.trans (bq4.mono gx.size)).trans (hb9.mono (by have:=gx.size;omega))⟩
theorem aEf (C:Option Addr)(m cc:Nat)(k n:Int)(A:Option Addr)(la c:Nat)(i:Nat)(w:World)(hu:aO k i=0) :
  Calls prog 65 #[.slice C m cc,.agg (Ro k n A la c),.int .i64 i] w fun e w'=>e = .returned (.tuple #[.slice C m cc,.int .i64 0])∧Bw w w':=by
 have hu':=aD hu;clear hu;go_enter func65,ntmps65;go_wp2_with (go_at_call 54;refine (fH _ _ _).mono ?_;rw [hu'.out];rintro e w1 ⟨rfl,rfl⟩)
 go_ret2
 exact ⟨rfl,bw1⟩
theorem wZ (p:Nat→Prop)(ctx:List Tm)(C:Option Addr)(cc:Nat)(k n:Int)(ka na:Int)(sa:List Tm)(ts:List Tm)(A:Option Addr)(c:Nat)(i:Nat)(w:World)(hu:aO k i=1)(hm:ctx.length<20)(hlt:ts.length≤1000)(hrc:RdP p w C 0 ctx)(hra:RdP p w A 0 (.mk ka na sa::ts))(hp:∀b,p b→b<w.heap.size) :
  Calls prog 65 #[.slice C ctx.length cc,.agg #[.int .i64 k,.int .i64 n,.slice A (ts.length+1) c],.int .i64 i] w (aTf p w (ctx++[.mk ka na sa])):=by
 have hu':=aD hu;clear hu;obtain ⟨ba,oa,x1,x2,x3,Aa,ca,rfl,hk1,i1,i2,i3,hla,ra⟩:=hra.at_ (j:=0) (by simp);injection hk1 with e1 e2 e3;subst e1 e2 e3;simp only [Nat.zero_mul,Nat.add_zero] at i1 i2 i3
 have lb:=jN _ _ i1;have q2:(0:Int)<((ts.length:Nat):Int)+1:=by omega
 go_enter func65,ntmps65;go_wp2_with (first
  | (go_at_call 88;refine (aMh p ctx C cc ka na sa Aa ca _ hm hla (hrc.alloc _) (ra.alloc _) (fun b hb=>by have:=hp b hb;simp;omega)).mono ?_;rintro e w2 ⟨D,d,rfl,hrD,hb2⟩)
  | (go_at_call 54;refine (fH _ _ _).mono ?_;rw [hu'.out];rintro e w1 ⟨rfl,rfl⟩))
 have hlen9:(ctx++[Tm.mk ka na sa]).length=ctx.length+1:=by simp
 go_ret2
 exact ⟨D,d,by rw [hlen9];rfl,hrD.mono (fun b hb=>hb.imp id fun h=>by simp at h;omega),bw1.trans (hb2.mono (by simp))⟩
def aTv (w:World)(ctx:List Tm)(e:Ending)(w':World):Prop:=
 ∃D d,e = .returned (.tuple #[.slice D ctx.length d,.int .i64 0])∧Rd w' D 0 ctx∧Bw w w'
theorem aJf (ctx:List Tm)(C:Option Addr)(cc:Nat)(k n:Int)(ka na:Int)(sa:List Tm)(ts:List Tm)(A:Option Addr)(c:Nat)(i:Nat)(w:World)(hu:aO k i=1)(hm:ctx.length<20)(hlt:ts.length≤1000)(hrc:Rd w C 0 ctx)(hra:Rd w A 0 (.mk ka na sa::ts)) :
  Calls prog 65 #[.slice C ctx.length cc,.agg (Ro k n A (ts.length+1) c),.int .i64 i] w (aTv w (ctx++[.mk ka na sa])):=
 (wZ (·<w.heap.size) ctx C cc k n ka na sa ts A c i w hu hm hlt hrc.rdp hra.rdp (fun _ h=>h)).mono fun e w' ⟨D,d,he,hr,hb⟩=>⟨D,d,he,hr.rd,hb⟩
theorem gL {x:Int}(h0:0≤x)(h3:x≤3):aE (.mk 2 x [])=true:=by
 rcases (show x=0∨x=1∨x=2∨x=3 by omega) with rfl|rfl|rfl|rfl<;>decide +kernel
theorem xU:aE pZ=true:=by decide +kernel
theorem rF {b c:Int}{t u:Tm}(h:cP b c t=some u):aE u=true:=by
 unfold cP at h
 split at h
 ·split at h
  ·injection h with h;subst h;assumption
  ·cases h
 ·cases h
theorem mB {o:Option Tm}{l:Int}(h:jX o=some l):0≤l∧l≤3:=by
 obtain ⟨s3,h1⟩:=zM h;obtain ⟨n3,s3',he,hv⟩:=gJ h1;injection he with _ e2 _;subst e2;have:=(bC hv).2;have h3:eX 2=3:=rfl;omega
theorem aTq {l:List Tm}(h:l.length=2):∃a b,l=[a,b]:=by
 match l,h with
 | [a,b],_=>exact ⟨a,b,rfl⟩
theorem aSu {l:List Tm}(h:l.length=3):∃a b c,l=[a,b,c]:=by
 match l,h with
 | [a,b,c],_=>exact ⟨a,b,c,rfl⟩
theorem vL {rec_:Tm→Option Tm}{ctx:List Tm}{t s:Tm}{ty:Nat→Option Tm}(h:jH rec_ ctx t ty=some s)(hv:aE t=true):aE s=true:=by
 obtain ⟨k,n,ks⟩:=t;have har:=bC hv;unfold jH at h
 by_cases e1:k=1
 ·rw [if_pos (show (Tm.mk k n ks).k=1 from e1)] at h;split at h
  ·exact rF h
  ·cases h
 rw [if_neg (show ¬(Tm.mk k n ks).k=1 from e1)] at h;by_cases e2:k=2
 ·rw [if_pos (show (Tm.mk k n ks).k=2 from e2)] at h;subst e2;have h3:eX 2=3:=rfl;split at h
  ·cases h
  ·rename_i hn
   have hn3:n≠3:=hn;injection h with h;subst h;exact gL (x:=n+1) (by omega) (by omega)
 rw [if_neg (show ¬(Tm.mk k n ks).k=2 from e2)] at h;by_cases e6:k=6
 ·rw [if_pos (show (Tm.mk k n ks).k=6 from e6)] at h;injection h with h;subst h;exact gL (by omega) (by omega)
 rw [if_neg (show ¬(Tm.mk k n ks).k=6 from e6)] at h;by_cases e7:k=7
 ·rw [if_pos (show (Tm.mk k n ks).k=7 from e7)] at h;injection h with h;subst h;exact xU
 rw [if_neg (show ¬(Tm.mk k n ks).k=7 from e7)] at h;by_cases e8:k=8
 ·rw [if_pos (show (Tm.mk k n ks).k=8 from e8)] at h;split at h
  ·injection h with h;subst h;exact xU
  ·cases h
 rw [if_neg (show ¬(Tm.mk k n ks).k=8 from e8)] at h;by_cases e3:k=3
 ·rw [if_pos (show (Tm.mk k n ks).k=3 from e3)] at h;split at h
  ·cases h
  ·rename_i i hi
   split at h
   ·cases h
   ·rename_i j hj
    have h1:=mB hi;have h2:=mB hj;injection h with h;subst h;split
    ·exact gL h2.1 h2.2
    ·exact gL h1.1 h1.2
 rw [if_neg (show ¬(Tm.mk k n ks).k=3 from e3)] at h;by_cases e4:k=4
 ·rw [if_pos (show (Tm.mk k n ks).k=4 from e4)] at h;split at h
  ·cases h
  ·split at h
   ·cases h
   ·split at h
    ·cases h
    ·rename_i o ho
     split at h
     ·injection h with h;subst h;exact kJ ho
     ·cases h
 rw [if_neg (show ¬(Tm.mk k n ks).k=4 from e4)] at h;by_cases e5:k=5
 ·rw [if_pos (show (Tm.mk k n ks).k=5 from e5)] at h;split at h
  ·cases h
  ·split at h
   ·exact fV h
   ·cases h
 rw [if_neg (show ¬(Tm.mk k n ks).k=5 from e5)] at h;by_cases e9:k=9
 ·rw [if_pos (show (Tm.mk k n ks).k=9 from e9)] at h;split at h
  ·exact kJ h
  ·cases h
 rw [if_neg (show ¬(Tm.mk k n ks).k=9 from e9)] at h;by_cases e10:k=10
 ·rw [if_pos (show (Tm.mk k n ks).k=10 from e10)] at h;split at h
  ·cases h
  ·rename_i i hi
   have h1:=mB hi;split at h
   ·injection h with h;subst h;exact gL h1.1 h1.2
   ·cases h
 rw [if_neg (show ¬(Tm.mk k n ks).k=10 from e10)] at h;by_cases e11:k=11
 ·rw [if_pos (show (Tm.mk k n ks).k=11 from e11)] at h;split at h
  ·cases h
  ·split at h
   ·exact kJ h
   ·cases h
 rw [if_neg (show ¬(Tm.mk k n ks).k=11 from e11)] at h;by_cases e12:k=12
 ·rw [if_pos (show (Tm.mk k n ks).k=12 from e12)] at h;split at h
  ·cases h
  ·split at h
   ·exact kJ h
   ·cases h
 rw [if_neg (show ¬(Tm.mk k n ks).k=12 from e12)] at h;by_cases e13:k=13
 ·rw [if_pos (show (Tm.mk k n ks).k=13 from e13)] at h;split at h
  ·cases h
  ·rename_i i hi
   split at h
   ·cases h
   ·rename_i j hj
    have h1:=mB hi;have h2:=mB hj;injection h with h;subst h;split
    ·exact gL h2.1 h2.2
    ·exact gL h1.1 h1.2
 rw [if_neg (show ¬(Tm.mk k n ks).k=13 from e13)] at h;by_cases e14:k=14
 ·rw [if_pos (show (Tm.mk k n ks).k=14 from e14)] at h;subst e14;obtain ⟨a,b,d,rfl⟩:=aSu (l:=ks) (by have:=har.1;have h3:aW 14=3:=rfl;omega);split at h
  ·cases h
  ·split at h
   ·cases h
   ·split at h
    ·injection h with h;rw [← h];exact aX hv (t:=a) (by simp)
    ·cases h
 rw [if_neg (show ¬(Tm.mk k n ks).k=14 from e14)] at h;by_cases e15:k=15
 ·rw [if_pos (show (Tm.mk k n ks).k=15 from e15)] at h;split at h
  ·cases h
  ·rename_i s hs
   obtain ⟨n3,s3,rfl,hv3⟩:=gJ hs;obtain ⟨a,b,rfl⟩:=aTq (l:=s3) (by have:=(bC hv3).1;have h3:aW 13=2:=rfl;omega);injection h with h;rw [← h];exact aX hv3 (t:=a) (by simp)
 rw [if_neg (show ¬(Tm.mk k n ks).k=15 from e15)] at h;by_cases e16:k=16
 ·rw [if_pos (show (Tm.mk k n ks).k=16 from e16)] at h;split at h
  ·cases h
  ·exact fV h
 rw [if_neg (show ¬(Tm.mk k n ks).k=16 from e16)] at h;cases h
theorem iQ {N:Nat}{ctx:List Tm}{t s:Tm}(h:eG N ctx t=some s)(hv:aE t=true):aE s=true:=by
 cases N with
 | zero=>cases h
 | succ N=>exact vL h hv
theorem yZ (N:Nat)(ctx:List Tm):eG N ctx default=none:=by
 cases N with
 | zero=>rfl
 | succ N=>rfl
theorem zZ {ks:List Tm}{i:Nat}(h:i<ks.length):aL ks i=ks[i]:=by simp [aL,List.getD,iG h]
theorem aDs {N:Nat}{ctx:List Tm}{k n:Int}{ks:List Tm}{i:Nat}{s:Tm}(h:tT (eG N) ctx (.mk k n ks) i=some s):i<ks.length:=by
 by_cases hi:i<ks.length
 ·exact hi
 ·have hk:aL ks i=default:=by simp [aL,List.getD,List.getElem?_eq_none (Nat.le_of_not_lt hi)]
  unfold tT at h
  simp only [Tm.k,Tm.ks,hk,yZ] at h
  split at h
  ·cases h
  ·split at h<;>cases h
def aDx (N:Nat):Prop:=∀(ctx:List Tm) (k n:Int) (ks:List Tm) (kr nr:Int) (sr:List Tm),eG N ctx (.mk k n ks)=some (.mk kr nr sr)→aE (.mk k n ks)=true→(∀u,u∈ctx→aE u=true)→ctx.length≤20→
 ∀(C:Option Addr) (cc:Nat) (A:Option Addr) (c:Nat) (w:World),Rd w C 0 ctx→Rd w A 0 ks→Calls prog 40 #[.slice C ctx.length cc,.agg (Ro k n A ks.length c)] w (eO w kr nr sr)
theorem aBs {N:Nat}(ih:aDx N)(ctx:List Tm)(C:Option Addr)(cc:Nat)(k n:Int)(ks:List Tm)(A:Option Addr)(c b2 b3:Nat)(w:World)(hv:aE (.mk k n ks)=true)(hvc:∀u,u∈ctx→aE u=true)(hm:ctx.length≤20)(hB2:Blk w b2 #[.slice C ctx.length cc])(hB3:Blk w b3 (Ro k n A ks.length c))(hrc:Rd w C 0 ctx)(hra:Rd w A 0 ks) :
  TyOk 70 #[.pointer (some ⟨b2,0,none⟩),.pointer (some ⟨b3,0,none⟩)] w (tT (eG N) ctx (.mk k n ks)):=by
 refine ⟨.inl ⟨b2,b3,rfl,rfl⟩,?_⟩;intro i kr nr sr hi ht w' hw' args ha;subst ha;show Calls prog 70 #[.int .i64 i,.pointer (some ⟨b2,0,none⟩),.pointer (some ⟨b3,0,none⟩)] w' _
 have hi2:=aDs ht;have hrc':=hrc.below hw';have hra':=hra.below hw';have hB2':=hB2.keep hw';have hB3':=hB3.keep hw';have lb2:=hB2'.lt;have lb3:=hB3'.lt;have z0:=hB2'.at_ (i:=0) rfl;obtain ⟨b,off,k1,n1,ks1,A1,c1,rfl,hkj,i1,i2,i3,hl1,hr1⟩:=hra'.at_ hi2;obtain ⟨x0,x1,x2⟩:=hB3'.three;have lb:=jN _ _ i1;have hv1:=aX hv (fG hi2);rw [hkj] at hv1;have hil:(i:Int)<(ks.length:Int):=by omega
 unfold tT at ht
 simp only [Tm.k,Tm.ks,zZ hi2,hkj] at ht
 by_cases hu0:aO k i=0
 ·rw [if_pos hu0] at ht;have hvr:=aD (iQ ht hv1);have hih:=aD (fun (w:World) (h1:Rd w C 0 ctx) (h2:Rd w A1 0 ks1)=>ih ctx k1 n1 ks1 kr nr sr ht hv1 hvc hm C cc A1 c1 w h1 h2);have hu:=aD hu0;clear hu0 ht hkj;go_enter func70,ntmps70;go_wp2_with (first
   | (go_at_call 40;have _t:=tok1;refine (hih.out _ (hrc'.below g1) (hr1.below g1)).mono ?_;rintro e w2 ⟨A9,c9,rfl,hl9,r9,hb2⟩;have hZ2:=hZ1.keep hb2;have g2:=g1.trans (hb2.mono g1.size);obtain ⟨d0,d1,d2,e0,e1,e2⟩:=cA hZ2)
   | (go_at_call 65;refine (aEf C ctx.length cc k n _ ks.length c i _ hu.out).mono ?_;rintro e w1 ⟨rfl,hb1⟩;have hZ1:Blk w1 w'.heap.size Zr:=(aC _ 25 _ rfl).keep hb1;have g1:Below w'.heap.size w' w1:=bw1.trans (hb1.mono (by simp));have y2:=(bR g1) _ _ x2;have y0:=(bR g1) _ _ i1;have y1:=(bR g1) _ _ i2;have y3:=(bR g1) _ _ i3;have tok1:=trivial))
  refine bodyPost_ret (v:=.tuple #[.agg (Ro kr nr A9 sr.length c9),.int .i64 0]) (by simp [results,results70,go_sem,d0,d1,d2]) rfl ⟨A9,c9,rfl,hl9,bT hZ2 hvr.out r9 _ _ _,?_⟩;exact bV g2
 ·rw [if_neg hu0] at ht;have hu1:aO k i=1:=by have:=eA k i;omega
  have hun:(i:Int)=1∧binds k=true:=by unfold aO at hu1;split at hu1<;>simp_all
  obtain rfl:i=1:=by omega
  split at ht
  ·cases ht
  rename_i hm20
  obtain ⟨a0,ts,rfl⟩:∃a0 ts,ks=a0::ts:=by cases ks with|nil=>simp at hi2|cons a ts=>exact ⟨a,ts,rfl⟩
  obtain ⟨ka,na,sa⟩:=a0;have hk0:aL (Tm.mk ka na sa::ts) 0 = .mk ka na sa:=rfl;rw [hk0] at ht;have hvr:=aD (iQ ht hv1);have hv0:=aX hv (t:=.mk ka na sa) (by simp);have hlt:ts.length≤1000:=by have:=aI hv;have:=aJ (Tm.mk ka na sa::ts);simp at this;omega
  have hih:=aD (fun (D:Option Addr) (d:Nat) (w:World) (h1:Rd w D 0 (ctx++[.mk ka na sa])) (h2:Rd w A1 0 ks1)=>by
   have:=ih (ctx++[.mk ka na sa]) k1 n1 ks1 kr nr sr ht hv1 (fun u hu=>by rcases List.mem_append.1 hu with h|h;exact hvc u h;(rw [List.mem_singleton.1 h];exact hv0)) (by simp;omega) D d A1 c1 w h1 h2;rw [show (ctx++[Tm.mk ka na sa]).length=ctx.length+1 from by simp] at this;exact this)
  have hop:=aD (fun (w:World) (h1:Rd w C 0 ctx) (h2:Rd w (some ⟨b,off,none⟩) 0 (.mk ka na sa::ts))=>aJf ctx C cc k n ka na sa ts (some ⟨b,off,none⟩) c 1 w hu1 (by omega) hlt h1 h2);simp only [List.length_cons] at x2
  clear ht hkj hu0 hu1 hun;rw [List.length_cons] at *;go_enter func70,ntmps70;go_wp2_with (first
   | (go_at_call 40;have _t:=tok1;refine (hih.out D d _ hrD (hr1.below g1)).mono ?_;rintro e w2 ⟨A9,c9,rfl,hl9,r9,hb2⟩;have hZ2:=hZ1.keep hb2;have g2:=g1.trans (hb2.mono g1.size);obtain ⟨d0,d1,d2,e0,e1,e2⟩:=cA hZ2)
   | (go_at_call 65;refine (hop.out _ (hrc'.alloc _) (hra'.alloc _)).mono ?_;rintro e w1 ⟨D,d,rfl,hrD,hb1⟩;simp only [List.length_append,List.length_cons,List.length_nil,Nat.zero_add];have hZ1:Blk w1 w'.heap.size Zr:=(aC _ 25 _ rfl).keep hb1;have g1:Below w'.heap.size w' w1:=bw1.trans (hb1.mono (by simp));have y2:=(bR g1) _ _ x2;have y0:=(bR g1) _ _ i1;have y1:=(bR g1) _ _ i2;have y3:=(bR g1) _ _ i3;have tok1:=trivial))
  refine bodyPost_ret (v:=.tuple #[.agg (Ro kr nr A9 sr.length c9),.int .i64 0]) (by simp [results,results70,go_sem,d0,d1,d2]) rfl ⟨A9,c9,rfl,hl9,bT hZ2 hvr.out r9 _ _ _,?_⟩;exact bV g2
theorem aHu (C:Option Addr)(m cc:Nat)(n:Int)(A:Option Addr)(la c fc:Nat)(ev:Array Value)(kr nr:Int)(sr:List Tm)(w:World)(hvr:aE (.mk kr nr sr)=true)(hc:Hid (∀w',Bw w w'→Calls prog 94 #[.agg #[.slice C m cc,.int .i64 3,.int .i64 n,.slice A la c,.func (.func fc) #[] ev]] w' (eO w' kr nr sr))) :
  Calls prog 67 #[.agg #[.slice C m cc,.int .i64 3,.int .i64 n,.slice A la c,.func (.func fc) #[] ev]] w (eO w kr nr sr):=by
 replace hvr:=aD hvr;go_enter func67,ntmps67;go_wp2_with (go_at_call 94;refine (hc.out _ bw3).mono ?_;rintro e w1 ⟨A1,c1,rfl,hl1,r1,hb1⟩;have hZ1:Blk w1 (w.heap.size+1) Zr:=((aC (n:=w.heap.size+1) (w.alloc (.cells #[.slice C m cc,.int .i64 3,.int .i64 n,.slice A la c,.func (.func fc) #[] ev] 90)) 25 Zr (by simp)).alloc (.cells (Ro 3 n A la c) 25)).keep hb1;have g1:Bw w w1:=bW bw3 hb1;obtain ⟨d0,d1,d2,e0,e1,e2⟩:=cA hZ1)
 refine bodyPost_ret (v:=.tuple #[.agg (Ro kr nr A1 sr.length c1),.int .i64 0]) (by simp [results,results67,go_sem,d0,d1,d2]) rfl ⟨A1,c1,rfl,hl1,bT hZ1 hvr.out r1 _ _ _,?_⟩;exact bV g1
theorem aFj (C:Option Addr)(m cc:Nat)(n:Int)(A:Option Addr)(la c fc:Nat)(ev:Array Value)(kr nr:Int)(sr:List Tm)(w:World)(hvr:aE (.mk kr nr sr)=true)(hc:Hid (∀w',Bw w w'→Calls prog 95 #[.agg #[.slice C m cc,.int .i64 4,.int .i64 n,.slice A la c,.func (.func fc) #[] ev]] w' (eO w' kr nr sr))) :
  Calls prog 67 #[.agg #[.slice C m cc,.int .i64 4,.int .i64 n,.slice A la c,.func (.func fc) #[] ev]] w (eO w kr nr sr):=by
 replace hvr:=aD hvr;go_enter func67,ntmps67;go_wp2_with (go_at_call 95;refine (hc.out _ bw3).mono ?_;rintro e w1 ⟨A1,c1,rfl,hl1,r1,hb1⟩;have hZ1:Blk w1 (w.heap.size+1) Zr:=((aC (n:=w.heap.size+1) (w.alloc (.cells #[.slice C m cc,.int .i64 4,.int .i64 n,.slice A la c,.func (.func fc) #[] ev] 90)) 25 Zr (by simp)).alloc (.cells (Ro 4 n A la c) 25)).keep hb1;have g1:Bw w w1:=bW bw3 hb1;obtain ⟨d0,d1,d2,e0,e1,e2⟩:=cA hZ1)
 refine bodyPost_ret (v:=.tuple #[.agg (Ro kr nr A1 sr.length c1),.int .i64 0]) (by simp [results,results67,go_sem,d0,d1,d2]) rfl ⟨A1,c1,rfl,hl1,bT hZ1 hvr.out r1 _ _ _,?_⟩;exact bV g1
theorem aFd (C:Option Addr)(m cc:Nat)(n:Int)(A:Option Addr)(la c fc:Nat)(ev:Array Value)(kr nr:Int)(sr:List Tm)(w:World)(hvr:aE (.mk kr nr sr)=true)(hc:Hid (∀w',Bw w w'→Calls prog 100 #[.agg #[.slice C m cc,.int .i64 9,.int .i64 n,.slice A la c,.func (.func fc) #[] ev]] w' (eO w' kr nr sr))) :
  Calls prog 67 #[.agg #[.slice C m cc,.int .i64 9,.int .i64 n,.slice A la c,.func (.func fc) #[] ev]] w (eO w kr nr sr):=by
 replace hvr:=aD hvr;go_enter func67,ntmps67;go_wp2_with (go_at_call 100;refine (hc.out _ bw3).mono ?_;rintro e w1 ⟨A1,c1,rfl,hl1,r1,hb1⟩;have hZ1:Blk w1 (w.heap.size+1) Zr:=((aC (n:=w.heap.size+1) (w.alloc (.cells #[.slice C m cc,.int .i64 9,.int .i64 n,.slice A la c,.func (.func fc) #[] ev] 90)) 25 Zr (by simp)).alloc (.cells (Ro 9 n A la c) 25)).keep hb1;have g1:Bw w w1:=bW bw3 hb1;obtain ⟨d0,d1,d2,e0,e1,e2⟩:=cA hZ1)
 refine bodyPost_ret (v:=.tuple #[.agg (Ro kr nr A1 sr.length c1),.int .i64 0]) (by simp [results,results67,go_sem,d0,d1,d2]) rfl ⟨A1,c1,rfl,hl1,bT hZ1 hvr.out r1 _ _ _,?_⟩;exact bV g1
theorem aCe (C:Option Addr)(m cc:Nat)(n:Int)(A:Option Addr)(la c fc:Nat)(ev:Array Value)(kr nr:Int)(sr:List Tm)(w:World)(hvr:aE (.mk kr nr sr)=true)(hc:Hid (∀w',Bw w w'→Calls prog 101 #[.agg #[.slice C m cc,.int .i64 10,.int .i64 n,.slice A la c,.func (.func fc) #[] ev]] w' (eO w' kr nr sr))) :
  Calls prog 67 #[.agg #[.slice C m cc,.int .i64 10,.int .i64 n,.slice A la c,.func (.func fc) #[] ev]] w (eO w kr nr sr):=by
 replace hvr:=aD hvr;go_enter func67,ntmps67;go_wp2_with (go_at_call 101;refine (hc.out _ bw3).mono ?_;rintro e w1 ⟨A1,c1,rfl,hl1,r1,hb1⟩;have hZ1:Blk w1 (w.heap.size+1) Zr:=((aC (n:=w.heap.size+1) (w.alloc (.cells #[.slice C m cc,.int .i64 10,.int .i64 n,.slice A la c,.func (.func fc) #[] ev] 90)) 25 Zr (by simp)).alloc (.cells (Ro 10 n A la c) 25)).keep hb1;have g1:Bw w w1:=bW bw3 hb1;obtain ⟨d0,d1,d2,e0,e1,e2⟩:=cA hZ1)
 refine bodyPost_ret (v:=.tuple #[.agg (Ro kr nr A1 sr.length c1),.int .i64 0]) (by simp [results,results67,go_sem,d0,d1,d2]) rfl ⟨A1,c1,rfl,hl1,bT hZ1 hvr.out r1 _ _ _,?_⟩;exact bV g1
theorem aDf (C:Option Addr)(m cc:Nat)(n:Int)(A:Option Addr)(la c fc:Nat)(ev:Array Value)(kr nr:Int)(sr:List Tm)(w:World)(hvr:aE (.mk kr nr sr)=true)(hc:Hid (∀w',Bw w w'→Calls prog 102 #[.agg #[.slice C m cc,.int .i64 12,.int .i64 n,.slice A la c,.func (.func fc) #[] ev]] w' (eO w' kr nr sr))) :
  Calls prog 67 #[.agg #[.slice C m cc,.int .i64 12,.int .i64 n,.slice A la c,.func (.func fc) #[] ev]] w (eO w kr nr sr):=by
 replace hvr:=aD hvr;go_enter func67,ntmps67;go_wp2_with (go_at_call 102;refine (hc.out _ bw3).mono ?_;rintro e w1 ⟨A1,c1,rfl,hl1,r1,hb1⟩;have hZ1:Blk w1 (w.heap.size+1) Zr:=((aC (n:=w.heap.size+1) (w.alloc (.cells #[.slice C m cc,.int .i64 12,.int .i64 n,.slice A la c,.func (.func fc) #[] ev] 90)) 25 Zr (by simp)).alloc (.cells (Ro 12 n A la c) 25)).keep hb1;have g1:Bw w w1:=bW bw3 hb1;obtain ⟨d0,d1,d2,e0,e1,e2⟩:=cA hZ1)
 refine bodyPost_ret (v:=.tuple #[.agg (Ro kr nr A1 sr.length c1),.int .i64 0]) (by simp [results,results67,go_sem,d0,d1,d2]) rfl ⟨A1,c1,rfl,hl1,bT hZ1 hvr.out r1 _ _ _,?_⟩;exact bV g1
theorem aGj (C:Option Addr)(m cc:Nat)(n:Int)(A:Option Addr)(la c fc:Nat)(ev:Array Value)(w:World)(hn:n≠3)(h0:0≤n∧n≤3) :
  Calls prog 67 #[.agg #[.slice C m cc,.int .i64 2,.int .i64 n,.slice A la c,.func (.func fc) #[] ev]] w (eO w 2 (n+1) []):=by
 have hq:(n==3)=false:=by simpa using hn
 clear hn;go_enter func67,ntmps67;go_wp2_with (go_at_call 91;refine (oK _ _).mono ?_;rintro e w1 ⟨rfl,hb1⟩;have hZ1:Blk w1 (w.heap.size+1) Zr:=((aC (n:=w.heap.size+1) (w.alloc (.cells #[.slice C m cc,.int .i64 2,.int .i64 n,.slice A la c,.func (.func fc) #[] ev] 90)) 25 Zr (by simp)).alloc (.cells (Ro 2 n A la c) 25)).keep hb1;have g1:Bw w w1:=bW bw3 hb1;obtain ⟨d0,d1,d2,e0,e1,e2⟩:=cA hZ1)
 refine bodyPost_ret (v:=.tuple #[.agg (Ro 2 ((n+1)) none 0 0),.int .i64 0]) (by simp [results,results67,go_sem,d0,d1,d2]) rfl ⟨none,0,rfl,by simp,Rd.nil,?_⟩;exact bV g1
theorem aGi (C:Option Addr)(m cc:Nat)(n:Int)(A:Option Addr)(la c fc:Nat)(ev:Array Value)(w:World) :
  Calls prog 67 #[.agg #[.slice C m cc,.int .i64 6,.int .i64 n,.slice A la c,.func (.func fc) #[] ev]] w (eO w 2 0 []):=by
 go_enter func67,ntmps67;go_wp2_with (go_at_call 91;refine (oK _ _).mono ?_;rintro e w1 ⟨rfl,hb1⟩;have hZ1:Blk w1 (w.heap.size+1) Zr:=((aC (n:=w.heap.size+1) (w.alloc (.cells #[.slice C m cc,.int .i64 6,.int .i64 n,.slice A la c,.func (.func fc) #[] ev] 90)) 25 Zr (by simp)).alloc (.cells (Ro 6 n A la c) 25)).keep hb1;have g1:Bw w w1:=bW bw3 hb1;obtain ⟨d0,d1,d2,e0,e1,e2⟩:=cA hZ1)
 refine bodyPost_ret (v:=.tuple #[.agg (Ro 2 (0) none 0 0),.int .i64 0]) (by simp [results,results67,go_sem,d0,d1,d2]) rfl ⟨none,0,rfl,by simp,Rd.nil,?_⟩;exact bV g1
theorem aHj (C:Option Addr)(m cc:Nat)(n:Int)(A:Option Addr)(la c fc:Nat)(ev:Array Value)(w:World) :
  Calls prog 67 #[.agg #[.slice C m cc,.int .i64 7,.int .i64 n,.slice A la c,.func (.func fc) #[] ev]] w (eO w 6 0 []):=by
 go_enter func67,ntmps67;go_wp2_with (go_at_call 92;refine (bL 6 _ ⟨_,_,_,rfl⟩ _).mono ?_;rintro e w1 ⟨rfl,hb1⟩;have hZ1:Blk w1 (w.heap.size+1) Zr:=((aC (n:=w.heap.size+1) (w.alloc (.cells #[.slice C m cc,.int .i64 7,.int .i64 n,.slice A la c,.func (.func fc) #[] ev] 90)) 25 Zr (by simp)).alloc (.cells (Ro 7 n A la c) 25)).keep hb1;have g1:Bw w w1:=bW bw3 hb1;obtain ⟨d0,d1,d2,e0,e1,e2⟩:=cA hZ1)
 refine bodyPost_ret (v:=.tuple #[.agg (Ro 6 (0) none 0 0),.int .i64 0]) (by simp [results,results67,go_sem,d0,d1,d2]) rfl ⟨none,0,rfl,by simp,Rd.nil,?_⟩;exact bV g1
theorem aHn (C:Option Addr)(m cc:Nat)(n:Int)(A:Option Addr)(la c fc:Nat)(ev:Array Value)(ty:Nat→Option Tm)(w:World)(hs:fW (ty 0) pZ=true)(hT:TyOk fc ev w ty) :
  Calls prog 67 #[.agg #[.slice C m cc,.int .i64 8,.int .i64 n,.slice A la c,.func (.func fc) #[] ev]] w (eO w 6 0 []):=by
 have hs':=aD (show fW (ty 0) (.mk 6 0 [])=true from hs);clear hs;go_enter func67,ntmps67;go_upto_region 16 with fail
 refine tO (show Blk _ w.heap.size #[.slice C m cc,.int .i64 8,.int .i64 n,.slice A la c,.func (.func fc) #[] ev] from (((aC _ 90 _ rfl).alloc _).alloc _)) (show Blk _ (w.heap.size+1) Zr from ((aC _ 25 _ (by simp)).alloc _)) bw3 ?_;intro wx hJx hZx gx;have u0:=aF (hJx.at_ (i:=0) rfl);have u1:=aF (hJx.at_ (i:=1) rfl);have u2:=aF (hJx.at_ (i:=2) rfl);have u3:=aF (hJx.at_ (i:=3) rfl);have u4:=aF (hJx.at_ (i:=4) rfl);refine fE wx [3] [0] 4 3 (lT:=[_]) ?_;intro q0 bq0;refine cL (aD ?_);refine bG 1 ?_
 ·go_wp2_with (go_at_call 92;refine (bL 6 _ ⟨_,_,_,rfl⟩ _).mono ?_;rintro e q1 ⟨rfl,hbq1⟩)
  refine bJ bq0 hbq1 ?_;intro bq1 lq1;refine bG 2 ?_
  ·go_wp2_with (go_at_call 93;refine (kQ C m cc 8 n A la c fc ev 0 (by omega) 6 0 [] none 0 ty _ hs'.out ((hT.below gx).below bq1) Rd.nil).mono ?_;rintro e q2 ⟨rfl,hbq2⟩)
   refine bJ bq1 hbq2 ?_;intro bq2 lq2;refine cY [3] (lB:=[_]) ?_;have hZ3:=hZx.keep bq2;have g3:=gx.trans (bq2.mono gx.size);go_wp2_with (go_at_call 92;refine (bL 6 _ ⟨_,_,_,rfl⟩ _).mono ?_;rintro e w4 ⟨rfl,hb4⟩;have hZ4:=hZ3.keep hb4;have g4:=g3.trans (hb4.mono g3.size);obtain ⟨d0,d1,d2,e0,e1,e2⟩:=cA hZ4)
   refine bodyPost_ret (v:=.tuple #[.agg (Ro 6 0 none 0 0),.int .i64 0]) (by simp [results,results67,go_sem,d0,d1,d2]) rfl ⟨none,0,rfl,by simp,Rd.nil,?_⟩;exact bV g4
theorem aGu (C:Option Addr)(m cc:Nat)(n:Int)(A:Option Addr)(c fc:Nat)(ev:Array Value)(t0:Tm)(kx nx:Int)(sx:List Tm)(n3 ka na:Int)(sa:List Tm)(kb nb:Int)(sb:List Tm)(kr nr:Int)(sr:List Tm)(ty:Nat→Option Tm)(w:World)(h1:qD (ty 0) 3=some (.mk 3 n3 [.mk ka na sa,.mk kb nb sb]))(h2:fW (ty 1) (.mk ka na sa)=true)(hvx:aE (.mk kx nx sx)=true)(hsu0:eC 0 (.mk kx nx sx) (.mk kb nb sb)=some (.mk kr nr sr))(hT:TyOk fc ev w ty)(hr:Rd w A 0 [t0,.mk kx nx sx]) :
  Calls prog 67 #[.agg #[.slice C m cc,.int .i64 5,.int .i64 n,.slice A 2 c,.func (.func fc) #[] ev]] w (eO w kr nr sr):=by
 obtain ⟨_,_,he,hv3⟩:=gJ h1;injection he with e1 e2 e3;subst e2 e3;have hvb:=aX hv3 (t:=.mk kb nb sb) (by simp);have hzx:=aI hvx;have hzb:=aI hvb;have hshx:=aD (bO hvx);have hshb:=aD (bO hvb);have hvr:=aD (fV hsu0);have hsu:=aD hsu0;have h1':=aD h1;have h2c:=aD h2;clear h1 h2 hsu0 hv3 hvb hvx;obtain ⟨bf,of_,x1,x2,x3,Ax,cx,rfl,hk1,i1,i2,i3,hlx,rx0⟩:=hr.at_ (j:=1) (by simp);injection hk1 with e1 e2 e3;subst e1 e2 e3;simp only [Nat.one_mul] at i1 i2 i3
 go_enter func67,ntmps67;go_upto_region 27 with (go_at_call 96;refine (kA C m cc 5 n _ 2 c fc ev 0 (by omega) 3 n3 [.mk ka na sa,.mk kb nb sb] ty _ h1'.out (hT.below bw3)).mono ?_;rintro e w1 ⟨A3,c3,rfl,hl3,r3,hb1⟩;have hJ1:=(((aC w 90 #[.slice C m cc,.int .i64 5,.int .i64 n,.slice (some ⟨bf,of_,none⟩) 2 c,.func (.func fc) #[] ev] rfl).alloc (.cells Zr 25)).alloc (.cells (Ro 5 n (some ⟨bf,of_,none⟩) 2 c) 25)).keep hb1;have hZ1:Blk w1 (w.heap.size+1) Zr:=((aC (n:=w.heap.size+1) (w.alloc (.cells #[.slice C m cc,.int .i64 5,.int .i64 n,.slice (some ⟨bf,of_,none⟩) 2 c,.func (.func fc) #[] ev] 90)) 25 Zr (by simp)).alloc (.cells (Ro 5 n (some ⟨bf,of_,none⟩) 2 c) 25)).keep hb1;have hT1:=pM hb1;have g1:Bw w w1:=bW bw3 hb1)
 refine aT ?_;intro wx hwx;have hJx:=(show Blk wx w.heap.size _ by rw [hwx];exact hJ1.alloc _);have hZx:=(show Blk wx (w.heap.size+1) _ by rw [hwx];exact hZ1.alloc _);have hTx:=(show Blk wx (w.heap.size+1+1) _ by rw [hwx];exact hT1.alloc _);have h6x0:Blk wx w1.heap.size (Ro 3 n3 A3 2 c3):=by rw [hwx];exact aC _ 25 _ rfl
 have gx:Bw w wx:=by rw [hwx];exact g1.alloc g1.size _
 have r3x:Rd wx A3 0 [.mk ka na sa,.mk kb nb sb]:=by rw [hwx];exact r3.alloc _
 clear hwx;obtain ⟨bb,ob,x1,x2,x3,Ab,cb,rfl,hk2,p1,p2,p3,hlb,rb⟩:=r3x.at_ (j:=1) (by simp);injection hk2 with e1 e2 e3;subst e1 e2 e3;simp only [Nat.one_mul] at p1 p2 p3
 have h6x:=h6x0;have u0:=aF (hJx.at_ (i:=0) rfl);have u1:=aF (hJx.at_ (i:=1) rfl);have u2:=aF (hJx.at_ (i:=2) rfl);have u3:=aF (hJx.at_ (i:=3) rfl);have u4:=aF (hJx.at_ (i:=4) rfl);obtain ⟨v0,v1,v2⟩:=kZ h6x;refine fE wx [5] [0,1,3] 6 3 (lT:=[_,_,_]) ?_;intro q0 bq0;refine cL (aD ?_);refine bG 2 ?_
 ·go_wp2_with (go_at_call 98;refine (tD 3 n3 ka na sa [.mk kb nb sb] _ c3 _ (r3x.below bq0) (by simp)).mono ?_;rintro e q1 ⟨Ak,ck,rfl,hlk,rkq1,hbq1⟩)
  refine bJ bq0 hbq1 ?_;intro bq1 lq1;refine bG 4 ?_
  ·go_wp2_with (go_at_call 97;refine (lQ C m cc 5 n _ 2 c fc ev 1 (by omega) ka na sa Ak ck ty _ h2c.out ((hT.below gx).below bq1) rkq1).mono ?_;rintro e q2 ⟨rfl,hbq2⟩)
   have Kq2:=rkq1.below hbq2;refine bJ bq1 hbq2 ?_;intro bq2 lq2;refine cY [5] (lB:=[_]) ?_;go_upto_region 30 with fail
   refine aT ?_;intro ws hws;have hZs:=(show Blk ws (w.heap.size+1) _ by rw [hws];exact hZx.keep bq2);have hTs:=(show Blk ws (w.heap.size+1+1) _ by rw [hws];exact hTx.keep bq2);have h6s:=(show Blk ws w1.heap.size _ by rw [hws];exact h6x.keep bq2);have gs:Bw w ws:=by rw [hws];exact gx.trans (bq2.mono gx.size)
   have kxs:Bw wx ws:=by rw [hws];exact bq2
   clear hws u0 u1 u2 u3 u4 v0 v1 v2;have rbs:=rb.below kxs;have rxs:=rx0.below gs;have t2':=aF hTs.three.2.2;have s2':=aF h6s.three.2.2;have y0:=aF ((bR kxs) _ _ p1);have y1:=aF ((bR kxs) _ _ p2);have y2:=aF ((bR kxs) _ _ p3);have z0:=aF ((bR gs) _ _ i1);have z1:=aF ((bR gs) _ _ i2);have z2:=aF ((bR gs) _ _ i3);refine fE ws [9,10,12,13,14,15] [0,1,2,3,4,5,6,7] 16 8 (lT:=[_,_,_,_,_,_,_,_]) ?_;intro q0 bq0;refine cL (aD ?_);refine bG 8 ?_
   ·go_wp2_with (go_at_call 99;refine (kF kb nb sb Ab cb 0 kx nx sx Ax cx _ (by omega) hshx.out (by omega) (rxs.below bq0) (by omega) hshb.out (rbs.below bq0)).mono ?_;rw [hsu.out];intro e q1 hgo;obtain ⟨A7,c7,rfl,hl7,hfq1,hbq1⟩:=dE hgo;clear hgo)
    have rdq1:=hfq1.rd;refine bJ bq0 hbq1 ?_;intro bq1 lq1;refine jW [9,10] 5 (lT:=[_,_]) ?_;refine cL (aD ?_);refine bG 11 ?_
    ·go_wp2_with (go_at_call 89;refine (cJ kr nr sr A7 c7 _ hvr.out rdq1).mono ?_;rintro e q2 ⟨rfl,hbq2⟩)
     have Oq2:=rdq1.below hbq2;refine bJ bq1 hbq2 ?_;intro bq2 lq2;refine jW [12,13] 2 (lT:=[_,_]) ?_;refine cL (aD ?_);refine cY [14,15] (lB:=[_,_]) ?_;have hZ2:=hZs.keep bq2;obtain ⟨d0,d1,d2,e0,e1,e2⟩:=cA hZ2;have gf:=gs.trans (bq2.mono gs.size);have rP:=Oq2;go_wp2_with fail
     refine bodyPost_ret (v:=.tuple #[.agg (Ro kr nr A7 sr.length c7),.int .i64 0]) (by simp [results,results67,go_sem,d0,d1,d2]) rfl ⟨A7,c7,rfl,hl7,bT hZ2 hvr.out rP _ _ _,?_⟩;exact ((gf.setCell (by simp) _).setCell (by simp) _).setCell (by simp) _
theorem uL {N:Nat}(ih:aDx N)(ctx:List Tm)(C:Option Addr)(cc:Nat)(k n:Int)(ks:List Tm)(A:Option Addr)(c:Nat)(kind n3:Int)(s3:List Tm)(w:World)(hs:qD (eG N ctx (.mk k n ks)) kind=some (.mk kind n3 s3))(hv:aE (.mk k n ks)=true)(hvc:∀u,u∈ctx→aE u=true)(hm:ctx.length≤20)(hrc:Rd w C 0 ctx)(hra:Rd w A 0 ks) :
  Calls prog 87 #[.slice C ctx.length cc,.agg (Ro k n A ks.length c),.int .i64 kind] w (eO w kind n3 s3):=by
 obtain ⟨k1,n1,s1,h1,h2⟩:∃k1 n1 s1,eG N ctx (.mk k n ks)=some (.mk k1 n1 s1)∧oU (.mk k1 n1 s1) kind=some (.mk kind n3 s3):=by
  cases h:eG N ctx (.mk k n ks) with
  | none=>rw [h] at hs;cases hs
  | some s=>rw [h] at hs;obtain ⟨a,b,l⟩:=s;exact ⟨a,b,l,rfl,hs⟩
 have hv3:=aD (lN h2).2.2.2.2;have h2':=aD h2;have hI:=aD (fun (w:World) (hrc:Rd w C 0 ctx) (hra:Rd w A 0 ks)=>ih ctx k n ks k1 n1 s1 h1 hv hvc hm C cc A c w hrc hra);clear hs h1 h2 hv hvc ih;go_enter func87,ntmps87;go_wp2_with (first
  | (go_at_call 114;have _t:=tok1;refine (kU k1 n1 s1 A1 c1 kind n3 s3 _ h2'.out (r1.alloc _)).mono ?_;rintro e w2 ⟨A3,c3,rfl,hl3,r3,hb2⟩;have hZ2:=(hZ.alloc (.cells (Ro k1 n1 A1 s1.length c1) 25)).keep hb2;have g2:=(g1.alloc g1.size (.cells (Ro k1 n1 A1 s1.length c1) 25)).trans (hb2.mono (by have:=g1.size;simp;omega));obtain ⟨d0,d1,d2,e0,e1,e2⟩:=cA hZ2)
  | (go_at_call 40;refine (hI.out _ ((hrc.alloc _).alloc _) ((hra.alloc _).alloc _)).mono ?_;rintro e w1 ⟨A1,c1,rfl,hl1,r1,hb1⟩;have hZ:=bA hb1;have g1:Bw w w1:=bW bw2 hb1;have lz:=hZ.lt;have tok1:=trivial))
 refine bodyPost_ret (v:=.tuple #[.agg (Ro kind n3 A3 s3.length c3),.int .i64 0]) (by simp [results,results87,go_sem,d0,d1,d2]) rfl ⟨A3,c3,rfl,hl3,?_,?_⟩
 ·exact bT hZ2 hv3.out r3 _ _ _
 ·exact bV g2
theorem sY {N:Nat}(ih:aDx N)(ctx:List Tm)(C:Option Addr)(cc:Nat)(k n:Int)(ks:List Tm)(A:Option Addr)(c:Nat)(l:Int)(w:World)(hs:jX (eG N ctx (.mk k n ks))=some l)(hv:aE (.mk k n ks)=true)(hvc:∀u,u∈ctx→aE u=true)(hm:ctx.length≤20)(hrc:Rd w C 0 ctx)(hra:Rd w A 0 ks) :
  Calls prog 64 #[.slice C ctx.length cc,.agg (Ro k n A ks.length c)] w fun e w'=>e = .returned (.tuple #[.int .i64 l,.int .i64 0])∧Bw w w':=by
 obtain ⟨s3,h1⟩:=zM hs;have hI:=aD (fun (w:World) (hrc:Rd w C 0 ctx) (hra:Rd w A 0 ks)=>uL ih ctx C cc k n ks A c 2 l s3 w h1 hv hvc hm hrc hra);clear hs h1 hv hvc ih;go_enter func64,ntmps64;go_wp2_with (go_at_call 87;refine (hI.out _ (hrc.alloc _) (hra.alloc _)).mono ?_;rintro e w1 ⟨A3,c3,rfl,hl3,r3,hb1⟩;have g1:Bw w w1:=bW bw1 hb1)
 go_ret2
 exact ⟨rfl,g1.alloc g1.size _⟩
theorem aCd (C:Option Addr)(m cc:Nat)(n:Int)(A:Option Addr)(c fc:Nat)(ev:Array Value)(ka na:Int)(sa:List Tm)(kt nt:Int)(st:List Tm)(l:Int)(ty:Nat→Option Tm)(w:World)(h1:ty 0=some (.mk kt nt st))(hv:aE (.mk 10 0 [.mk kt nt st,.mk ka na sa,.mk ka na sa])=true)(hT:TyOk fc ev w ty)(hr:Rd w A 0 [.mk ka na sa])
  (hL : Hid (∀ (Ao : Option Addr) (co : Nat) (w' : World), Bw w w' → Rd w' Ao 0 st → Calls prog 64 #[.slice C m cc, .agg (Ro kt nt Ao st.length co)] w' fun e w'' => e = .returned (.tuple #[.int .i64 l, .int .i64 0]) ∧ Below w'.heap.size w' w'')) :
  Calls prog 67 #[.agg #[.slice C m cc,.int .i64 11,.int .i64 n,.slice A 1 c,.func (.func fc) #[] ev]] w (eO w 10 0 [.mk kt nt st,.mk ka na sa,.mk ka na sa]):=by
 rcases hT.1 with ⟨b2,b3,rfl,rfl⟩|⟨b2,rfl,rfl⟩
 all_goals
  have hv':=aD hv;have h1':=aD h1;clear hv h1;obtain ⟨ba,oa,Aa,ca,rfl,i1,i2,i3,hla,ra0⟩:=oF hr;simp only [Nat.zero_mul,Nat.add_zero,Nat.one_mul,Nat.reduceMul] at i1 i2 i3
  go_enter func67,ntmps67;go_upto_region 42 with (first
   | (go_at_call 64;have _t:=tok1;refine (hL.out A1 c1 _ (g1.alloc g1.size _) (r1.alloc _)).mono ?_;rintro e w2 ⟨rfl,hb2⟩;have hJ2:=(hJ1.alloc (.cells (Ro kt nt A1 st.length c1) 25)).keep hb2;have hZ2:=(hZ1.alloc (.cells (Ro kt nt A1 st.length c1) 25)).keep hb2;have hT2:=(hT1.alloc (.cells (Ro kt nt A1 st.length c1) 25)).keep hb2;have h92:=nJ hb2;have r12:=(r1.alloc (.cells (Ro kt nt A1 st.length c1) 25)).below hb2;have g2:=(g1.alloc g1.size (.cells (Ro kt nt A1 st.length c1) 25)).trans (hb2.mono (by have:=g1.size;simp;omega)))
   | (go_at_call 70;refine (hT.2 0 kt nt st (by omega) h1'.out _ bw3 _ (by rfl)).mono ?_;rintro e w1 ⟨A1,c1,rfl,hl1,r1,hb1⟩;have hJ1:=(((aC w 90 #[.slice C m cc,.int .i64 11,.int .i64 n,.slice (some ⟨ba,oa,none⟩) 1 c,.func (.func 70) #[] #[.pointer (some ⟨b2,0,none⟩),.pointer (some ⟨b3,0,none⟩)]] rfl).alloc (.cells Zr 25)).alloc (.cells (Ro 11 n (some ⟨ba,oa,none⟩) 1 c) 25)).keep hb1;have hZ1:Blk w1 (w.heap.size+1) Zr:=((aC (n:=w.heap.size+1) (w.alloc (.cells #[.slice C m cc,.int .i64 11,.int .i64 n,.slice (some ⟨ba,oa,none⟩) 1 c,.func (.func 70) #[] #[.pointer (some ⟨b2,0,none⟩),.pointer (some ⟨b3,0,none⟩)]] 90)) 25 Zr (by simp)).alloc (.cells (Ro 11 n (some ⟨ba,oa,none⟩) 1 c) 25)).keep hb1;have hT1:=pM hb1;have g1:Bw w w1:=bW bw3 hb1;have lJ:=hJ1.lt;have lZ:=hZ1.lt;have lT:=hT1.lt;have j0:=hJ1.at_ (i:=0) rfl;have j1:=hJ1.at_ (i:=1) rfl;have j2:=hJ1.at_ (i:=2) rfl;have j3:=hJ1.at_ (i:=3) rfl;have j4:=hJ1.at_ (i:=4) rfl;have tok1:=trivial)
   | (go_at_call 66;refine (hT.2 0 kt nt st (by omega) h1'.out _ bw3 _ (by rfl)).mono ?_;rintro e w1 ⟨A1,c1,rfl,hl1,r1,hb1⟩;have hJ1:=(((aC w 90 #[.slice C m cc,.int .i64 11,.int .i64 n,.slice (some ⟨ba,oa,none⟩) 1 c,.func (.func 66) #[] #[.pointer (some ⟨b2,0,none⟩)]] rfl).alloc (.cells Zr 25)).alloc (.cells (Ro 11 n (some ⟨ba,oa,none⟩) 1 c) 25)).keep hb1;have hZ1:Blk w1 (w.heap.size+1) Zr:=((aC (n:=w.heap.size+1) (w.alloc (.cells #[.slice C m cc,.int .i64 11,.int .i64 n,.slice (some ⟨ba,oa,none⟩) 1 c,.func (.func 66) #[] #[.pointer (some ⟨b2,0,none⟩)]] 90)) 25 Zr (by simp)).alloc (.cells (Ro 11 n (some ⟨ba,oa,none⟩) 1 c) 25)).keep hb1;have hT1:=pM hb1;have g1:Bw w w1:=bW bw3 hb1;have lJ:=hJ1.lt;have lZ:=hZ1.lt;have lT:=hT1.lt;have j0:=hJ1.at_ (i:=0) rfl;have j1:=hJ1.at_ (i:=1) rfl;have j2:=hJ1.at_ (i:=2) rfl;have j3:=hJ1.at_ (i:=3) rfl;have j4:=hJ1.at_ (i:=4) rfl;have tok1:=trivial))
  refine aT ?_;intro ws hws;have hZs:=(show Blk ws (w.heap.size+1) _ by rw [hws];exact hZ2);have hTs:=(show Blk ws (w.heap.size+1+1) _ by rw [hws];exact hT2);have h9s:=(show Blk ws w1.heap.size _ by rw [hws];exact h92);have r1s:=(show Rd ws A1 0 st by rw [hws];exact r12);have gs:Bw w ws:=by rw [hws];exact g2
  clear hws j0 j1 j2 j3 j4;have ras:=ra0.below gs;have t2':=aF hTs.three.2.2;obtain ⟨v0,v1,v2⟩:=kZ h9s;have z0:=aF ((bR gs) _ _ i1);have z1:=aF ((bR gs) _ _ i2);have z2:=aF ((bR gs) _ _ i3);refine fE ws [12,13,14,15] [0,1,2,3,4,5,6,7,8] 16 7 (lT:=[_,_,_,_,_,_,_,_,_]) ?_;intro q0 bq0;refine cL (aD ?_);refine bG 9 ?_
  ·go_wp2_with fail
   refine eQ ?_;intro q1 hbq1 zq1 seq1;have rq1:Rd q1 (some ⟨q0.heap.size,0,none⟩) 0 [.mk kt nt st,.mk ka na sa,.mk ka na sa]:=aOm (s0:=st) (s1:=sa) (s2:=sa) zq1 hl1 hla hla ((r1s.below bq0).below hbq1) ((ras.below bq0).below hbq1) ((ras.below bq0).below hbq1);refine bJ bq0 hbq1 ?_;intro bq1 lq1;refine bG 10 ?_
   ·go_wp2_with (go_at_call 92;refine (bL 10 _ ⟨_,_,_,rfl⟩ _).mono ?_;rintro e q2 ⟨rfl,hbq2⟩)
    have Pq2:=rq1.below hbq2;refine bJ bq1 hbq2 ?_;intro bq2 lq2;refine bG 11 ?_
    ·go_wp2_with (go_at_call 89;refine (cJ 10 0 [.mk kt nt st,.mk ka na sa,.mk ka na sa] _ 3 _ hv'.out Pq2).mono ?_;rintro e q3 ⟨rfl,hbq3⟩)
     have Pq3:=Pq2.below hbq3;refine bJ bq2 hbq3 ?_;intro bq3 lq3;refine jW [12,13] 2 (lT:=[_,_]) ?_;refine cL (aD ?_);refine cY [14,15] (lB:=[_,_]) ?_;have hZ2:=hZs.keep bq3;obtain ⟨d0,d1,d2,e0,e1,e2⟩:=cA hZ2;have gf:=gs.trans (bq3.mono gs.size);have rP:=Pq3;go_wp2_with fail
     refine bodyPost_ret (v:=.tuple #[.agg (Ro 10 0 (some ⟨q0.heap.size,0,none⟩) 3 3),.int .i64 0]) (by simp [results,results67,go_sem,d0,d1,d2]) rfl ⟨some ⟨q0.heap.size,0,none⟩,3,rfl,by simp,bT hZ2 hv'.out rP _ _ _,?_⟩;exact ((gf.setCell (by simp) _).setCell (by simp) _).setCell (by simp) _
theorem aFq (ctx:List Tm)(C:Option Addr)(cc nn p:Nat)(A:Option Addr)(la c fc:Nat)(ev:Array Value)(ku nu:Int)(su:List Tm)(kr nr:Int)(sr:List Tm)(w:World)(hm:ctx.length≤20)(hp:p+1+nn=ctx.length)(hpl:p<ctx.length)(hg:ctx[p] = .mk ku nu su)(hvu:aE (.mk ku nu su)=true)(hs:cP ((nn:Int)+1) 0 (.mk ku nu su)=some (.mk kr nr sr))(hr:Rd w C 0 ctx) :
  Calls prog 67 #[.agg #[.slice C ctx.length cc,.int .i64 1,.int .i64 nn,.slice A la c,.func (.func fc) #[] ev]] w (eO w kr nr sr):=by
 have hz:=aI hvu;have hsh:=bO hvu;have hvr':=aD (rF hs);obtain ⟨bc,oc,x1,x2,x3,Au,cu,rfl,hk1,i1,i2,i3,hlu,ru⟩:=hr.at_ hpl;rw [hg] at hk1;injection hk1 with e1 e2 e3;subst e1 e2 e3;have hS:=aD (fun (w:World) (hr:Rd w Au 0 su)=>by have:=kG ku nu su Au cu ((nn:Int)+1) 0 w (by omega) (by omega) (by omega) hsh hr;rw [hs] at this;exact this);clear hs hvu hsh hg;go_enter func67,ntmps67;go_upto_region 6 with fail
 refine aQm (show Blk _ w.heap.size #[.slice (some ⟨bc,oc,none⟩) ctx.length cc,.int .i64 1,.int .i64 nn,.slice A la c,.func (.func fc) #[] ev] from (((aC _ 90 _ rfl).alloc _).alloc _)) (show Blk _ (w.heap.size+1) Zr from ((aC _ 25 _ (by simp)).alloc _)) (show Blk _ (w.heap.size+1+1) (Ro 1 nn A la c) from (aC _ 25 _ (by simp))) bw3 ?_;intro ws hJs hZs hTs gs;have rus:=ru.below gs;have wq1:IntKind.i64.wrap ((ctx.length:Int) - 1)=(ctx.length:Int) - 1:=IntWalk.i64_in _ (by omega);have wq2:IntKind.i64.wrap ((ctx.length:Int) - 1 - (nn:Int))=(p:Int):=by rw [show (ctx.length:Int) - 1 - (nn:Int)=(p:Int) from by omega];exact IntWalk.i64_in _ (by omega)
 have wq3:IntKind.i64.wrap ((nn:Int)+1)=(nn:Int)+1:=IntWalk.i64_in _ (by omega);have wq4:(0:Int)≤(p:Int):=by omega
 have wq5:(p:Int)<(ctx.length:Int):=by omega
 have u0:=aF (hJs.at_ (i:=0) rfl);have t1':=aF hTs.three.2.1;have z0:=aF ((bR gs) _ _ i1);have z1:=aF ((bR gs) _ _ i2);have z2:=aF ((bR gs) _ _ i3);refine fE ws [15,16,18,19,20,21] [0,1,2,3,4,5,6,7,8,9,10,11,12,13] 22 8 (lT:=[_,_,_,_,_,_,_,_,_,_,_,_,_,_]) ?_;intro q0 bq0;refine cL (aD ?_);refine bG 14 ?_
 ·go_wp2_with (go_at_call 90;refine (hS.out _ (rus.below bq0)).mono ?_;intro e q1 hgo;obtain ⟨A7,c7,rfl,hl7,hfq1,hbq1⟩:=dE hgo;clear hgo)
  have rdq1:=hfq1.rd;refine bJ bq0 hbq1 ?_;intro bq1 lq1;refine jW [15,16] 5 (lT:=[_,_]) ?_;refine cL (aD ?_);refine bG 17 ?_
  ·go_wp2_with (go_at_call 89;refine (cJ kr nr sr A7 c7 _ hvr'.out rdq1).mono ?_;rintro e q2 ⟨rfl,hbq2⟩)
   have Oq2:=rdq1.below hbq2;refine bJ bq1 hbq2 ?_;intro bq2 lq2;refine jW [18,19] 2 (lT:=[_,_]) ?_;refine cL (aD ?_);refine cY [20,21] (lB:=[_,_]) ?_;have hZ2:=hZs.keep bq2;obtain ⟨d0,d1,d2,e0,e1,e2⟩:=cA hZ2;have gf:=gs.trans (bq2.mono gs.size);have rP:=Oq2;go_wp2_with fail
   refine bodyPost_ret (v:=.tuple #[.agg (Ro kr nr A7 sr.length c7),.int .i64 0]) (by simp [results,results67,go_sem,d0,d1,d2]) rfl ⟨A7,c7,rfl,hl7,bT hZ2 hvr'.out rP _ _ _,?_⟩;exact ((gf.setCell (by simp) _).setCell (by simp) _).setCell (by simp) _
theorem aAq (C:Option Addr)(m cc:Nat)(k n:Int)(A:Option Addr)(c fc:Nat)(ev:Array Value)(kp np:Int)(sp:List Tm)(ka na:Int)(sa:List Tm)(t2':Tm)(n3 kd nd:Int)(sd:List Tm)(ke ne:Int)(se:List Tm)(l kz nz:Int)(sz:List Tm)(ty:Nat→Option Tm)(w:World)(h1:jX (ty 0)=some l)(hsh:oU (.mk kp np sp) 13=some (.mk 13 n3 [.mk kd nd sd,.mk ke ne se]))(hvx:aE (.mk ka na sa)=true)(hsu0:eC 0 (.mk ka na sa) (.mk ke ne se)=some (.mk kz nz sz))(h2:fW (ty 1) (.mk kd nd sd)=true)(h3:fW (ty 2) (.mk kz nz sz)=true)(hvp:aE (.mk kp np sp)=true)(hT:TyOk fc ev w ty)(hr:Rd w A 0 [.mk kp np sp,.mk ka na sa,t2']) :
  Calls prog 103 #[.agg #[.slice C m cc,.int .i64 k,.int .i64 n,.slice A 3 c,.func (.func fc) #[] ev]] w (eO w kp np sp):=by
 have hv3:=(lN hsh).2.2.2.2;have hvb:=aX hv3 (t:=.mk ke ne se) (by simp);have hzx:=aI hvx;have hzb:=aI hvb;have hshx:=aD (bO hvx);have hshb:=aD (bO hvb);have hvz:=aD (fV hsu0);have hsu:=aD hsu0;replace h1:=aD h1;replace hsh:=aD hsh;have h2c:=aD h2;have h3c:=aD h3;replace hvp:=aD hvp;clear h2 h3 hsu0 hv3 hvb hvx;obtain ⟨bp,op,Ap,cp,rfl,i1,i2,i3,hlp,rp0⟩:=oF hr;obtain ⟨Aa,ca,a1,a2,a3,hla,ra0⟩:=tX hr;simp only [Nat.zero_mul,Nat.add_zero,Nat.one_mul,Nat.reduceMul] at i1 i2 i3 a1 a2 a3
 go_enter func103,ntmps103;go_upto_region 5 with (first
  | (go_at_call 114;have _t:=tok1;refine (kU kp np sp Ap cp 13 n3 [.mk kd nd sd,.mk ke ne se] _ hsh.out (rp0.below g1)).mono ?_;rintro e w2 ⟨A3,c3,rfl,hl3,r3,hb2⟩;have hZ2:=hZ1.keep hb2;have hJ2:=hJ1.keep hb2;have g2:=g1.trans (hb2.mono g1.size);clear j3 p0 p1 p2)
  | (go_at_call 120;refine (iV C m cc k n _ 3 c fc ev 0 (by omega) l ty _ h1.out (hT.below bw2)).mono ?_;rintro e w1 ⟨rfl,hb1⟩;have hZ1:=bA hb1;have hJ1:=((aC w 90 #[.slice C m cc,.int .i64 k,.int .i64 n,.slice (some ⟨bp,op,none⟩) 3 c,.func (.func fc) #[] ev] rfl).alloc (.cells Zr 25)).keep hb1;have g1:Bw w w1:=bW bw2 hb1;have j3:=hJ1.at_ (i:=3) rfl;have p0:=(bR g1) _ _ i1;have p1:=(bR g1) _ _ i2;have p2:=(bR g1) _ _ i3;have tok1:=trivial))
 refine aT ?_;intro wx hwx;have hJx:=(show Blk wx w.heap.size _ by rw [hwx];exact hJ2.alloc _);have hZx:=(show Blk wx (w.heap.size+1) _ by rw [hwx];exact hZ2.alloc _);have h6x0:Blk wx w2.heap.size (Ro 13 n3 A3 2 c3):=by rw [hwx];exact aC _ 25 _ rfl
 have gx:Bw w wx:=by rw [hwx];exact g2.alloc g2.size _
 have r3x:Rd wx A3 0 [.mk kd nd sd,.mk ke ne se]:=by rw [hwx];exact r3.alloc _
 clear hwx;obtain ⟨be,oe,x1,x2,x3,Ae,ce,rfl,hk2,c1,c2,c3',hle,re0⟩:=r3x.at_ (j:=1) (by simp);injection hk2 with e1 e2 e3;subst e1 e2 e3;simp only [Nat.one_mul] at c1 c2 c3'
 have h6x:=h6x0;have u0:=aF (hJx.at_ (i:=0) rfl);have u1:=aF (hJx.at_ (i:=1) rfl);have u2:=aF (hJx.at_ (i:=2) rfl);have u3:=aF (hJx.at_ (i:=3) rfl);have u4:=aF (hJx.at_ (i:=4) rfl);obtain ⟨v0,v1,v2⟩:=kZ h6x;refine fE wx [5] [0,1,3] 6 3 (lT:=[_,_,_]) ?_;intro q0 bq0;refine cL (aD ?_);refine bG 2 ?_
 ·go_wp2_with (go_at_call 98;refine (tD 13 n3 kd nd sd [.mk ke ne se] _ c3 _ (r3x.below bq0) (by simp)).mono ?_;rintro e q1 ⟨Ak,ck,rfl,hlk,rkq1,hbq1⟩)
  refine bJ bq0 hbq1 ?_;intro bq1 lq1;refine bG 4 ?_
  ·go_wp2_with (go_at_call 97;refine (lQ C m cc k n _ 3 c fc ev 1 (by omega) kd nd sd Ak ck ty _ h2c.out ((hT.below gx).below bq1) rkq1).mono ?_;rintro e q2 ⟨rfl,hbq2⟩)
   have Kq2:=rkq1.below hbq2;refine bJ bq1 hbq2 ?_;intro bq2 lq2;refine cY [5] (lB:=[_]) ?_;go_upto_region 8 with fail
   refine aT ?_;intro wu hwu;have hJu:=(show Blk wu w.heap.size _ by rw [hwu];exact hJx.keep bq2);have hZu:=(show Blk wu (w.heap.size+1) _ by rw [hwu];exact hZx.keep bq2);have h6u:=(show Blk wu w2.heap.size _ by rw [hwu];exact h6x.keep bq2);have gu:Bw w wu:=by rw [hwu];exact gx.trans (bq2.mono gx.size)
   have kxu:Bw wx wu:=by rw [hwu];exact bq2
   clear hwu u0 u1 u2 u3 u4 v0 v1 v2;have reu:=re0.below kxu;have rau:=ra0.below gu;have v2:=aF h6u.three.2.2;have u3:=aF (hJu.at_ (i:=3) rfl);have y0:=aF ((bR kxu) _ _ c1);have y1:=aF ((bR kxu) _ _ c2);have y2:=aF ((bR kxu) _ _ c3');have z0:=aF ((bR gu) _ _ a1);have z1:=aF ((bR gu) _ _ a2);have z2:=aF ((bR gu) _ _ a3);go_cut [7,9] (fun vc vp wy=>∃(gz:Nat) (Az:Option Addr) (cz:Nat),vp = .pointer (some ⟨gz,0,none⟩)∧vc = .int .i64 0∧Blk wy gz (Ro kz nz Az sz.length cz)∧Rd wy Az 0 sz∧Bw wu wy∧wu.heap.size≤gz)
   case first=>
    refine fE wu [10,11,13,14,15,17,18] [0,1,2,3,4,5,6,7,8] 19 10 (lT:=[_,_,_,_,_,_,_,_,_]) ?_;intro q0 bq0;refine cL (aD ?_);refine oC 9 16 ?_ ?_
    ·go_wp2_with (go_at_call 99;refine (kF ke ne se Ae ce 0 ka na sa Aa ca _ (by omega) hshx.out (by omega) (rau.below bq0) (by omega) hshb.out (reu.below bq0)).mono ?_;rw [hsu.out];intro e q1 hgo;obtain ⟨A7,c7,rfl,hl7,hfq1,hbq1⟩:=dE hgo;clear hgo)
     have rdq1:=hfq1.rd;refine bJ bq0 hbq1 ?_;intro bq1 lq1;refine jW [10,11] 7 (lT:=[_,_]) ?_;refine cL (aD ?_);refine oC 12 16 ?_ ?_
     ·go_wp2_with (go_at_call 89;refine (cJ kz nz sz A7 c7 _ hvz.out rdq1).mono ?_;rintro e q2 ⟨rfl,hbq2⟩)
      have Oq2:=rdq1.below hbq2;refine bJ bq1 hbq2 ?_;intro bq2 lq2;refine jW [13,14,15] 3 (lT:=[_,_,_]) ?_;refine cL (aD ?_);refine bG 16 ?_
      ·go_wp2_with fail
       refine eQ ?_;intro q3 hbq3 zq3 seq3;have Oq3:=Oq2.below hbq3;refine bJ bq2 hbq3 ?_;intro bq3 lq3;refine cY [17,18] (lB:=[_,_]) ?_;obtain ⟨d0,d1,d2,e0,e1,e2⟩:=cA zq3;have szb:wu.heap.size≤q2.heap.size:=by first|exact bq0.size|exact bq2.size
       go_wp2_with fail
       go_meet
       exact ⟨q2.heap.size,A7,c7,rfl,rfl,((zq3.set_ 0 _).set_ 1 _).set_ 2 _,bT zq3 hvz.out Oq3 _ _ _,((bq3.setCell szb _).setCell szb _).setCell szb _,szb⟩
     ·go_wp2_with fail
      refine eQ ?_;intro q4 hbq4 zq4 seq4;have Oq4:=rdq1.below hbq4;refine bJ bq1 hbq4 ?_;intro bq4 lq4;refine bG 12 ?_
      ·go_wp2_with (go_at_call 89;refine (cJ kz nz sz A7 c7 _ hvz.out Oq4).mono ?_;rintro e q5 ⟨rfl,hbq5⟩)
       have Oq5:=Oq4.below hbq5;have Zq5:=zq4.keep hbq5;refine bJ bq4 hbq5 ?_;intro bq5 lq5;refine jW [13,14,15] 2 (lT:=[_,_,_]) ?_;refine cL (aD ?_);refine cY [17,18] (lB:=[_,_]) ?_;obtain ⟨d0,d1,d2,e0,e1,e2⟩:=cA Zq5;have szb:wu.heap.size≤q1.heap.size:=by first|exact bq0.size|exact bq1.size
       go_wp2_with fail
       go_meet
       exact ⟨q1.heap.size,A7,c7,rfl,rfl,((Zq5.set_ 0 _).set_ 1 _).set_ 2 _,bT Zq5 hvz.out Oq5 _ _ _,((bq5.setCell szb _).setCell szb _).setCell szb _,szb⟩
    ·go_wp2_with fail
     refine eQ ?_;intro q6 hbq6 zq6 seq6;refine bJ bq0 hbq6 ?_;intro bq6 lq6;refine bG 9 ?_
     ·go_wp2_with (go_at_call 99;refine (kF ke ne se Ae ce 0 ka na sa Aa ca _ (by omega) hshx.out (by omega) (rau.below bq6) (by omega) hshb.out (reu.below bq6)).mono ?_;rw [hsu.out];intro e q7 hgo;obtain ⟨A7,c7,rfl,hl7,hfq7,hbq7⟩:=dE hgo;clear hgo)
      have rdq7:=hfq7.rd;have Zq7:=zq6.keep hbq7;refine bJ bq6 hbq7 ?_;intro bq7 lq7;refine jW [10,11] 6 (lT:=[_,_]) ?_;refine cL (aD ?_);refine bG 12 ?_
      ·go_wp2_with (go_at_call 89;refine (cJ kz nz sz A7 c7 _ hvz.out rdq7).mono ?_;rintro e q8 ⟨rfl,hbq8⟩)
       have Zq8:=Zq7.keep hbq8;have Oq8:=rdq7.below hbq8;refine bJ bq7 hbq8 ?_;intro bq8 lq8;refine jW [13,14,15] 2 (lT:=[_,_,_]) ?_;refine cL (aD ?_);refine cY [17,18] (lB:=[_,_]) ?_;obtain ⟨d0,d1,d2,e0,e1,e2⟩:=cA Zq8;have szb:wu.heap.size≤q0.heap.size:=by first|exact bq0.size|exact bq0.size
       go_wp2_with fail
       go_meet
       exact ⟨q0.heap.size,A7,c7,rfl,rfl,((Zq8.set_ 0 _).set_ 1 _).set_ 2 _,bT Zq8 hvz.out Oq8 _ _ _,((bq8.setCell szb _).setCell szb _).setCell szb _,szb⟩
   case rest=>
    obtain ⟨gz,Az,cz,rfl,rfl,hTz,rz,hxy,hgz⟩:=hcut;have gy:=gu.trans (hxy.mono gu.size);have hJy:=hJu.keep hxy;have hZy:=hZu.keep hxy;obtain ⟨t0,t1,t2⟩:=hTz.three;have j0:=hJy.at_ (i:=0) rfl;have j1:=hJy.at_ (i:=1) rfl;have j2:=hJy.at_ (i:=2) rfl;have j3:=hJy.at_ (i:=3) rfl;have j4:=hJy.at_ (i:=4) rfl;go_upto_region 12 with (go_at_call 97;refine (lQ C m cc k n _ 3 c fc ev 2 (by omega) kz nz sz Az cz ty _ h3c.out (hT.below gy) rz).mono ?_;rintro e w5 ⟨rfl,hb5⟩)
    refine aT ?_;intro ws hws;have hZs:=(show Blk ws (w.heap.size+1) _ by rw [hws];exact hZy.keep hb5);have hJs:=(show Blk ws w.heap.size _ by rw [hws];exact hJy.keep hb5);have gs:Bw w ws:=by rw [hws];exact gy.trans (hb5.mono gy.size)
    clear hws j0 j1 j2 j3 j4 t0 t1 t2;have rps:=rp0.below gs;have v3:=hJs.at_ (i:=3) rfl;have p0:=(bR gs) _ _ i1;have p1:=(bR gs) _ _ i2;have p2:=(bR gs) _ _ i3;obtain ⟨d0,d1,d2,e0,e1,e2⟩:=cA hZs;go_wp2_with fail
    refine bodyPost_ret (v:=.tuple #[.agg (Ro kp np Ap sp.length cp),.int .i64 0]) (by simp [results,results103,go_sem,d0,d1,d2]) rfl ⟨Ap,cp,rfl,hlp,bT hZs hvp.out rps _ _ _,?_⟩;exact ((gs.setCell (by simp) _).setCell (by simp) _).setCell (by simp) _
theorem aAh (C:Option Addr)(m cc:Nat)(n:Int)(A:Option Addr)(la c fc:Nat)(ev:Array Value)(n3 kd nd:Int)(sd:List Tm)(ke ne:Int)(se:List Tm)(ty:Nat→Option Tm)(w:World)(h1:qD (ty 0) 13=some (.mk 13 n3 [.mk kd nd sd,.mk ke ne se]))(hT:TyOk fc ev w ty) :
  Calls prog 104 #[.agg #[.slice C m cc,.int .i64 15,.int .i64 n,.slice A la c,.func (.func fc) #[] ev]] w (eO w kd nd sd):=by
 obtain ⟨_,_,he,hv3⟩:=gJ h1;injection he with e1 e2 e3;subst e2 e3;have hvd:=aD (aX hv3 (t:=.mk kd nd sd) (by simp));replace h1:=aD h1;clear hv3;go_enter func104,ntmps104;go_upto_region 2 with (go_at_call 96;refine (kA C m cc 15 n _ la c fc ev 0 (by omega) 13 n3 [.mk kd nd sd,.mk ke ne se] ty _ h1.out (hT.below bw2)).mono ?_;rintro e w1 ⟨A3,c3,rfl,hl3,r3,hb1⟩;have hZ1:=bA hb1;have hJ1:=((aC w 90 #[.slice C m cc,.int .i64 15,.int .i64 n,.slice A la c,.func (.func fc) #[] ev] rfl).alloc (.cells Zr 25)).keep hb1;have g1:Bw w w1:=bW bw2 hb1)
 refine aT ?_;intro wx hwx;have hJx:=(show Blk wx w.heap.size _ by rw [hwx];exact hJ1.alloc _);have hZx:=(show Blk wx (w.heap.size+1) _ by rw [hwx];exact hZ1.alloc _);have h6x0:Blk wx w1.heap.size (Ro 13 n3 A3 2 c3):=by rw [hwx];exact aC _ 25 _ rfl
 have gx:Bw w wx:=by rw [hwx];exact g1.alloc g1.size _
 have r3x:Rd wx A3 0 [.mk kd nd sd,.mk ke ne se]:=by rw [hwx];exact r3.alloc _
 clear hwx;obtain ⟨be,oe,x1,x2,x3,Ad,cd,rfl,hk2,c1,c2,c3',hld,rd0⟩:=r3x.at_ (j:=0) (by simp);injection hk2 with e1 e2 e3;subst e1 e2 e3;simp only [Nat.zero_mul,Nat.add_zero] at c1 c2 c3'
 have h6x:=h6x0;have u1:=hJx.at_ (i:=1) rfl;have v2:=h6x.three.2.2;obtain ⟨d0,d1,d2,e0,e1,e2⟩:=cA hZx;go_wp2_with fail
 refine bodyPost_ret (v:=.tuple #[.agg (Ro kd nd Ad sd.length cd),.int .i64 0]) (by simp [results,results104,go_sem,d0,d1,d2]) rfl ⟨Ad,cd,rfl,hld,bT hZx hvd.out rd0 _ _ _,?_⟩;exact ((gx.setCell (by simp) _).setCell (by simp) _).setCell (by simp) _
theorem aAb (C:Option Addr)(m cc:Nat)(n:Int)(A:Option Addr)(c fc:Nat)(ev:Array Value)(kp np:Int)(sp:List Tm)(n3 kd nd:Int)(sd:List Tm)(ke ne:Int)(se:List Tm)(kr nr:Int)(sr:List Tm)(ty:Nat→Option Tm)(w:World)(h1:qD (ty 0) 13=some (.mk 13 n3 [.mk kd nd sd,.mk ke ne se]))(hvx:aE (.mk 15 0 [.mk kp np sp])=true)(hsu0:eC 0 (.mk 15 0 [.mk kp np sp]) (.mk ke ne se)=some (.mk kr nr sr))(hT:TyOk fc ev w ty)(hr:Rd w A 0 [.mk kp np sp]) :
  Calls prog 104 #[.agg #[.slice C m cc,.int .i64 16,.int .i64 n,.slice A 1 c,.func (.func fc) #[] ev]] w (eO w kr nr sr):=by
 obtain ⟨_,_,he,hv3⟩:=gJ h1;injection he with e1 e2 e3;subst e2 e3;have hvb:=aX hv3 (t:=.mk ke ne se) (by simp);have hzx:=aI hvx;have hzb:=aI hvb;have hshx:=aD (bO hvx);have hshb:=aD (bO hvb);have hvr:=aD (fV hsu0);have hsu:=aD hsu0;replace h1:=aD h1;clear hsu0 hv3 hvb hvx;obtain ⟨bp,op,Ap,cp,rfl,i1,i2,i3,hlp,rp0⟩:=oF hr;simp only [Nat.zero_mul,Nat.add_zero] at i1 i2 i3
 go_enter func104,ntmps104;go_upto_region 2 with (go_at_call 96;refine (kA C m cc 16 n _ 1 c fc ev 0 (by omega) 13 n3 [.mk kd nd sd,.mk ke ne se] ty _ h1.out (hT.below bw2)).mono ?_;rintro e w1 ⟨A3,c3,rfl,hl3,r3,hb1⟩;have hZ1:=bA hb1;have hJ1:=((aC w 90 #[.slice C m cc,.int .i64 16,.int .i64 n,.slice (some ⟨bp,op,none⟩) 1 c,.func (.func fc) #[] ev] rfl).alloc (.cells Zr 25)).keep hb1;have g1:Bw w w1:=bW bw2 hb1)
 refine aT ?_;intro wx hwx;have hJx:=(show Blk wx w.heap.size _ by rw [hwx];exact hJ1.alloc _);have hZx:=(show Blk wx (w.heap.size+1) _ by rw [hwx];exact hZ1.alloc _);have h6x0:Blk wx w1.heap.size (Ro 13 n3 A3 2 c3):=by rw [hwx];exact aC _ 25 _ rfl
 have gx:Bw w wx:=by rw [hwx];exact g1.alloc g1.size _
 have r3x:Rd wx A3 0 [.mk kd nd sd,.mk ke ne se]:=by rw [hwx];exact r3.alloc _
 clear hwx;have u1:=hJx.at_ (i:=1) rfl;go_upto_region 6 with fail
 refine aT ?_;intro ws hws;have hJs:=(show Blk ws w.heap.size _ by rw [hws];exact hJx);have hZs:=(show Blk ws (w.heap.size+1) _ by rw [hws];exact hZx);have h6s0:Blk ws w1.heap.size (Ro 13 n3 A3 2 c3):=by rw [hws];exact h6x0
 have gs:Bw w ws:=by rw [hws];exact gx
 have r3s:Rd ws A3 0 [.mk kd nd sd,.mk ke ne se]:=by rw [hws];exact r3x
 clear hws u1;obtain ⟨be,oe,x1,x2,x3,Ae,ce,rfl,hk2,c1,c2,c3',hle,res⟩:=r3s.at_ (j:=1) (by simp);injection hk2 with e1 e2 e3;subst e1 e2 e3;simp only [Nat.one_mul] at c1 c2 c3'
 have h6s:=h6s0;have rps:=rp0.below gs;have v2:=aF h6s.three.2.2;have u3:=aF (hJs.at_ (i:=3) rfl);obtain ⟨y0,y1,y2⟩:=pW c1 c2 c3';have z0:=aF ((bR gs) _ _ i1);have z1:=aF ((bR gs) _ _ i2);have z2:=aF ((bR gs) _ _ i3);refine fE ws [12,13,15,16,17,18] [0,1,2,3,4,5,6,7,8] 19 10 (lT:=[_,_,_,_,_,_,_,_,_]) ?_;intro q0 bq0;refine cL (aD ?_);refine bG 9 ?_
 ·go_wp2_with fail
  refine eQ ?_;intro q1 hbq1 zq1 seq1;have rq1:Rd q1 (some ⟨q0.heap.size,0,none⟩) 0 [.mk kp np sp]:=aEq (s0:=sp) zq1 hlp ((rps.below bq0).below hbq1);refine bJ bq0 hbq1 ?_;intro bq1 lq1;refine bG 10 ?_
  ·go_wp2_with (go_at_call 92;refine (bL 15 _ ⟨_,_,_,rfl⟩ _).mono ?_;rintro e q2 ⟨rfl,hbq2⟩)
   have Pq2:=rq1.below hbq2;refine bJ bq1 hbq2 ?_;intro bq2 lq2;refine bG 11 ?_
   ·go_wp2_with (go_at_call 99;refine (kF ke ne se Ae ce 0 15 0 [.mk kp np sp] (some ⟨q0.heap.size,0,none⟩) 1 _ (by omega) hshx.out (by omega) Pq2 (by omega) hshb.out (res.below bq2)).mono ?_;rw [hsu.out];intro e q3 hgo;obtain ⟨A7,c7,rfl,hl7,hfq3,hbq3⟩:=dE hgo;clear hgo)
    have rdq3:=hfq3.rd;have Pq3:=Pq2.below hbq3;refine bJ bq2 hbq3 ?_;intro bq3 lq3;refine jW [12,13] 5 (lT:=[_,_]) ?_;refine cL (aD ?_);refine bG 14 ?_
    ·go_wp2_with (go_at_call 89;refine (cJ kr nr sr A7 c7 _ hvr.out rdq3).mono ?_;rintro e q4 ⟨rfl,hbq4⟩)
     have Pq4:=Pq3.below hbq4;have Oq4:=rdq3.below hbq4;refine bJ bq3 hbq4 ?_;intro bq4 lq4;refine jW [15,16] 2 (lT:=[_,_]) ?_;refine cL (aD ?_);refine cY [17,18] (lB:=[_,_]) ?_;have hZ2:=hZs.keep bq4;obtain ⟨d0,d1,d2,e0,e1,e2⟩:=cA hZ2;have gf:=gs.trans (bq4.mono gs.size);have rP:=Oq4;go_wp2_with fail
     refine bodyPost_ret (v:=.tuple #[.agg (Ro kr nr A7 sr.length c7),.int .i64 0]) (by simp [results,results104,go_sem,d0,d1,d2]) rfl ⟨A7,c7,rfl,hl7,bT hZ2 hvr.out rP _ _ _,?_⟩;exact ((gf.setCell (by simp) _).setCell (by simp) _).setCell (by simp) _
theorem aDv (C:Option Addr)(m cc:Nat)(n:Int)(A:Option Addr)(la c fc:Nat)(ev:Array Value)(kr nr:Int)(sr:List Tm)(w:World)(hvr:aE (.mk kr nr sr)=true)(hc:Hid (∀w',Bw w w'→Calls prog 94 #[.agg #[.slice C m cc,.int .i64 13,.int .i64 n,.slice A la c,.func (.func fc) #[] ev]] w' (eO w' kr nr sr))) :
  Calls prog 67 #[.agg #[.slice C m cc,.int .i64 13,.int .i64 n,.slice A la c,.func (.func fc) #[] ev]] w (eO w kr nr sr):=by
 replace hvr:=aD hvr;go_enter func67,ntmps67;go_wp2_with (go_at_call 94;refine (hc.out _ bw3).mono ?_;rintro e w1 ⟨A1,c1,rfl,hl1,r1,hb1⟩;have hZ1:Blk w1 (w.heap.size+1) Zr:=((aC (n:=w.heap.size+1) (w.alloc (.cells #[.slice C m cc,.int .i64 13,.int .i64 n,.slice A la c,.func (.func fc) #[] ev] 90)) 25 Zr (by simp)).alloc (.cells (Ro 13 n A la c) 25)).keep hb1;have g1:Bw w w1:=bW bw3 hb1;obtain ⟨d0,d1,d2,e0,e1,e2⟩:=cA hZ1)
 refine bodyPost_ret (v:=.tuple #[.agg (Ro kr nr A1 sr.length c1),.int .i64 0]) (by simp [results,results67,go_sem,d0,d1,d2]) rfl ⟨A1,c1,rfl,hl1,bT hZ1 hvr.out r1 _ _ _,?_⟩;exact bV g1
theorem aCo (C:Option Addr)(m cc:Nat)(n:Int)(A:Option Addr)(la c fc:Nat)(ev:Array Value)(kr nr:Int)(sr:List Tm)(w:World)(hvr:aE (.mk kr nr sr)=true)(hc:Hid (∀w',Bw w w'→Calls prog 103 #[.agg #[.slice C m cc,.int .i64 14,.int .i64 n,.slice A la c,.func (.func fc) #[] ev]] w' (eO w' kr nr sr))) :
  Calls prog 67 #[.agg #[.slice C m cc,.int .i64 14,.int .i64 n,.slice A la c,.func (.func fc) #[] ev]] w (eO w kr nr sr):=by
 replace hvr:=aD hvr;go_enter func67,ntmps67;go_wp2_with (go_at_call 103;refine (hc.out _ bw3).mono ?_;rintro e w1 ⟨A1,c1,rfl,hl1,r1,hb1⟩;have hZ1:Blk w1 (w.heap.size+1) Zr:=((aC (n:=w.heap.size+1) (w.alloc (.cells #[.slice C m cc,.int .i64 14,.int .i64 n,.slice A la c,.func (.func fc) #[] ev] 90)) 25 Zr (by simp)).alloc (.cells (Ro 14 n A la c) 25)).keep hb1;have g1:Bw w w1:=bW bw3 hb1;obtain ⟨d0,d1,d2,e0,e1,e2⟩:=cA hZ1)
 refine bodyPost_ret (v:=.tuple #[.agg (Ro kr nr A1 sr.length c1),.int .i64 0]) (by simp [results,results67,go_sem,d0,d1,d2]) rfl ⟨A1,c1,rfl,hl1,bT hZ1 hvr.out r1 _ _ _,?_⟩;exact bV g1
theorem aDn (C:Option Addr)(m cc:Nat)(n:Int)(A:Option Addr)(la c fc:Nat)(ev:Array Value)(kr nr:Int)(sr:List Tm)(w:World)(hvr:aE (.mk kr nr sr)=true)(hc:Hid (∀w',Bw w w'→Calls prog 104 #[.agg #[.slice C m cc,.int .i64 15,.int .i64 n,.slice A la c,.func (.func fc) #[] ev]] w' (eO w' kr nr sr))) :
  Calls prog 67 #[.agg #[.slice C m cc,.int .i64 15,.int .i64 n,.slice A la c,.func (.func fc) #[] ev]] w (eO w kr nr sr):=by
 replace hvr:=aD hvr;go_enter func67,ntmps67;go_wp2_with (go_at_call 104;refine (hc.out _ bw3).mono ?_;rintro e w1 ⟨A1,c1,rfl,hl1,r1,hb1⟩;have hZ1:Blk w1 (w.heap.size+1) Zr:=((aC (n:=w.heap.size+1) (w.alloc (.cells #[.slice C m cc,.int .i64 15,.int .i64 n,.slice A la c,.func (.func fc) #[] ev] 90)) 25 Zr (by simp)).alloc (.cells (Ro 15 n A la c) 25)).keep hb1;have g1:Bw w w1:=bW bw3 hb1;obtain ⟨d0,d1,d2,e0,e1,e2⟩:=cA hZ1)
 refine bodyPost_ret (v:=.tuple #[.agg (Ro kr nr A1 sr.length c1),.int .i64 0]) (by simp [results,results67,go_sem,d0,d1,d2]) rfl ⟨A1,c1,rfl,hl1,bT hZ1 hvr.out r1 _ _ _,?_⟩;exact bV g1
theorem aDu (C:Option Addr)(m cc:Nat)(n:Int)(A:Option Addr)(la c fc:Nat)(ev:Array Value)(kr nr:Int)(sr:List Tm)(w:World)(hvr:aE (.mk kr nr sr)=true)(hc:Hid (∀w',Bw w w'→Calls prog 104 #[.agg #[.slice C m cc,.int .i64 16,.int .i64 n,.slice A la c,.func (.func fc) #[] ev]] w' (eO w' kr nr sr))) :
  Calls prog 67 #[.agg #[.slice C m cc,.int .i64 16,.int .i64 n,.slice A la c,.func (.func fc) #[] ev]] w (eO w kr nr sr):=by
 replace hvr:=aD hvr;go_enter func67,ntmps67;go_wp2_with (go_at_call 104;refine (hc.out _ bw3).mono ?_;rintro e w1 ⟨A1,c1,rfl,hl1,r1,hb1⟩;have hZ1:Blk w1 (w.heap.size+1) Zr:=((aC (n:=w.heap.size+1) (w.alloc (.cells #[.slice C m cc,.int .i64 16,.int .i64 n,.slice A la c,.func (.func fc) #[] ev] 90)) 25 Zr (by simp)).alloc (.cells (Ro 16 n A la c) 25)).keep hb1;have g1:Bw w w1:=bW bw3 hb1;obtain ⟨d0,d1,d2,e0,e1,e2⟩:=cA hZ1)
 refine bodyPost_ret (v:=.tuple #[.agg (Ro kr nr A1 sr.length c1),.int .i64 0]) (by simp [results,results67,go_sem,d0,d1,d2]) rfl ⟨A1,c1,rfl,hl1,bT hZ1 hvr.out r1 _ _ _,?_⟩;exact bV g1
end Go.Proofs.YtddkehjdjfmhmaaGreat
