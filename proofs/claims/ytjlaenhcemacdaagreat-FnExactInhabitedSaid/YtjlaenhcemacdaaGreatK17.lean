/- Parts of the proof. No condition. -/
import Derived.Test.YtjlaenhcemacdaaGreatK14
import Derived.Test.YtjlaenhcemacdaaGreatK16
import Derived.ProofKit
import Derived.OpenShut
import Derived.JoinedCond
import Derived.Deep.Slices
import Derived.Deep.Fields
import Derived.ChangeSame
import Derived.Below
import Derived.Carry
import Derived.Lib.SmallJoins
open Go.Proofs.Tryz
namespace Go.Proofs.YtjlaenhcemacdaaGreat
open Go.RowKit
set_option maxHeartbeats 8000000
set_option maxRecDepth 100000
set_option linter.unusedSimpArgs false
set_option linter.unusedVariables false
theorem wM (i:Nat):aI [] i=default:=rfl
theorem lI (t:Tm)(ts:List Tm):aI (t::ts) 0=t:=rfl
theorem iI (t:Tm)(ts:List Tm)(i:Nat):aI (t::ts) (i+1)=aI ts i:=rfl
theorem fP {ks:List Tm}{i:Nat}(h:ks.length<=i):aI ks i=default:=by
 rw [aI,List.getD_eq_getElem?_getD,List.getElem?_eq_none h];rfl
theorem vR (k:Int)(i:Nat):aN k (i:Int)=0\/aN k (i:Int)=1:=by have:=dA k i;omega
theorem aIm (b k c:Int):∀(ks:List Tm) (i j:Nat),aI (bK b k c i ks) j=bR b (c+aN k ((i+j:Nat):Int)) (aI ks j)
 | [],i,j=>by rw [bK,wM];show _=bR b _ (.mk 0 0 []);rw [bR,Aw (by rintro ⟨h,-⟩;cases h),bK];rfl
 | t::ts,i,0=>by rw [bK,lI,lI];rfl
 | t::ts,i,j+1=>by rw [bK,iI,iI,aIm b k c ts (i+1) j,show i+1+j=i+(j+1) by omega]
theorem aIl (u:Tm)(k x d:Int):∀(ks:List Tm) (i j:Nat),aI (cE u k x d i ks) j=bT u (x+aN k ((i+j:Nat):Int)) (d+aN k ((i+j:Nat):Int)) (aI ks j)
 | [],i,j=>by rw [cE,wM];show _=bT u _ _ (.mk 0 0 []);rw [bT,Aw (by rintro ⟨h,-⟩;cases h),Aw (by rintro ⟨h,-⟩;cases h),cE];rfl
 | t::ts,i,0=>by rw [cE,lI,lI];rfl
 | t::ts,i,j+1=>by rw [cE,iI,iI,aIl u k x d ts (i+1) j,show i+1+j=i+(j+1) by omega]
theorem nW (b k c:Int)(ks:List Tm)(j:Nat):aI (bK b k c 0 ks) j=bR b (c+aN k (j:Int)) (aI ks j):=by rw [aIm,Nat.zero_add]
theorem oS (u:Tm)(k x d:Int)(ks:List Tm)(j:Nat):aI (cE u k x d 0 ks) j=bT u (x+aN k (j:Int)) (d+aN k (j:Int)) (aI ks j):=by rw [aIl,Nat.zero_add]
theorem wL {u:Tm}{x d n:Int}{ks:List Tm}(h:n=x):bT u x d (.mk 1 n ks)=bR d 0 u:=by rw [bT,Av ⟨rfl,h⟩]
theorem jD {u:Tm}{x d n:Int}{ks:List Tm}(h:x<n):bT u x d (.mk 1 n ks) = .mk 1 (n - 1) (cE u 1 x d 0 ks):=by rw [bT,Aw Ac,Av ⟨rfl,h⟩]
theorem gY {u:Tm}{x d n:Int}{ks:List Tm}(h:n<x):bT u x d (.mk 1 n ks) = .mk 1 n (cE u 1 x d 0 ks):=by rw [bT,Aw Ac,Aw Ac]
theorem mN {u:Tm}{x d k n:Int}{ks:List Tm}(h:k≠1):bT u x d (.mk k n ks) = .mk k n (cE u k x d 0 ks):=by rw [bT,Aw (λe=>h e.1),Aw (λe=>h e.1)]
theorem kU {b c n:Int}{ks:List Tm}(h:c<=n):bR b c (.mk 1 n ks) = .mk 1 (n+b) (bK b 1 c 0 ks):=by rw [bR,Av ⟨rfl,h⟩]
theorem oJ {b c n:Int}{ks:List Tm}(h:n<c):bR b c (.mk 1 n ks) = .mk 1 n (bK b 1 c 0 ks):=by rw [bR,Aw Ac]
theorem eQ {b c k n:Int}{ks:List Tm}(h:k≠1):bR b c (.mk k n ks) = .mk k n (bK b k c 0 ks):=by rw [bR,Aw (λe=>h e.1)]
theorem aIe (b b':Int)(hb:0<=b)(hb':0<=b'):(∀(t:Tm) (c c':Int),c<=c'->bR b' (c'+b) (bR b c t)=bR b c (bR b' c' t))/\
  ∀(ts:List Tm) (k c c':Int) (i:Nat),c<=c'->bK b' k (c'+b) i (bK b k c i ts)=bK b k c i (bK b' k c' i ts):=by
 refine bA (λk n ks ih c c' h=>?_) (λk c c' i h=>?_) (λt ts h1 h2 k c c' i h=>?_)
 ·rw [bR,bR,bR,bR,ih k c c' 0 h];congr 1;by_cases hk:k=1
  ·simp only [hk,true_and];split<;>split<;>split<;>(try split)<;>omega
  ·simp only [hk,false_and,if_false]
 ·simp only [bK]
 ·simp only [bK];rw [h2 k c c' (i+1) h,show c'+b+aN k (i:Int)=c'+aN k (i:Int)+b by omega,h1 _ _ Ac]
theorem nG (b b':Int)(hb':0<=b'):(∀(t:Tm) (c c':Int),c<=c'->c'<=c+b'->bR b c' (bR b' c t)=bR (b+b') c t)/\
  ∀(ts:List Tm) (k c c':Int) (i:Nat),c<=c'->c'<=c+b'->bK b k c' i (bK b' k c i ts)=bK (b+b') k c i ts:=by
 refine bA (λk n ks ih c c' h h'=>?_) (λk c c' i h h'=>?_) (λt ts h1 h2 k c c' i h h'=>?_)
 ·rw [bR,bR,bR,ih k c c' 0 h h'];congr 1;by_cases hk:k=1
  ·simp only [hk,true_and];split<;>split<;>omega
  ·simp only [hk,false_and,if_false]
 ·simp only [bK]
 ·simp only [bK];rw [h2 k c c' (i+1) h h',h1 _ _ Ac Ac]
theorem aEc (u:Tm)(b c:Int)(hb:0<=b)(hc:0<=c):(∀(t:Tm) (e:Int),0<=e->bR b (c+e) (bT u e e t)=bT (bR b c u) e e (bR b (c+1+e) t))/\
  ∀(ts:List Tm) (k e:Int) (i:Nat),0<=e->bK b k (c+e) i (cE u k e e i ts)=cE (bR b c u) k e e i (bK b k (c+1+e) i ts):=by
 refine bA (λk n ks ih e he=>?_) (λk e i he=>?_) (λt ts h1 h2 k e i he=>?_)
 ·by_cases hk:k=1
  ·subst hk;by_cases hn:n=e
   ·rw [bT,Av ⟨rfl,hn⟩,bR,Aw Ac,bT,Av ⟨rfl,hn⟩,(aIe e b he hb).1 u 0 c hc]
   ·by_cases h2:c+1+e<=n
    ·rw [jD Ac,kU Ac,kU h2,jD Ac,ih 1 e 0 he];congr 1;omega
    ·by_cases h3:e<n
     ·rw [jD h3,oJ Ac,oJ Ac,jD h3,ih 1 e 0 he]
     ·rw [gY Ac,oJ Ac,oJ Ac,gY Ac,ih 1 e 0 he]
  ·rw [bT,Aw (λh=>hk h.1),Aw (λh=>hk h.1),bR,Aw (λh=>hk h.1),bR,Aw (λh=>hk h.1),bT,Aw (λh=>hk h.1),Aw (λh=>hk h.1),ih k e 0 he]
 ·simp only [bK,cE]
 ·simp only [bK,cE];rw [h2 k e (i+1) he,show c+e+aN k (i:Int)=c+(e+aN k (i:Int)) by omega,h1 _ (by have:=dA k i;omega),show c+1+e+aN k (i:Int)=c+1+(e+aN k (i:Int)) by omega]
theorem aHi (v:Tm)(e:Int)(he:0<=e):(∀(t:Tm) (c d x:Int),0<=c->c<=d->d<=x->bT v (x+e) (d+e) (bR e c t)=bR e c (bT v x d t))/\
  ∀(ts:List Tm) (k c d x:Int) (i:Nat),0<=c->c<=d->d<=x->cE v k (x+e) (d+e) i (bK e k c i ts)=bK e k c i (cE v k x d i ts):=by
 refine bA (λk n ks ih c d x h0 h1 h2=>?_) (λk c d x i h0 h1 h2=>?_) (λt ts i1 i2 k c d x i h0 h1 h2=>?_)
 ·by_cases hk:k=1
  ·subst hk;by_cases hn:n=x
   ·rw [bR,Av ⟨rfl,by omega⟩,bT,Av ⟨rfl,by omega⟩,bT,Av ⟨rfl,hn⟩,(nG e d Ac).1 v 0 c h0 Ac,show d+e=e+d by omega]
   ·by_cases hc:c<=n
    ·by_cases h3:x<n
     ·rw [kU hc,jD Ac,jD h3,kU Ac,ih 1 c d x 0 h0 h1 h2];congr 1;omega
     ·rw [kU hc,gY Ac,gY Ac,kU hc,ih 1 c d x 0 h0 h1 h2]
    ·rw [oJ Ac,gY Ac,gY Ac,oJ Ac,ih 1 c d x 0 h0 h1 h2]
  ·rw [bR,Aw (λh=>hk h.1),bT,Aw (λh=>hk h.1),Aw (λh=>hk h.1),bT,Aw (λh=>hk h.1),Aw (λh=>hk h.1),bR,Aw (λh=>hk h.1),ih k c d x 0 h0 h1 h2]
 ·simp only [bK,cE]
 ·simp only [bK,cE];have:=dA k i;rw [i2 k c d x (i+1) h0 h1 h2,show x+e+aN k (i:Int)=x+aN k (i:Int)+e by omega,show d+e+aN k (i:Int)=d+aN k (i:Int)+e by omega,i1 _ _ _ Ac Ac Ac]
theorem vL (w:Tm)(m:Int)(hm:0<=m):(∀(t:Tm) (c x e:Int),c<=x->x<=c+m->bT w x e (bR (m+1) c t)=bR m c t)/\
  ∀(ts:List Tm) (k c x e:Int) (i:Nat),c<=x->x<=c+m->cE w k x e i (bK (m+1) k c i ts)=bK m k c i ts:=by
 refine bA (λk n ks ih c x e h1 h2=>?_) (λk c x e i h1 h2=>?_) (λt ts i1 i2 k c x e i h1 h2=>?_)
 ·rw [bR,bT,bR,ih k c x e 0 h1 h2];by_cases h:k=1/\c<=n
  ·rw [Av h,Av h,Aw Ac,Av Ac];congr 1;omega
  ·rw [Aw h,Aw h,Aw Ac,Aw Ac]
 ·simp only [bK,cE]
 ·simp only [bK,cE];rw [i2 k c x e (i+1) h1 h2,i1 _ _ _ Ac Ac]
theorem aSt (u v:Tm)(x d:Int)(hd:0<=d)(hx:d<=x):(∀(t:Tm) (e:Int),0<=e->bT v (x+e) (d+e) (bT u e e t)=bT (bT v x d u) e e (bT v (x+1+e) (d+1+e) t))/\
  ∀(ts:List Tm) (k e:Int) (i:Nat),0<=e->cE v k (x+e) (d+e) i (cE u k e e i ts)=cE (bT v x d u) k e e i (cE v k (x+1+e) (d+1+e) i ts):=by
 refine bA (λk n ks ih e he=>?_) (λk e i he=>?_) (λt ts h1 h2 k e i he=>?_)
 ·by_cases hk:k=1
  ·subst hk;by_cases hn:n=e
   ·rw [bT,Av ⟨rfl,hn⟩,bT,Aw Ac,Aw Ac,bT,Av ⟨rfl,hn⟩];exact (aHi v e he).1 u 0 d x Ac hd hx
   ·by_cases h2:n=x+1+e
    ·rw [jD Ac,wL Ac,wL h2,show d+1+e=d+e+1 by omega,(vL (bT v x d u) (d+e) Ac).1 v 0 e e he Ac]
    ·by_cases h3:e<n
     ·by_cases h4:x+1+e<n
      ·rw [jD h3,jD Ac,jD h4,jD Ac,ih 1 e 0 he]
      ·rw [jD h3,gY Ac,gY Ac,jD h3,ih 1 e 0 he]
     ·rw [gY Ac,gY Ac,gY Ac,gY Ac,ih 1 e 0 he]
  ·rw [bT,Aw (λh=>hk h.1),Aw (λh=>hk h.1),bT,Aw (λh=>hk h.1),Aw (λh=>hk h.1),bT,Aw (λh=>hk h.1),Aw (λh=>hk h.1),bT,Aw (λh=>hk h.1),Aw (λh=>hk h.1),ih k e 0 he]
 ·simp only [cE]
 ·simp only [cE];rw [h2 k e (i+1) he,show x+e+aN k (i:Int)=x+(e+aN k (i:Int)) by omega,show d+e+aN k (i:Int)=d+(e+aN k (i:Int)) by omega,h1 _ (by have:=dA k i;omega),show x+1+e+aN k (i:Int)=x+1+(e+aN k (i:Int)) by omega,show d+1+e+aN k (i:Int)=d+1+(e+aN k (i:Int)) by omega]
theorem aXx (b c:Int)(t:Tm):(bR b c t).k=t.k:=by cases t;rfl
theorem aXc {u:Tm}{x d:Int}{t:Tm}(h:t.k≠1):(bT u x d t).k=t.k:=by
 obtain ⟨k,n,ks⟩:=t;rw [bT,Aw (λe=>h e.1)];rfl
theorem mG (ks:List Tm)(i:Nat):gN ks i=(aI ks i).k:=rfl
theorem aVd {k:Int}{ks ls:List Tm}(h0:gN ls 0=gN ks 0)(h1:gN ls 1=gN ks 1)(h3:gN ls 3=gN ks 3):rdx k ls=rdx k ks:=by unfold rdx;rw [h0,h1,h3]
theorem aCg (b c k:Int)(ks:List Tm):rdx k (bK b k c 0 ks)=rdx k ks:=by
 refine aVd ?_ ?_ ?_<;>rw [mG,nW,aXx]<;>rfl
theorem jV {b c k:Int}{ks:List Tm}(hb:binds k=false)(j:Nat):aI (bK b k c 0 ks) j=bR b c (aI ks j):=by
 rw [nW,show aN k (j:Int)=0 by unfold aN;rw [Aw (by rw [hb];rintro ⟨-,h⟩;cases h)],Int.add_zero]
theorem kT {u:Tm}{x d k:Int}{ks:List Tm}(hb:binds k=false)(j:Nat):aI (cE u k x d 0 ks) j=bT u x d (aI ks j):=by
 rw [oS,show aN k (j:Int)=0 by unfold aN;rw [Aw (by rw [hb];rintro ⟨-,h⟩;cases h)],Int.add_zero,Int.add_zero]
theorem aJr (b c:Int)(t:Tm)(j:Nat):aI (bR b c t).ks j=bR b (c+aN t.k (j:Int)) (aI t.ks j):=by
 obtain ⟨k,n,ks⟩:=t;rw [bR];exact nW b k c ks j
theorem aIg {u:Tm}{x d:Int}{t:Tm}(h:t.k≠1)(j:Nat):aI (bT u x d t).ks j=bT u (x+aN t.k (j:Int)) (d+aN t.k (j:Int)) (aI t.ks j):=by
 obtain ⟨k,n,ks⟩:=t;rw [bT,Aw (λe=>h e.1)];exact oS u k x d ks j
theorem fC {k:Int}{ks:List Tm}(h:rdx k ks≠0):(rdx k ks=1/\k=5/\gN ks 0=4)\/(rdx k ks=2/\k=9/\gN ks 3=7)\/(rdx k ks=3/\k=9/\gN ks 3=8)\/(rdx k ks=4/\k=12/\gN ks 1=11)\/(rdx k ks=5/\k=15/\gN ks 0=14)\/(rdx k ks=6/\k=16/\gN ks 0=14):=aIq h
theorem nY {k n:Int}{ks:List Tm}(h:rdx k ks=1):eF (.mk k n ks)=bT (aI ks 1) 0 0 (aI (aI ks 0).ks 1):=by rw [eF,Av h]
theorem oQ {k n:Int}{ks:List Tm}(h:rdx k ks=2):eF (.mk k n ks)=aI ks 1:=by rw [eF,Aw Ac,Av h]
theorem pC {k n:Int}{ks:List Tm}(h:rdx k ks=3):eF (.mk k n ks) = .mk 5 0 [.mk 5 0 [aI ks 2,aI (aI ks 3).ks 0],.mk 9 0 [aI ks 0,aI ks 1,aI ks 2,aI (aI ks 3).ks 0]]:=by rw [eF,Aw Ac,Aw Ac,Av h]
theorem oK {k n:Int}{ks:List Tm}(h:rdx k ks=4):eF (.mk k n ks)=aI ks 2:=by rw [eF,Aw Ac,Aw Ac,Aw Ac,Av h]
theorem oW {k n:Int}{ks:List Tm}(h:rdx k ks=5):eF (.mk k n ks)=aI (aI ks 0).ks 1:=by rw [eF,Aw Ac,Aw Ac,Aw Ac,Aw Ac,Av h]
theorem oT {k n:Int}{ks:List Tm}(h:rdx k ks=6):eF (.mk k n ks)=aI (aI ks 0).ks 2:=by rw [eF,Aw Ac,Aw Ac,Aw Ac,Aw Ac,Aw Ac]
theorem aQf {b c:Int}(hb:0<=b)(hc:0<=c){k n:Int}{ks:List Tm}(h:rdx k ks≠0):bR b c (eF (.mk k n ks))=eF (bR b c (.mk k n ks)):=by
 have hr:=aCg b c k ks;rw [bR];rcases fC h with ⟨h1,rfl,h2⟩|⟨h1,rfl,h2⟩|⟨h1,rfl,h2⟩|⟨h1,rfl,h2⟩|⟨h1,rfl,h2⟩|⟨h1,rfl,h2⟩
 ·rw [nY h1,nY (hr.trans h1),jV rfl,jV rfl,aJr,show (aI ks 0).k=4 from h2,show aN 4 ((1:Nat):Int)=1 from rfl];have:=(aEc (aI ks 1) b c hb hc).1 (aI (aI ks 0).ks 1) 0 Ac;rw [Int.add_zero,Int.add_zero] at this;exact this
 ·rw [oQ h1,oQ (hr.trans h1),jV rfl]
 ·rw [pC h1,pC (hr.trans h1),jV rfl,jV rfl,jV rfl,jV rfl,aJr,show (aI ks 3).k=8 from h2,show aN 8 ((0:Nat):Int)=0 from rfl,Int.add_zero];simp only [bR,bK,show aN 5 (((0:Nat):Int))=0 from rfl,show aN 5 (((0+1:Nat):Int))=0 from rfl,show aN 9 (((0:Nat):Int))=0 from rfl,show aN 9 (((0+1:Nat):Int))=0 from rfl,show aN 9 (((0+1+1:Nat):Int))=0 from rfl,show aN 9 (((0+1+1+1:Nat):Int))=0 from rfl,Int.add_zero];rfl
 ·rw [oK h1,oK (hr.trans h1),jV rfl]
 ·rw [oW h1,oW (hr.trans h1),jV rfl,aJr,show (aI ks 0).k=14 from h2,show aN 14 ((1:Nat):Int)=0 from rfl,Int.add_zero]
 ·rw [oT h1,oT (hr.trans h1),jV rfl,aJr,show (aI ks 0).k=14 from h2,show aN 14 ((2:Nat):Int)=0 from rfl,Int.add_zero]
theorem wX {u:Tm}{x d k:Int}{ks:List Tm}{j:Nat}(hk:gN ks j≠1):gN (cE u k x d 0 ks) j=gN ks j:=by
 rw [mG,oS];exact aXc hk
theorem aHf {u:Tm}{x d k:Int}{ks:List Tm}(h:rdx k ks≠0):rdx k (cE u k x d 0 ks)=rdx k ks:=by
 rcases fC h with ⟨h1,rfl,h2⟩|⟨h1,rfl,h2⟩|⟨h1,rfl,h2⟩|⟨h1,rfl,h2⟩|⟨h1,rfl,h2⟩|⟨h1,rfl,h2⟩
 all_goals
  have h4:=(wX (u:=u) (x:=x) (d:=d) (k:=5) (ks:=ks) (by rw [h2];decide)).trans h2;have h5:=(wX (u:=u) (x:=x) (d:=d) (k:=9) (ks:=ks) (by rw [h2];decide)).trans h2;have h6:=(wX (u:=u) (x:=x) (d:=d) (k:=12) (ks:=ks) (by rw [h2];decide)).trans h2;have h7:=(wX (u:=u) (x:=x) (d:=d) (k:=15) (ks:=ks) (by rw [h2];decide)).trans h2;have h8:=(wX (u:=u) (x:=x) (d:=d) (k:=16) (ks:=ks) (by rw [h2];decide)).trans h2;unfold rdx;simp [h4,h5,h6,h7,h8,h2]
theorem aQd {u:Tm}{x d:Int}(hd:0<=d)(hx:d<=x){k n:Int}{ks:List Tm}(h:rdx k ks≠0):bT u x d (eF (.mk k n ks))=eF (bT u x d (.mk k n ks)):=by
 have hr:=aHf (u:=u) (x:=x) (d:=d) h;have hk1:k≠1:=by rintro rfl;exact h rfl
 rw [bT,Aw (λe=>hk1 e.1),Aw (λe=>hk1 e.1)];rcases fC h with ⟨h1,rfl,h2⟩|⟨h1,rfl,h2⟩|⟨h1,rfl,h2⟩|⟨h1,rfl,h2⟩|⟨h1,rfl,h2⟩|⟨h1,rfl,h2⟩
 ·have h4:(aI ks 0).k=4:=h2;rw [nY h1,nY (hr.trans h1),kT rfl,kT rfl,aIg (by rw [h4];decide),h4,show aN 4 ((1:Nat):Int)=1 from rfl];have:=(aSt (aI ks 1) u x d hd hx).1 (aI (aI ks 0).ks 1) 0 Ac;rw [Int.add_zero,Int.add_zero,Int.add_zero,Int.add_zero] at this;exact this
 ·rw [oQ h1,oQ (hr.trans h1),kT rfl]
 ·have h4:(aI ks 3).k=8:=h2;rw [pC h1,pC (hr.trans h1),kT rfl,kT rfl,kT rfl,kT rfl,aIg (by rw [h4];decide),h4,show aN 8 ((0:Nat):Int)=0 from rfl,Int.add_zero,Int.add_zero];simp only [bT,cE,show aN 5 (((0:Nat):Int))=0 from rfl,show aN 5 (((0+1:Nat):Int))=0 from rfl,show aN 9 (((0:Nat):Int))=0 from rfl,show aN 9 (((0+1:Nat):Int))=0 from rfl,show aN 9 (((0+1+1:Nat):Int))=0 from rfl,show aN 9 (((0+1+1+1:Nat):Int))=0 from rfl,Int.add_zero];simp
 ·rw [oK h1,oK (hr.trans h1),kT rfl]
 ·have h4:(aI ks 0).k=14:=h2;rw [oW h1,oW (hr.trans h1),kT rfl,aIg (by rw [h4];decide),h4,show aN 14 ((1:Nat):Int)=0 from rfl,Int.add_zero,Int.add_zero]
 ·have h4:(aI ks 0).k=14:=h2;rw [oT h1,oT (hr.trans h1),kT rfl,aIg (by rw [h4];decide),h4,show aN 14 ((2:Nat):Int)=0 from rfl,Int.add_zero,Int.add_zero]
namespace NT
def idx:NT->Option NT
 | .elim z s n=>some n
 | .mov x z=>some x
 | .app b a=>(idx b).map (sub a 0)
 | _=>none
inductive Gd:Nat->NT->Prop where
 | var {n i:Nat} (h:i<n):Gd n (.var i)
 | zero {n:Nat}:Gd n .zero
 | suc {n:Nat} {a:NT} (h:Gd n a):Gd n (.suc a)
 | app {n:Nat} {b a:NT} (h1:Gd (n+1) b) (h2:Gd n a) (h3:∀u,idx b=some u->Gd n (sub a 0 u)):Gd n (.app b a)
 | elim {n:Nat} {z s m:NT} (h1:Gd n z) (h2:Gd (n+2) s) (h3:Gd n m):Gd n (.elim z s m)
 | part {n:Nat} {q:Bool} {a b:NT} (h1:Gd n a) (h2:Gd n b):Gd n (.part q a b)
 | mov {n:Nat} {x z:NT} (h1:Gd n x) (h2:Gd n z):Gd n (.mov x z)
end NT
theorem PartR.ownBY {lo:Nat->Prop}{B:Nat}{w:Bb}{v:Value}{ts:List Tm}(h:PartR lo B w v ts):∀g,v.ownBlock=some g->B<=g:=λg hg=>by
 obtain ⟨xs,h1,_⟩:=h;exact (h1.lt g hg).1
def aXo (p:Nat->Prop)(w:Bb)(ctx:List Tm)(e:Ending)(w':Bb):Prop:=
 ∃D d,e = .returned (.tuple #[.slice D ctx.length d,.int .i64 0])/\RdP (λb=>p b\/w.heap.size<=b) w' D 0 ctx/\Bw w w'
theorem aNc (p:Nat->Prop)(ctx:List Tm)(C:Ba)(cc:Nat)(k n:Int)(ks:List Tm)(A:Ba)(c:Nat)(w:Bb)(hm:ctx.length<20)(hl:ks.length<=9223372036854775807)(hrc:RdP p w C 0 ctx)(hra:RdP p w A 0 ks)(hp:∀b,p b->b<w.heap.size) :
  Calls prog 136 #[.slice C ctx.length cc,.agg (Ro k n A ks.length c)] w (aXo p w (ctx++[.mk k n ks])):=by
 have hq:decide ((20:Int)<=(ctx.length:Int))=false:=decide_eq_false Ac;go_enter func136,ntmps136;go_upto_region 3 with fail
 refine aXa (show Blk _ w.heap.size (Ro k n A ks.length c) from (aC _ 32 _ rfl)) bw1 ?_;intro wx hT gx;have rcx:=hrc.below gx;have rax:=hra.below gx;have hpx:∀b,p b->b<wx.heap.size:=λb hb=>by have:=hp b hb;have:=gx.size;omega
 obtain ⟨v0,v1,v2⟩:=fW hT;refine eK wx [4,5,6] [0,2] 7 5 (lT:=[_,_]) ?_;intro q0 bq0;refine bU (aD ?_);refine mW 1 3 ?_ ?_
 ·go_wp2_with (go_at_call 94;refine (jM p ctx _ cc _ Ac (rcx.below bq0) (λb hb=>vM (hpx b hb) bq0.size)).mono ?_;rintro e q1 ⟨C2,c2,rfl,hPq1,hbq1⟩);refine aV bq0 hbq1 ?_;intro bq1 lq1;refine aZ 3 ?_
  ·go_wp2_with fail;refine cF ?_;intro q2 hn;have hbq2:Bw q1 q2:=by rw [hn];exact bw1
   have zq2:Blk q2 q1.heap.size (Ro k n A ks.length c):=by rw [hn];exact aC _ 32 _ rfl
   have seq2:q1.heap.size<q2.heap.size:=by rw [hn];simp
   clear hn;have Pq2:=hPq1.below hbq2;refine aV bq1 hbq2 ?_;intro bq2 lq2;refine cK [4,5,6] (lB:=[_,_,_]) ?_;have hB0:wx.heap.size<=q0.heap.size:=bq0.size;have hsz:wx.heap.size<=q2.heap.size:=bq2.size;have hBw:q0.heap.size<=q2.heap.size:=by first|exact mC _|omega
   refine bP (lo:=p) (B:=q0.heap.size) (q:=p) Pq2 hBw (rax.below bq2) (λb hb=>⟨.inl hb,by have:=hpx b hb;omega,λe=>by have:=hpx b hb;have:=Pq2.ownBY b e;omega⟩) hl rfl Ac q1.heap.size 1 zq2 rfl _ _ rfl rfl rfl ?_;intro A9 c9 w9 hp9 hb9 hg9 hn9;obtain ⟨A8,c8,e8,r8⟩:=hp9.rd;injection e8 with e81 e82 e83;subst e81 e83;have hlen9:(ctx++[Tm.mk k n ks]).length=ctx.length+1:=by simp
   refine gS (aD ?_);go_wp2_with fail;go_ret2;exact ⟨A9,c9,by rw [hlen9];rfl,r8.mono (λb hb=>hb.imp id λh=>by have:=gx.size;omega),(gx.trans (bq2.mono gx.size)).trans (hb9.mono (by have:=gx.size;omega))⟩
 ·go_wp2_with fail;refine cF ?_;intro q3 hn;have hbq3:Bw q0 q3:=by rw [hn];exact bw1
  have zq3:Blk q3 q0.heap.size (Ro k n A ks.length c):=by rw [hn];exact aC _ 32 _ rfl
  have seq3:q0.heap.size<q3.heap.size:=by rw [hn];simp
  clear hn;refine aV bq0 hbq3 ?_;intro bq3 lq3;refine aZ 1 ?_
  ·go_wp2_with (go_at_call 94;refine (jM p ctx _ cc _ Ac (rcx.below bq3) (λb hb=>vM (hpx b hb) bq3.size)).mono ?_;rintro e q4 ⟨C2,c2,rfl,hPq4,hbq4⟩);have Zq4:=zq3.keep hbq4;refine aV bq3 hbq4 ?_;intro bq4 lq4;refine cK [4,5,6] (lB:=[_,_,_]) ?_;have hB0:wx.heap.size<=q3.heap.size:=bq3.size;have hsz:wx.heap.size<=q4.heap.size:=bq4.size;have hBw:q3.heap.size<=q4.heap.size:=by first|exact mC _|omega
   refine bP (lo:=p) (B:=q3.heap.size) (q:=p) hPq4 hBw (rax.below bq4) (λb hb=>⟨.inl hb,by have:=hpx b hb;omega,λe=>by have:=hpx b hb;have:=hPq4.ownBY b e;omega⟩) hl rfl Ac q0.heap.size 1 Zq4 rfl _ _ rfl rfl rfl ?_;intro A9 c9 w9 hp9 hb9 hg9 hn9;obtain ⟨A8,c8,e8,r8⟩:=hp9.rd;injection e8 with e81 e82 e83;subst e81 e83;have hlen9:(ctx++[Tm.mk k n ks]).length=ctx.length+1:=by simp
   refine gS (aD ?_);go_wp2_with fail;go_ret2;exact ⟨A9,c9,by rw [hlen9];rfl,r8.mono (λb hb=>hb.imp id λh=>by have:=gx.size;omega),(gx.trans (bq4.mono gx.size)).trans (hb9.mono (by have:=gx.size;omega))⟩
theorem aId (C:Ba)(m cc:Nat)(k n:Int)(A:Ba)(la c:Nat)(i:Nat)(w:Bb)(hu:aN k i=0) :
  Calls prog 117 #[.slice C m cc,.agg (Ro k n A la c),.int .i64 i] w λe w'=>e = .returned (.tuple #[.slice C m cc,.int .i64 0])/\Bw w w':=by
 have hu':=aD hu;clear hu;go_enter func117,ntmps117;go_wp2_with (go_at_call 108;refine (lQ _ _ _).mono ?_;rw [hu'.out];rintro e w1 ⟨rfl,rfl⟩);go_ret2;exact ⟨rfl,bw1⟩
theorem aKx (p:Nat->Prop)(ctx:List Tm)(C:Ba)(cc:Nat)(k n:Int)(ka na:Int)(sa:List Tm)(ts:List Tm)(A:Ba)(c:Nat)(i:Nat)(w:Bb)(hu:aN k i=1)(hm:ctx.length<20)(hlt:ts.length<=1000)(hrc:RdP p w C 0 ctx)(hra:RdP p w A 0 (.mk ka na sa::ts))(hp:∀b,p b->b<w.heap.size) :
  Calls prog 117 #[.slice C ctx.length cc,.agg #[.int .i64 k,.int .i64 n,.slice A (ts.length+1) c],.int .i64 i] w (aXo p w (ctx++[.mk ka na sa])):=by
 have hu':=aD hu;clear hu;obtain ⟨ba,oa,x1,x2,x3,Aa,ca,rfl,hk1,i1,i2,i3,hla,ra⟩:=hra.at_ (j:=0) Ag;injection hk1 with e1 e2 e3;subst e1 e2 e3;simp only [Nat.zero_mul,Nat.add_zero] at i1 i2 i3
 have lb:=kF _ _ i1;have q2:(0:Int)<((ts.length:Nat):Int)+1:=by omega
 go_enter func117,ntmps117;go_wp2_with (first
  | (go_at_call 136;refine (aNc p ctx C cc ka na sa Aa ca _ hm hla (hrc.alloc _) (ra.alloc _) (λb hb=>by have:=hp b hb;simp;omega)).mono ?_;rintro e w2 ⟨D,d,rfl,hrD,hb2⟩)
  | (go_at_call 108;refine (lQ _ _ _).mono ?_;rw [hu'.out];rintro e w1 ⟨rfl,rfl⟩))
 have hlen9:(ctx++[Tm.mk ka na sa]).length=ctx.length+1:=by simp
 go_ret2;exact ⟨D,d,by rw [hlen9];rfl,hrD.mono (λb hb=>hb.imp id λh=>by simp at h;omega),bw1.trans (hb2.mono Ag)⟩
def aWv (w:Bb)(ctx:List Tm)(e:Ending)(w':Bb):Prop:=
 ∃D d,e = .returned (.tuple #[.slice D ctx.length d,.int .i64 0])/\Rd w' D 0 ctx/\Bw w w'
theorem aPa (ctx:List Tm)(C:Ba)(cc:Nat)(k n:Int)(ka na:Int)(sa:List Tm)(ts:List Tm)(A:Ba)(c:Nat)(i:Nat)(w:Bb)(hu:aN k i=1)(hm:ctx.length<20)(hlt:ts.length<=1000)(hrc:Rd w C 0 ctx)(hra:Rd w A 0 (.mk ka na sa::ts)) :
  Calls prog 117 #[.slice C ctx.length cc,.agg (Ro k n A (ts.length+1) c),.int .i64 i] w (aWv w (ctx++[.mk ka na sa])):=
 (aKx (·<w.heap.size) ctx C cc k n ka na sa ts A c i w hu hm hlt hrc.rdp hra.rdp (λ_ h=>h)).mono λe w' ⟨D,d,he,hr,hb⟩=>⟨D,d,he,hr.rd,hb⟩
theorem oX {x:Int}(h0:0<=x)(h3:x<=3):aE (.mk 2 x [])=true:=by
 rcases (show x=0\/x=1\/x=2\/x=3 by omega) with rfl|rfl|rfl|rfl<;>decide +kernel
theorem zZ:aE aWz=true:=by decide +kernel
theorem aCd {b c:Int}{t u:Tm}(h:bJ b c t=some u):aE u=true:=by
 unfold bJ at h;split at h
 ·split at h
  ·injection h with h;subst h;assumption
  ·cases h
 ·cases h
theorem aPh {ks:List Tm}{i:Nat}(h:i<ks.length):aI ks i=ks[i]:=by simp [aI,List.getD,sE h]
theorem aLe (C:Ba)(m cc:Nat)(n:Int)(A:Ba)(la c fc:Nat)(ev:Array Value)(kr nr:Int)(sr:List Tm)(w:Bb)(hvr:aE (.mk kr nr sr)=true)(hc:Hid (∀w',Bw w w'->Calls prog 139 #[.agg #[.slice C m cc,.int .i64 3,.int .i64 n,.slice A la c,.func (.func fc) #[] ev]] w' (jH w' kr nr sr))) :
  Calls prog 118 #[.agg #[.slice C m cc,.int .i64 3,.int .i64 n,.slice A la c,.func (.func fc) #[] ev]] w (jH w kr nr sr):=by
 replace hvr:=aD hvr;go_enter func118,ntmps118;go_wp2_with (go_at_call 139;refine (hc.out _ bw3).mono ?_;rintro e w1 ⟨A1,c1,rfl,hl1,r1,hb1⟩;have hZ1:Blk w1 (w.heap.size+1) Zr:=((aC (n:=w.heap.size+1) (w.alloc (.cells #[.slice C m cc,.int .i64 3,.int .i64 n,.slice A la c,.func (.func fc) #[] ev] 105)) 32 Zr Ag).alloc (.cells (Ro 3 n A la c) 32)).keep hb1;have g1:Bw w w1:=bN bw3 hb1;obtain ⟨d0,d1,d2,e0,e1,e2⟩:=bZ hZ1);refine bodyPost_ret (v:=.tuple #[.agg (Ro kr nr A1 sr.length c1),.int .i64 0]) (by simp [results,results118,go_sem,d0,d1,d2]) rfl ⟨A1,c1,rfl,hl1,bS hZ1 hvr.out r1 _ _ _,?_⟩;exact bV g1
theorem aJx (C:Ba)(m cc:Nat)(n:Int)(A:Ba)(la c fc:Nat)(ev:Array Value)(kr nr:Int)(sr:List Tm)(w:Bb)(hvr:aE (.mk kr nr sr)=true)(hc:Hid (∀w',Bw w w'->Calls prog 140 #[.agg #[.slice C m cc,.int .i64 4,.int .i64 n,.slice A la c,.func (.func fc) #[] ev]] w' (jH w' kr nr sr))) :
  Calls prog 118 #[.agg #[.slice C m cc,.int .i64 4,.int .i64 n,.slice A la c,.func (.func fc) #[] ev]] w (jH w kr nr sr):=by
 replace hvr:=aD hvr;go_enter func118,ntmps118;go_wp2_with (go_at_call 140;refine (hc.out _ bw3).mono ?_;rintro e w1 ⟨A1,c1,rfl,hl1,r1,hb1⟩;have hZ1:Blk w1 (w.heap.size+1) Zr:=((aC (n:=w.heap.size+1) (w.alloc (.cells #[.slice C m cc,.int .i64 4,.int .i64 n,.slice A la c,.func (.func fc) #[] ev] 105)) 32 Zr Ag).alloc (.cells (Ro 4 n A la c) 32)).keep hb1;have g1:Bw w w1:=bN bw3 hb1;obtain ⟨d0,d1,d2,e0,e1,e2⟩:=bZ hZ1);refine bodyPost_ret (v:=.tuple #[.agg (Ro kr nr A1 sr.length c1),.int .i64 0]) (by simp [results,results118,go_sem,d0,d1,d2]) rfl ⟨A1,c1,rfl,hl1,bS hZ1 hvr.out r1 _ _ _,?_⟩;exact bV g1
theorem aMc (C:Ba)(m cc:Nat)(n:Int)(A:Ba)(la c fc:Nat)(ev:Array Value)(kr nr:Int)(sr:List Tm)(w:Bb)(hvr:aE (.mk kr nr sr)=true)(hc:Hid (∀w',Bw w w'->Calls prog 144 #[.agg #[.slice C m cc,.int .i64 9,.int .i64 n,.slice A la c,.func (.func fc) #[] ev]] w' (jH w' kr nr sr))) :
  Calls prog 118 #[.agg #[.slice C m cc,.int .i64 9,.int .i64 n,.slice A la c,.func (.func fc) #[] ev]] w (jH w kr nr sr):=by
 replace hvr:=aD hvr;go_enter func118,ntmps118;go_wp2_with (go_at_call 144;refine (hc.out _ bw3).mono ?_;rintro e w1 ⟨A1,c1,rfl,hl1,r1,hb1⟩;have hZ1:Blk w1 (w.heap.size+1) Zr:=((aC (n:=w.heap.size+1) (w.alloc (.cells #[.slice C m cc,.int .i64 9,.int .i64 n,.slice A la c,.func (.func fc) #[] ev] 105)) 32 Zr Ag).alloc (.cells (Ro 9 n A la c) 32)).keep hb1;have g1:Bw w w1:=bN bw3 hb1;obtain ⟨d0,d1,d2,e0,e1,e2⟩:=bZ hZ1);refine bodyPost_ret (v:=.tuple #[.agg (Ro kr nr A1 sr.length c1),.int .i64 0]) (by simp [results,results118,go_sem,d0,d1,d2]) rfl ⟨A1,c1,rfl,hl1,bS hZ1 hvr.out r1 _ _ _,?_⟩;exact bV g1
theorem aHa (C:Ba)(m cc:Nat)(n:Int)(A:Ba)(la c fc:Nat)(ev:Array Value)(kr nr:Int)(sr:List Tm)(w:Bb)(hvr:aE (.mk kr nr sr)=true)(hc:Hid (∀w',Bw w w'->Calls prog 145 #[.agg #[.slice C m cc,.int .i64 10,.int .i64 n,.slice A la c,.func (.func fc) #[] ev]] w' (jH w' kr nr sr))) :
  Calls prog 118 #[.agg #[.slice C m cc,.int .i64 10,.int .i64 n,.slice A la c,.func (.func fc) #[] ev]] w (jH w kr nr sr):=by
 replace hvr:=aD hvr;go_enter func118,ntmps118;go_wp2_with (go_at_call 145;refine (hc.out _ bw3).mono ?_;rintro e w1 ⟨A1,c1,rfl,hl1,r1,hb1⟩;have hZ1:Blk w1 (w.heap.size+1) Zr:=((aC (n:=w.heap.size+1) (w.alloc (.cells #[.slice C m cc,.int .i64 10,.int .i64 n,.slice A la c,.func (.func fc) #[] ev] 105)) 32 Zr Ag).alloc (.cells (Ro 10 n A la c) 32)).keep hb1;have g1:Bw w w1:=bN bw3 hb1;obtain ⟨d0,d1,d2,e0,e1,e2⟩:=bZ hZ1);refine bodyPost_ret (v:=.tuple #[.agg (Ro kr nr A1 sr.length c1),.int .i64 0]) (by simp [results,results118,go_sem,d0,d1,d2]) rfl ⟨A1,c1,rfl,hl1,bS hZ1 hvr.out r1 _ _ _,?_⟩;exact bV g1
theorem aGi (C:Ba)(m cc:Nat)(n:Int)(A:Ba)(la c fc:Nat)(ev:Array Value)(kr nr:Int)(sr:List Tm)(w:Bb)(hvr:aE (.mk kr nr sr)=true)(hc:Hid (∀w',Bw w w'->Calls prog 146 #[.agg #[.slice C m cc,.int .i64 12,.int .i64 n,.slice A la c,.func (.func fc) #[] ev]] w' (jH w' kr nr sr))) :
  Calls prog 118 #[.agg #[.slice C m cc,.int .i64 12,.int .i64 n,.slice A la c,.func (.func fc) #[] ev]] w (jH w kr nr sr):=by
 replace hvr:=aD hvr;go_enter func118,ntmps118;go_wp2_with (go_at_call 146;refine (hc.out _ bw3).mono ?_;rintro e w1 ⟨A1,c1,rfl,hl1,r1,hb1⟩;have hZ1:Blk w1 (w.heap.size+1) Zr:=((aC (n:=w.heap.size+1) (w.alloc (.cells #[.slice C m cc,.int .i64 12,.int .i64 n,.slice A la c,.func (.func fc) #[] ev] 105)) 32 Zr Ag).alloc (.cells (Ro 12 n A la c) 32)).keep hb1;have g1:Bw w w1:=bN bw3 hb1;obtain ⟨d0,d1,d2,e0,e1,e2⟩:=bZ hZ1);refine bodyPost_ret (v:=.tuple #[.agg (Ro kr nr A1 sr.length c1),.int .i64 0]) (by simp [results,results118,go_sem,d0,d1,d2]) rfl ⟨A1,c1,rfl,hl1,bS hZ1 hvr.out r1 _ _ _,?_⟩;exact bV g1
theorem aKh (C:Ba)(m cc:Nat)(n:Int)(A:Ba)(la c fc:Nat)(ev:Array Value)(w:Bb)(hn:n≠3)(h0:0<=n/\n<=3) :
  Calls prog 118 #[.agg #[.slice C m cc,.int .i64 2,.int .i64 n,.slice A la c,.func (.func fc) #[] ev]] w (jH w 2 (n+1) []):=by
 have hq:(n==3)=false:=by simpa using hn
 clear hn;go_enter func118,ntmps118;go_wp2_with (go_at_call 137;refine (qG _ _).mono ?_;rintro e w1 ⟨rfl,hb1⟩;have hZ1:Blk w1 (w.heap.size+1) Zr:=((aC (n:=w.heap.size+1) (w.alloc (.cells #[.slice C m cc,.int .i64 2,.int .i64 n,.slice A la c,.func (.func fc) #[] ev] 105)) 32 Zr Ag).alloc (.cells (Ro 2 n A la c) 32)).keep hb1;have g1:Bw w w1:=bN bw3 hb1;obtain ⟨d0,d1,d2,e0,e1,e2⟩:=bZ hZ1);refine bodyPost_ret (v:=.tuple #[.agg (Ro 2 ((n+1)) none 0 0),.int .i64 0]) (by simp [results,results118,go_sem,d0,d1,d2]) rfl ⟨none,0,rfl,by simp,Rd.nil,?_⟩;exact bV g1
theorem aLy (C:Ba)(m cc:Nat)(n:Int)(A:Ba)(la c fc:Nat)(ev:Array Value)(w:Bb) :
  Calls prog 118 #[.agg #[.slice C m cc,.int .i64 6,.int .i64 n,.slice A la c,.func (.func fc) #[] ev]] w (jH w 2 0 []):=by
 go_enter func118,ntmps118;go_wp2_with (go_at_call 137;refine (qG _ _).mono ?_;rintro e w1 ⟨rfl,hb1⟩;have hZ1:Blk w1 (w.heap.size+1) Zr:=((aC (n:=w.heap.size+1) (w.alloc (.cells #[.slice C m cc,.int .i64 6,.int .i64 n,.slice A la c,.func (.func fc) #[] ev] 105)) 32 Zr Ag).alloc (.cells (Ro 6 n A la c) 32)).keep hb1;have g1:Bw w w1:=bN bw3 hb1;obtain ⟨d0,d1,d2,e0,e1,e2⟩:=bZ hZ1);refine bodyPost_ret (v:=.tuple #[.agg (Ro 2 (0) none 0 0),.int .i64 0]) (by simp [results,results118,go_sem,d0,d1,d2]) rfl ⟨none,0,rfl,by simp,Rd.nil,?_⟩;exact bV g1
theorem aLb (C:Ba)(m cc:Nat)(n:Int)(A:Ba)(la c fc:Nat)(ev:Array Value)(w:Bb) :
  Calls prog 118 #[.agg #[.slice C m cc,.int .i64 7,.int .i64 n,.slice A la c,.func (.func fc) #[] ev]] w (jH w 6 0 []):=by
 go_enter func118,ntmps118;go_wp2_with (go_at_call 71;refine (aQ 6 _ ⟨_,_,_,rfl⟩ _).mono ?_;rintro e w1 ⟨rfl,hb1⟩;have hZ1:Blk w1 (w.heap.size+1) Zr:=((aC (n:=w.heap.size+1) (w.alloc (.cells #[.slice C m cc,.int .i64 7,.int .i64 n,.slice A la c,.func (.func fc) #[] ev] 105)) 32 Zr Ag).alloc (.cells (Ro 7 n A la c) 32)).keep hb1;have g1:Bw w w1:=bN bw3 hb1;obtain ⟨d0,d1,d2,e0,e1,e2⟩:=bZ hZ1);refine bodyPost_ret (v:=.tuple #[.agg (Ro 6 (0) none 0 0),.int .i64 0]) (by simp [results,results118,go_sem,d0,d1,d2]) rfl ⟨none,0,rfl,by simp,Rd.nil,?_⟩;exact bV g1
theorem aKt (C:Ba)(m cc:Nat)(n:Int)(A:Ba)(la c fc:Nat)(ev:Array Value)(ty:Nat->Option Tm)(w:Bb)(hs:aDx (ty 0) aWz=true)(hT:TyOk fc ev w ty) :
  Calls prog 118 #[.agg #[.slice C m cc,.int .i64 8,.int .i64 n,.slice A la c,.func (.func fc) #[] ev]] w (jH w 6 0 []):=by
 have hs':=aD (show aDx (ty 0) (.mk 6 0 [])=true from hs);clear hs;go_enter func118,ntmps118;go_upto_region 16 with fail
 refine uH (show Blk _ w.heap.size #[.slice C m cc,.int .i64 8,.int .i64 n,.slice A la c,.func (.func fc) #[] ev] from (((aC _ 105 _ rfl).alloc _).alloc _)) (show Blk _ (w.heap.size+1) Zr from ((aC _ 32 _ Ag).alloc _)) bw3 ?_;intro wx hJx hZx gx;have u0:=aF (hJx.at_ (i:=0) rfl);have u1:=aF (hJx.at_ (i:=1) rfl);have u2:=aF (hJx.at_ (i:=2) rfl);have u3:=aF (hJx.at_ (i:=3) rfl);have u4:=aF (hJx.at_ (i:=4) rfl);refine eK wx [3] [0] 4 3 (lT:=[_]) ?_;intro q0 bq0;refine bU (aD ?_);refine aZ 1 ?_
 ·go_wp2_with (go_at_call 71;refine (aQ 6 _ ⟨_,_,_,rfl⟩ _).mono ?_;rintro e q1 ⟨rfl,hbq1⟩);refine aV bq0 hbq1 ?_;intro bq1 lq1;refine aZ 2 ?_
  ·go_wp2_with (go_at_call 138;refine (rT C m cc 8 n A la c fc ev 0 Ac 6 0 [] none 0 ty _ hs'.out ((hT.below gx).below bq1) Rd.nil).mono ?_;rintro e q2 ⟨rfl,hbq2⟩);refine aV bq1 hbq2 ?_;intro bq2 lq2;refine cK [3] (lB:=[_]) ?_;have hZ3:=hZx.keep bq2;have g3:=gx.trans (bq2.mono gx.size);go_wp2_with (go_at_call 71;refine (aQ 6 _ ⟨_,_,_,rfl⟩ _).mono ?_;rintro e w4 ⟨rfl,hb4⟩;have hZ4:=hZ3.keep hb4;have g4:=g3.trans (hb4.mono g3.size);obtain ⟨d0,d1,d2,e0,e1,e2⟩:=bZ hZ4);refine bodyPost_ret (v:=.tuple #[.agg (Ro 6 0 none 0 0),.int .i64 0]) (by simp [results,results118,go_sem,d0,d1,d2]) rfl ⟨none,0,rfl,by simp,Rd.nil,?_⟩;exact bV g4
theorem aLd (k n:Int)(ks:List Tm)(A:Ba)(c:Nat)(w:Bb)(hv:aE (.mk k n ks)=true)(hr:Rd w A 0 ks) :
  Calls prog 80 #[.agg (Ro k n A ks.length c)] w λe w'=>e = .returned (.bool false)/\Bw w w':=by
 have hz:=aH hv;have hv':=aD hv;clear hv;go_enter func80,ntmps80;go_wp2_with (go_at_call 58;refine (bB k n ks A c _ Ac (hr.alloc _)).mono ?_;rw [hv'.out];rintro e w1 ⟨rfl,hb1⟩;have g1:Bw w w1:=bN bw1 hb1);go_ret;exact ⟨rfl,g1⟩
theorem aLg (ts:List Tm)(A:Ba)(c:Nat)(w:Bb)(hl:ts.length<=1000000)(hts:∀u,u∈ts->aE u=true)(hr:Rd w A 0 ts) :
  Calls prog 106 #[.slice A ts.length c,.func (.func 80) #[] #[]] w λe w'=>e = .returned (.int .i64 (-1))/\Bw w w':=by
 go_enter func106,ntmps106;go_wp2_with fail;go_loopw [8] (λi wr=>∃j:Nat,j<=ts.length/\i = .int .i64 j/\Bw w wr)
  (λi _ => ts.length - (intOf i).toNat)
 case atStart=>exact ⟨0,Nat.zero_le _,rfl,eI _ _⟩
 case round=>
  obtain ⟨j,hj,rfl,hb⟩:=hrel;by_cases hlt:j<ts.length
  ·obtain ⟨b,off,k1,n1,ks1,A1,c1,rfl,hkj,hc1,hc2,hc3,hl1,hr1⟩:=(hr.below hb).at_ hlt;have hv1:=hts _ (gM hlt);rw [hkj] at hv1;have hv1':=aD hv1;clear hkj hv1;go_wp2_with (go_at_call 80;refine (aLd k1 n1 ks1 A1 c1 _ hv1'.out hr1).mono ?_;rintro e w3 ⟨rfl,hb3⟩);go_roundw
   case rel=>exact ⟨j+1,by omega,by go_num,hb.trans (hb3.mono hb.size)⟩
   case measure=>simp [intOf];omega
  ·go_wp2_with fail;go_ret;exact ⟨rfl,hb⟩
theorem aMx (ts:List Tm)(A:Ba)(c:Nat)(w:Bb)(hl:ts.length<=1000000)(hts:∀u,u∈ts->aE u=true)(hr:Rd w A 0 ts) :
  Calls prog 79 #[.slice A ts.length c,.func (.func 80) #[] #[]] w λe w'=>e = .returned (.bool false)/\Bw w w':=by
 have htsh:=aD hts;clear hts;go_enter func79,ntmps79;go_wp2_with (go_at_call 106;refine (aLg ts A c _ hl htsh.out hr).mono ?_;rintro e w1 ⟨rfl,hb1⟩);go_ret;exact ⟨rfl,hb1⟩
section
variable {lo:Nat->Prop}{B:Nat}{w:Bb}{v:Value}{ts l:List Tm}{L:Ba}{cl:Nat}{q:Nat->Prop}
theorem vE (hp:PartR lo B w v ts)(hB:B<=w.heap.size)(hr:RdP q w L 0 l)(hq:∀b,q b->PB lo B w v b)(hlen:ts.length<=1000000)(hlen2:l.length<=1000000)(ty:TypeId) :
  ∃v' w',(Builtin.append_ #[29,29] ty #[v,.slice L l.length cl]).run prog w = .ok v' w'/\
   PartR lo B w' v' (ts++l)/\Below B w w'/\w.grownBy w' v.ownBlock/\∀b,b<w.heap.size->v.ownBlock≠some b->v'.ownBlock≠some b:=by
 obtain ⟨i,hi,hz,hz1,hz2⟩:=info_parts mJ;have hp0:=hp;obtain ⟨xs,k1,h2⟩:=hp;have hge:∀g,v.ownBlock=some g->B<=g:=λg hg=>(k1.lt g hg).1
 cases l with
 | nil=>
  obtain ⟨A,c,rfl⟩:=hp0.shape;have hcl:ts.length<=c:=by
   rcases k1.2 with ⟨e,h0⟩|⟨g,cap,cur,e,_,_,h4,_⟩
   ·omega
   ·injection e with _ _ e3;omega
  refine ⟨.slice A ts.length c,w,?_,by rw [List.append_nil];exact hp0,eI _ _,nE _ _,λb _ h=>h⟩;exact run_append_nothing w 29 29 ty 32 i Tryz.underlying29 hi _ _ _ hcl _ ⟨.inl ⟨32,Tryz.underlying29⟩,λw'=>by simp [Builtin.lenOf],by cases L<;>simp [Builtin.firstCells,loadCells,loadCellsFrom],by cases L<;>simp [Builtin.firstCells,loadCells,loadCellsFrom],by simp,λu hu=>by cases hu⟩
 | cons t us=>
  obtain ⟨⟨b,off,rfl,_⟩,_⟩:=RdP.cons_iff.1 hr;obtain ⟨x1,hx,hc⟩:=aBg hr;obtain ⟨v',w',hrun,hown,hg,_,hat⟩:=run_append_own_at (P:=prog) w B 29 ty 32 i _ 3 40 Tryz.underlying29 hi hz hz1 hz2 rfl Ac v ts.length xs k1 ⟨b,off,none⟩ (t::us).length cl x1 hx.length (λj u hj=>by
    have:=hc j u hj;rw [show Addr.add ⟨b,off,none⟩ j=⟨b,off+0*3+j,none⟩ from by simp only [Addr.add];split<;>simp_all];exact this) hx.oneC (by simp only [maxLen];omega) Ac Ac
  have hsz:=hg.size;have hne:∀b,b<w.heap.size->v.ownBlock≠some b->v'.ownBlock≠some b:=by
   intro b hb hv e;rcases hat with e'|e'
   ·exact hv (e'.symm.trans e)
   ·rw [e'] at e;injection e with e;omega
  have hst:∀b,PB lo B w v b->PB lo B w' v' b:=λb hb=>⟨hb.1,by have:=hb.2.1;omega,hne b hb.2.1 hb.2.2⟩
  have hkp:∀b,PB lo B w v b->b<w.heap.size->w'.heap[b]?=w.heap[b]?:=λb hb hl=>hg.block b hl (λe=>hb.2.2 e.symm)
  refine ⟨v',w',hrun,⟨xs++x1,by rw [List.length_append];exact hown,RdX.append (hx.keep (λb hb=>hst b (hq b hb)) λb hb hl=>hkp b (hq b hb) hl) (h2.keep hst hkp)⟩,?_,hg,hne⟩;exact ⟨hg.os,hg.tape,hg.output,hg.size,λk hk=>hg.block k Ac (λe=>by have:=hge k e.symm;omega)⟩
theorem dV (hp:PartR lo B w v ts)(hB:B<=w.heap.size)(hr:RdP q w L 0 l)(hq:∀b,q b->PB lo B w v b){m:Nat}(hm:ts.length=m)(hlen:m<=1000000){m2:Nat}(hm2:l.length=m2)(hlen2:m2<=1000000)
  {ops:Array Oper} {rest:List Oper} {o:Oper} {a:Act} {Q:Exit->Act->Bb->Prop} (hgd:o.guard=none) (s x:Operand)
  (ho : o.op = .call { callee := .builtin .append, args := #[s, x], argTypes := #[29, 29] }) (hse : a.eval s = v) (hx : a.eval x = .slice L m2 cl)
  (h : ∀ A' c' w', PartR lo B w' (.slice A' (m + m2) c') (ts ++ l) -> Below B w w' -> w.grownBy w' v.ownBlock -> (∀ b, b < w.heap.size -> v.ownBlock ≠ some b -> (Value.slice A' (m + m2) c').ownBlock ≠ some b) -> wpList prog ops Q rest (a.put o.dst (.slice A' (m + m2) c')) w') :
  wpList prog ops Q (o::rest) a w:=by
 subst hm hm2;refine wpList_plain hgd λK hK=>?_
 obtain ⟨v',w',hrun,h2,h3,h4,h5⟩:=vE (cl:=cl) hp hB hr hq hlen hlen2 o.type;unfold Oper.wp execOp;simp only [ho,resolve,invoke,builtin,Sem.run_bind,Sem.run_pure,Result.andThen_ok,List.map_toArray,List.map_cons,List.map_nil,hse,hx,hrun];obtain ⟨A',c',rfl⟩:=h2.shape;rw [List.length_append] at h2⊢;exact hK _ _ (h A' c' w' h2 h3 h4 (by rw [List.length_append] at h5;exact h5))
end
section
open Go.ChangeShapes Go.WideShapes Go.ChangeAt Go.RowKit Go.Deep Go.Joins
section
variable {H:Type}{enc:TypeId × Value->H}{W:Bb}{base:Nat}{spare:Nat->Bool}{kL:Bool}
theorem aCt {P:Program}{t:TypeId}{f0 f1 f2:Field}{fuel:Nat}{cs:List Value}{x:DataW H × List MemPlace}(ht:P.underlying t=some (.struct #[f0,f1,f2]))(h:DataW.trod enc P W base spare kL fuel t cs=some x) :
  ∃y0 y1 y2 n,n<fuel/\cs.length=P.cellsOf t/\DataW.trod enc P W base spare kL n f0.type ((cs.drop f0.offset).take (P.cellsOf f0.type))=some y0/\
   DataW.trod enc P W base spare kL n f1.type ((cs.drop f1.offset).take (P.cellsOf f1.type))=some y1/\DataW.trod enc P W base spare kL n f2.type ((cs.drop f2.offset).take (P.cellsOf f2.type))=some y2:=by
 obtain ⟨xs,n,rfl,rfl,hl,hlen,hf⟩:=DataW.trod_struct ht h;match xs,hlen with
 | [y0,y1,y2],_=>exact ⟨y0,y1,y2,n,mV _,hl,by simpa using hf 0 f0 rfl,by simpa using hf 1 f1 rfl,by simpa using hf 2 f2 rfl⟩
theorem zO {n:Nat}{cs:List Value}{y:DataW H × List MemPlace}(h:DataW.trod enc prog W base spare kL n 24 cs=some y) :
  ∃(k m:Int) (v:Value) (z:DataW H × List MemPlace) (n':Nat),cs=[.int .i64 k,.int .i64 m,v]/\n'<n/\DataW.trod enc prog W base spare kL n' 22 [v]=some z:=by
 obtain ⟨y0,y1,y2,n',hn,hl,h0,h1,h2⟩:=aCt Tryz.underlying24 h;have hC:prog.cellsOf 24=3:=by kernel_rfl
 have hC3:prog.cellsOf 3=1:=by kernel_rfl
 have hC22:prog.cellsOf 22=1:=by kernel_rfl
 rw [hC] at hl;match cs,hl with
 | [c0,c1,c2],_=>
  dsimp only at h0 h1 h2
  rw [hC3] at h0 h1;rw [hC22] at h2;obtain ⟨k,hk,_⟩:=DataW.trod_int Tryz.underlying3 h0;obtain ⟨m,hm,_⟩:=DataW.trod_int Tryz.underlying3 h1;simp at hk hm;subst hk;subst hm;exact ⟨k,m,c2,_,n',rfl,hn,by simpa using h2⟩
theorem wV:∀(fuel:Nat) (v:Value) (x:DataW H × List MemPlace),DataW.trod enc prog W base spare kL fuel 22 [v]=some x->
  ∃(ks:List Tm) (A:Ba) (c:Nat),v = .slice A ks.length c/\ks.length<=9223372036854775807/\Rd W A 0 ks:=by
 intro fuel;induction fuel using Nat.strongRecOn with
 | _ fuel ih=>
 intro v x h;rcases DataW.trod_slice Tryz.underlying22 h with ⟨hv,_⟩|⟨a,len,cap,elems,rest,n,rfl,hv,rfl,hb,hl,hm,hlen,hel,_,_⟩
 ·simp at hv;subst hv;exact ⟨[],none,0,rfl,by simp,by rw [Rd];trivial⟩
 ·simp at hv;subst hv;have hC:prog.cellsOf 24=3:=by kernel_rfl
  simp only [hC] at hel;have hmax:maxLen<=9223372036854775807:=by decide
  have hat:∀i,i<len->∃(k m:Int) (u:Value) (z:DataW H × List MemPlace) (n':Nat),n'<n+1/\DataW.trod enc prog W base spare kL n' 22 [u]=some z/\
    W.cell? ((a.add (i*3)).add 0)=some (.int .i64 k)/\W.cell? ((a.add (i*3)).add 1)=some (.int .i64 m)/\W.cell? ((a.add (i*3)).add 2)=some u:=by
   intro i hi;have hx:=hel i hi;rw [sE Ac] at hx;obtain ⟨cs',h1,h2⟩:=Option.bind_eq_some_iff.1 hx;obtain ⟨k,m,u,z,n',rfl,hn,hz⟩:=zO h2;obtain ⟨_,_,hc⟩:=World.cells?_some h1;exact ⟨k,m,u,z,n',by omega,hz,hc 0 Ac,hc 1 Ac,hc 2 Ac⟩
  obtain ⟨b,off,spot⟩:=a;by_cases hz:len=0
  ·subst hz;exact ⟨[],some ⟨b,off,spot⟩,cap,rfl,by simp,by rw [Rd];trivial⟩
  ·have hspot:spot=none:=by
    obtain ⟨k,m,u,z,n',_,_,h0,_⟩:=hat 0 Ac;have:=World.cell?_spot h0;simpa [Addr.add] using this
   subst hspot;have hall:∀m i,i+m=len->∃ks:List Tm,ks.length=m/\Rd W (some ⟨b,off,none⟩) i ks:=by
    intro m;induction m with
    | zero=>intro i _;exact ⟨[],rfl,by rw [Rd];trivial⟩
    | succ m ihm=>
     intro i hi;obtain ⟨ts,hts,hrs⟩:=ihm (i+1) Ac;obtain ⟨k,q,u,z,n',hn,hz',h0,h1,h2⟩:=hat i Ac;rw [add_plain,add_plain] at h0 h1 h2;obtain ⟨ks,A,c,rfl,hlk,hrk⟩:=ih n' hn u z hz';exact ⟨.mk k q ks::ts,by simp [hts],Rd.cons_iff.2 ⟨⟨b,off,rfl,RdC.iff.2 ⟨h0,h1,A,c,h2,hlk,hrk⟩⟩,hrs⟩⟩
   obtain ⟨ks,hks,hrk⟩:=hall len 0 Ac;subst hks;exact ⟨ks,some ⟨b,off,none⟩,cap,rfl,by omega,hrk⟩
theorem aKb {r:Reach}{b0:Nat}{v:Value}{d:DataW H}{p:List MemPlace}(hv:Value.okWide prog W r b0 24 v)(h:DataW.Trod enc prog W base spare kL 24 v d p) :
  ∃(k n:Int) (ks:List Tm) (A:Ba) (c:Nat),v = .agg (Ro k n A ks.length c)/\ks.length<=9223372036854775807/\Rd W A 0 ks:=by
 obtain ⟨cs,rfl,hsz⟩:=okWide_struct Tryz.underlying24 hv;obtain ⟨fuel,hf⟩:=h;obtain ⟨k,n,u,z,n',hcs,_,hz⟩:=zO hf;obtain ⟨ks,A,c,rfl,hl,hr⟩:=wV n' u z hz;refine ⟨k,n,ks,A,c,?_,hl,hr⟩;have:cs.toList=[.int .i64 k,.int .i64 n,.slice A ks.length c]:=by simpa [Value.cells] using hcs
 cases cs;simp at this;rw [this]
end
section
variable {H:Type}{enc:TypeId × Value->H}{P:Program}
theorem aHc {f:Func}{s:ChangeSpec}{apart fresh handsOn again:Bool}{W W':Bb}{args:Array Value}{v:Value}{ds gs:List (DataW H)}{before pa pv:List MemPlace}
  (hW : DataW.Whole enc P f.params.toList s.vars apart W args.toList ds gs before)
  (hres : ∀ (b : Nat) (sp : Nat -> Bool) (hd : Bool), DataW.TrodAll enc P W' b sp hd f.resultTypes.toList (v.resultList f.resultTypes.size) (s.fn H (ds ++ gs)).results [])
  (hargs : ∀ sp : Nat -> Bool, (∀ p ∈ before, sp p.block = true) -> DataW.TrodAll enc P W' 0 sp true f.params.toList args.toList (s.fn H (ds ++ gs)).args pa)
  (hvars : ∀ sp : Nat -> Bool, (∀ p ∈ before, sp p.block = true) -> DataW.TrodVars enc P W' sp s.vars (s.fn H (ds ++ gs)).vars pv)
  (hps : before = pa ++ pv) (hb : Bw W W')
  (hok : ∀ (j : Nat) (t : TypeId) (r : Value), f.resultTypes[j]? = some t -> (v.resultList f.resultTypes.size)[j]? = some r -> Value.okWide P W' .any 0 t r) :
  s.post enc P f apart fresh handsOn again W args v W':=by
 have hlt:∀p∈before,p.block<W.heap.size:=λp hp=>hW.lt p hp
 have hold:∀p∈before,(λb=>decide (b<W.heap.size)) p.block=true:=λp hp=>by simpa using hlt p hp
 refine ⟨ds,gs,before,[],pa,pv,hW,hres _ _ _,hargs _ hold,hvars _ hold,World.keptBut_mono (λp hp=>⟨hp,?_⟩) (hb.frame (·∈before)),λ_=>?_⟩
 ·rw [hps,List.mem_append] at hp;exact Or.inr hp
 ·obtain ⟨_,_,_,_,_,hz,hn⟩:=hW;refine ⟨hok,_,_,([]++pa)++pv,⟨[]++pa,pv,trodAll_append (hargs _ (λ_ _=>rfl)) (hres _ _ _),hvars _ (λ_ _=>rfl),rfl,?_,?_⟩,?_⟩
  ·intro b off hp;have hin:MemPlace.cell b off∈before:=by rw [hps];simpa using hp
   rw [hb.frozen (hlt _ hin)];exact hz b off hin
  ·intro ha;have:=hn ha;rw [hps] at this;simpa using this
  ·intro p hp _;rw [hps];simpa using hp
end
theorem aLm {H:Type}{enc:TypeId × Value->H}{W:Bb}{base:Nat}{spare:Nat->Bool}{kL:Bool}{r:Reach}{b0:Nat}{v:Value}{d:DataW H}{p:List MemPlace}(hv:Value.okWide prog W r b0 22 v)(h:DataW.Trod enc prog W base spare kL 22 v d p) :
  ∃(ks:List Tm) (A:Ba) (c:Nat),v = .slice A ks.length c/\ks.length<=9223372036854775807/\Rd W A 0 ks:=by
 obtain ⟨a,len,cap,rfl⟩:=Go.WideShapes.okWide_slice Tryz.underlying22 hv;obtain ⟨fuel,hf⟩:=h;exact wV fuel _ _ hf
end
end Go.Proofs.YtjlaenhcemacdaaGreat
