/- Parts of the proof. No condition. -/
import Derived.Test.YtajjhldcjikkpaaGreatK13
import Derived.Test.YtajjhldcjikkpaaGreatK15
open Go.Proofs.Tryz
namespace Go.Proofs.YtajjhldcjikkpaaGreat
open Go.RowKit
set_option maxHeartbeats 8000000
set_option maxRecDepth 100000
set_option linter.unusedSimpArgs false
set_option linter.unusedVariables false
mutual
def cE (d:Int):Tm→Bool
 | .mk k n ks=>(!(k==1 && decide (d≤n))) && gO d k 0 ks
def gO (d k:Int)(i:Nat):List Tm→Bool
 | []=>true
 | t::ts=>cE (d+aR k i) t && gO d k (i+1) ts
end
theorem aIm {d k:Int}:∀{ks:List Tm} {i j:Nat},gO d k i ks=true→(h:j<ks.length)→cE (d+aR k ((i+j:Nat):Int)) ks[j]=true
 | t::ts,i,0,h,_=>by rw [gO,Bool.and_eq_true] at h;simpa using h.1
 | t::ts,i,j+1,h,hj=>by
  rw [gO,Bool.and_eq_true] at h;have:=aIm (i:=i+1) (j:=j) h.2 (by simpa using hj);rw [show i+1+j=i+(j+1) from by omega] at this;simpa using this
theorem mL {d k n:Int}{ks:List Tm}(h:cE d (.mk k n ks)=true)(hk:k=1):n<d:=by
 rw [cE,Bool.and_eq_true] at h;have h1:=h.1;subst hk;by_cases hd:d≤n
 ·simp [hd] at h1
 ·omega
theorem jR {d k n:Int}{ks:List Tm}(h:cE d (.mk k n ks)=true)(j:Nat):cE (d+aR k (j:Int)) (aI ks j)=true:=by
 rw [cE,Bool.and_eq_true] at h;by_cases hj:j<ks.length
 ·have:=aIm (i:=0) h.2 hj;rw [Nat.zero_add] at this;simpa [aI,List.getD,oE hj] using this
 ·have:aI ks j=default:=by simp [aI,List.getD,List.getElem?_eq_none (Nat.le_of_not_lt hj)]
  rw [this];rfl
theorem kD {d k n:Int}{ks:List Tm}(h1:k=1→n<d)(h2:gO d k 0 ks=true):cE d (.mk k n ks)=true:=by
 rw [cE,h2,Bool.and_true];by_cases hk:k=1
 ·have:=h1 hk;simp;omega
 ·simp [hk]
theorem mF {d k n:Int}{ks:List Tm}(h:cE d (.mk k n ks)=true):gO d k 0 ks=true:=by
 rw [cE,Bool.and_eq_true] at h;exact h.2
theorem xS (k:Int)(i:Int):0≤aR k i:=by unfold aR;split<;>omega
theorem aHj (b:Int)(hb:0≤b):(∀(t:Tm) (d c:Int),cE d t=true→cE (d+b) (eZ b c t)=true)∧
  (∀ (ts : List Tm) (k d c : Int) (i : Nat), gO d k i ts = true → gO (d + b) k i (cP b k c i ts) = true) := by
 refine bO (fun k n ks ih d c h=>?_) (fun k d c i h=>rfl) (fun t ts h1 h2 k d c i h=>?_)
 ·rw [eZ];refine kD (fun hk=>?_) (ih _ _ _ _ (mF h));have:=mL h hk;split<;>omega
 ·rw [gO,Bool.and_eq_true] at h;rw [cP,gO,Bool.and_eq_true];refine ⟨?_,h2 _ _ _ _ h.2⟩;have:=h1 _ (c+aR k i) h.1;rwa [show d+aR k (i:Int)+b=d+b+aR k (i:Int) by omega] at this
theorem aSm (u:Tm)(d0:Int)(h0:0≤d0)(hu:cE d0 u=true):(∀(t:Tm) (e:Int),0≤e→cE (d0+1+e) t=true→cE (d0+e) (dC u e e t)=true)∧
  (∀ (ts : List Tm) (k e : Int) (i : Nat), 0 ≤ e → gO (d0 + 1 + e) k i ts = true → gO (d0 + e) k i (cQ u k e e i ts) = true) := by
 refine bO (fun k n ks ih e he h=>?_) (fun k e i he h=>rfl) (fun t ts h1 h2 k e i he h=>?_)
 ·rw [dC];split
  ·exact (aHj e he).1 u d0 0 hu
  ·rename_i hne
   refine kD (fun hk=>?_) (ih _ _ _ he (mF h));have:=mL h hk;have h3:n≠e:=fun h4=>hne ⟨hk,h4⟩
   split
   ·omega
   ·rename_i h5
    have:¬e<n:=fun h6=>h5 ⟨hk,h6⟩
    omega
 ·rw [gO,Bool.and_eq_true] at h;rw [cQ,gO,Bool.and_eq_true];refine ⟨?_,h2 _ _ _ he h.2⟩;have h3:=h.1;rw [show d0+1+e+aR k (i:Int)=d0+1+(e+aR k (i:Int)) by omega] at h3;have:=h1 (e+aR k i) (by have:=xS k i;omega) h3;rwa [show d0+(e+aR k (i:Int))=d0+e+aR k (i:Int) by omega] at this
theorem xI {u t:Tm}{d:Int}(h0:0≤d)(hu:cE d u=true)(ht:cE (d+1) t=true):cE d (dC u 0 0 t)=true:=by
 have:=(aSm u d h0 hu).1 t 0 (by omega) (by simpa using ht);simpa using this
theorem aEu {d k:Int}{u:Tm}:∀{ks:List Tm} {i j:Nat},gO d k i ks=true→cE (d+aR k ((i+j:Nat):Int)) u=true→gO d k i (ks.set j u)=true
 | [],i,j,h,hu=>h
 | t::ts,i,0,h,hu=>by
  rw [gO,Bool.and_eq_true] at h;rw [List.set_cons_zero,gO,Bool.and_eq_true];exact ⟨by simpa using hu,h.2⟩
 | t::ts,i,j+1,h,hu=>by
  rw [gO,Bool.and_eq_true] at h;rw [List.set_cons_succ,gO,Bool.and_eq_true];exact ⟨h.1,aEu (i:=i+1) (j:=j) h.2 (by rw [show i+1+j=i+(j+1) from by omega];exact hu)⟩
theorem nJ {t u:Tm}(h:vO t=some u):u=t:=by
 unfold vO at h
 split at h
 ·injection h with h;exact h.symm
 ·cases h
theorem lR {k:Int}(h:k≠3∧k≠4∧k≠13)(i:Int):aR k i=0:=by
 unfold aR binds
 split
 ·rename_i h2
  simp [h.1,h.2.1,h.2.2] at h2
 ·rfl
theorem kG {k n:Int}{ks:List Tm}(hv:aE (.mk k n ks)=true){j:Nat}(hj:j<ks.length):aE (aI ks j)=true:=by
 have:=aL hv (iS hj);simpa [aI,List.getD,oE hj] using this
theorem mG {d k n:Int}{ks:List Tm}(hk:k≠3∧k≠4∧k≠13)(h:cE d (.mk k n ks)=true)(j:Nat):cE d (aI ks j)=true:=by
 have:=jR h j;rwa [lR hk,Int.add_zero] at this
theorem headP_cls:(∀(t:Tm) (p:List Int),bS t=some p→∀d u,cE d t=true→lC t p=some u→cE d u=true∧∀v,cE d v=true→cE d (iT t p v)=true)∧
  (∀ (ts : List Tm) (i : Nat) (p : List Int), iO i ts = some p → i < ts.length ∧ ∀ d u, cE d (aI ts i) = true → lC (aI ts i) p = some u → cE d u = true ∧ ∀ v, cE d v = true → cE d (iT (aI ts i) p v) = true) := by
 refine bO (fun k n ks ih p hp d u hc hu=>?_) (fun i p hp=>by rw [iO] at hp;cases hp) (fun t ts h1 h2 i p hp=>?_)
 ·rw [bS] at hp;split at hp
  ·split at hp
   ·cases hp
   ·rename_i hm
    cases h:iO (dD k).toNat ks with
    | none=>rw [h] at hp;cases hp
    | some q=>
     rw [h] at hp;injection hp with hp;subst hp;obtain ⟨hj,h3⟩:=ih _ _ h;have hmk:k≠3∧k≠4∧k≠13:=by unfold dD at hm;(repeat' split at hm)<;>omega
     rw [show dD k=((dD k).toNat:Int) from by omega,oU hj] at hu;have hg:aI ks (dD k).toNat=ks[(dD k).toNat]:=by simp [aI,List.getD,oE hj]
     rw [← hg] at hu;obtain ⟨h4,h5⟩:=h3 d u (mG hmk hc _) hu;refine ⟨h4,fun v hv=>?_⟩;rw [iT];refine kD (fun hk=>mL hc hk) (aEu (mF hc) ?_);rw [lR hmk,Int.add_zero];exact h5 v hv
  ·injection hp with hp;subst hp;rw [lC] at hu;injection hu with hu;subst hu;exact ⟨hc,fun v hv=>hv⟩
 ·cases i with
  | zero=>
   rw [iO] at hp;exact ⟨by simp,fun d u hc hu=>h1 p hp d u hc hu⟩
  | succ i=>
   rw [iO] at hp;obtain ⟨hj,h3⟩:=h2 i p hp;exact ⟨by simp;omega,fun d u hc hu=>h3 d u (by simpa [aI] using hc) (by simpa [aI] using hu)⟩
theorem aBo {ks:List Tm}{i:Nat}{x:Int}(h:gV ks i=x)(hx:x≠0):∃m l,aI ks i = .mk x m l:=by
 unfold gV at h
 unfold aI
 cases he:ks.getD i default with
 | mk a b l=>rw [he] at h;exact ⟨b,l,by rw [← h];rfl⟩
theorem aLk {t v:Tm}{d:Int}(h0:0≤d)(hv:aE t=true)(hc:cE d t=true)(h:pT t=some v):cE d v=true:=by
 obtain ⟨k,n,ks⟩:=t;have har:=(aX hv).1;have hr:cH k ks=1∨cH k ks=2∨cH k ks=3∨cH k ks=4∨cH k ks=5∨cH k ks=6:=by
  rw [pT] at h;by_cases h1:cH k ks=1
  ·exact .inl h1
  by_cases h2:cH k ks=2
  ·exact .inr (.inl h2)
  by_cases h3:cH k ks=3
  ·exact .inr (.inr (.inl h3))
  by_cases h4:cH k ks=4
  ·exact .inr (.inr (.inr (.inl h4)))
  by_cases h5:cH k ks=5
  ·exact .inr (.inr (.inr (.inr (.inl h5))))
  by_cases h6:cH k ks=6
  ·exact .inr (.inr (.inr (.inr (.inr h6))))
  simp [h1,h2,h3,h4,h5,h6] at h
 have hK:k=5∨k=9∨k=12∨k=15∨k=16:=by
  by_cases hk:k=5∨k=9∨k=12∨k=15∨k=16
  ·exact hk
  ·rw [tL ks hk] at hr;omega
 have hnb:k≠3∧k≠4∧k≠13:=by omega
 have hkid:=fun j=>mG hnb hc j
 rw [pT] at h;have hrx:cH k ks=cH k ks:=rfl;conv at hrx=>lhs;unfold cH
 rcases hr with r|r|r|r|r|r
 ·rw [if_pos r] at h;rw [r] at hrx;have hk5:k=5:=by (repeat' split at hrx)<;>first|assumption|(exfalso;omega)
  subst hk5;simp only [if_true] at hrx
  have hk4:gV ks 0=4:=by split at hrx<;>first|assumption|(exfalso;omega)
  have hl:ks.length=2:=by have h3:aK 5=2:=rfl;omega
  obtain ⟨m,l,hm⟩:=aBo hk4 (by decide);have hv0:=kG hv (j:=0) (by omega);have hv1:=kG hv (j:=1) (by omega);have hc0:=hkid 0;rw [hm] at hv0 h hc0;have hl2:l.length=2:=by have:=(aX hv0).1;have h3:aK 4=2:=rfl;omega
  have hvb:=kG hv0 (j:=1) (by omega);rw [show (Tm.mk 4 m l).ks=l from rfl,nC hv1 hvb] at h;rw [nJ h];exact xI h0 (hkid 1) (jR hc0 1)
 ·rw [if_neg (by omega),if_pos r] at h;rw [nJ h];exact hkid 1
 ·rw [if_neg (by omega),if_neg (by omega),if_pos r] at h;rw [r] at hrx;have hk9:k=9:=by (repeat' split at hrx)<;>first|assumption|(exfalso;omega)
  subst hk9;simp only [show ¬(9:Int)=5 by decide,if_true,if_false] at hrx
  have hk8:gV ks 3=8:=by (repeat' split at hrx)<;>first|assumption|(exfalso;omega)
  obtain ⟨m,l,hm⟩:=aBo hk8 (by decide);rw [hm] at h;have hc3:=hkid 3;rw [hm] at hc3;have hcx:=mG (by decide) hc3 0;rw [nJ h];have u5:∀i,aR 5 i=0:=lR (by decide);have u9:∀i,aR 9 i=0:=lR (by decide);have ha:=hkid 0;have hb:=hkid 1;have he:=hkid 2;refine kD (fun h=>absurd h (by decide)) ?_;have hcx':cE d (aI l 0)=true:=hcx;simp [gO,cE,u5,u9,ha,hb,he,hcx',Tm.ks]
 ·rw [if_neg (by omega),if_neg (by omega),if_neg (by omega),if_pos r] at h;rw [nJ h];exact hkid 2
 ·rw [if_neg (by omega),if_neg (by omega),if_neg (by omega),if_neg (by omega),if_pos r] at h;rw [r] at hrx;have hk:k=15:=by (repeat' split at hrx)<;>first|assumption|(exfalso;omega)
  subst hk;simp only [show ¬(15:Int)=5 by decide,show ¬(15:Int)=9 by decide,show ¬(15:Int)=12 by decide,if_true,if_false] at hrx
  have hk8:gV ks 0=14:=by (repeat' split at hrx)<;>first|assumption|(exfalso;omega)
  obtain ⟨m,l,hm⟩:=aBo hk8 (by decide);have hc3:=hkid 0;rw [hm] at hc3 h;rw [nJ h];exact mG (by decide) hc3 1
 ·rw [if_neg (by omega),if_neg (by omega),if_neg (by omega),if_neg (by omega),if_neg (by omega),if_pos r] at h;rw [r] at hrx;have hk:k=16:=by (repeat' split at hrx)<;>first|assumption|(exfalso;omega)
  subst hk;simp only [show ¬(16:Int)=5 by decide,show ¬(16:Int)=9 by decide,show ¬(16:Int)=12 by decide,show ¬(16:Int)=15 by decide,if_true,if_false] at hrx
  have hk8:gV ks 0=14:=by (repeat' split at hrx)<;>first|assumption|(exfalso;omega)
  obtain ⟨m,l,hm⟩:=aBo hk8 (by decide);have hc3:=hkid 0;rw [hm] at hc3 h;rw [nJ h];exact mG (by decide) hc3 2
theorem aOr {d:Int}(h0:0≤d):∀(f:Nat) (t o:Tm) (c:Int),aE t=true→cE d t=true→redI bS f t=(some o,c)→cE d o=true:=by
 intro f;induction f with
 | zero=>
  intro t o c hv hc h;rw [redI] at h;cases hp:bS t with
  | none=>rw [hp] at h;injection h with h _;injection h with h;subst h;exact hc
  | some p=>rw [hp] at h;cases h
 | succ f ih=>
  intro t o c hv hc h;rw [redI] at h;cases hp:bS t with
  | none=>rw [hp] at h;injection h with h _;injection h with h;subst h;exact hc
  | some p=>
   rw [hp] at h;simp only at h
   cases hq:lX t p with
   | none=>rw [hq] at h;cases h
   | some t'=>
    rw [hq] at h;simp only at h
    unfold lX at hq
    cases hu:lC t p with
    | none=>rw [hu] at hq;cases hq
    | some u=>
     rw [hu] at hq;simp only at hq
     cases hw:pT u with
     | none=>rw [hw] at hq;cases hq
     | some v=>
      rw [hw] at hq;simp only at hq
      obtain ⟨h1,h2⟩:=headP_cls.1 t p hp d u hc hu;have h3:=aLk h0 (mT hu hv) h1 hw;refine ih t' o c (kW hq) ?_ h;rw [nJ hq];exact h2 v h3
theorem aRu {s o:Tm}{d:Int}(h0:0≤d)(hc:cE d s=true)(hv:aE s=true)(h:redI bS 200 s=(some o,0)):cE d o=true:=aOr h0 200 s o 0 hv hc h
theorem fI {α:Type}{a b:α}(h:some (Rs.ok a)=some (Rs.ok b)):a=b:=by injection h with h;injection h
theorem bY {α β:Type}{o:Option (Rs α)}{f:α→Option (Rs β)}{b:β}(h:bd o f=some (.ok b)):∃a,o=some (.ok a)∧f a=some (.ok b):=by
 rcases aO h with ⟨c,_,hc⟩|h
 ·cases hc
 ·exact h
theorem aHe {a b:Tm}(h:smR a b = .ok ()):aEe a b=true∧aE b=true:=by
 unfold smR at h
 split at h
 ·rename_i hv
  split at h
  ·rename_i hc
   simp [aEe,hv.1,hv.2,hc]
  ·split at h<;>cases h
 ·cases h
theorem rH {b:Int}{t:Tm}(hb:0≤b)(ht:aE t=true)(hv:aE (eZ b 0 t)=true):cG b 0 t=some (eZ b 0 t):=by
 have h1:=yZ hb (bD ht) hv;have h2:=lO (bD ht) h1;obtain ⟨v,h3⟩:=Option.isSome_iff_exists.1 h1;rw [h3] at h2⊢;exact congrArg some h2
def Tele (ctx:List Tm):Prop:=∀(i:Nat) (h:i<ctx.length),cE (i:Int) ctx[i]=true∧aE ctx[i]=true
theorem Tele.push {ctx:List Tm}{a:Tm}(h:Tele ctx)(hc:cE (ctx.length:Int) a=true)(hv:aE a=true):Tele (ctx++[a]):=by
 intro i hi;by_cases hlt:i<ctx.length
 ·rw [List.getElem_append_left hlt];exact h i hlt
 ·have:i=ctx.length:=by simp at hi;omega
  subst this;simpa using ⟨hc,hv⟩
theorem aXi {k:Int}(hk:k≠1∧k≠3∧k≠4∧k≠13){d n:Int}{a b:Tm}(ha:cE d a=true)(hb:cE d b=true):cE d (.mk k n [a,b])=true:=by
 have hu:=lR (k:=k) ⟨hk.2.1,hk.2.2.1,hk.2.2.2⟩;exact kD (fun h=>absurd h hk.1) (by simp [gO,hu,ha,hb])
theorem mC {k n d:Int}(hk:k≠1):cE d (.mk k n [])=true:=kD (fun h=>absurd h hk) rfl
theorem pE {k:Int}(h:0≤aK k)(e3:¬(k=3∨k=13))(e4:¬k=4)(e5:¬k=5)(e9:¬k=9)(e10:¬k=10)(e12:¬k=12)(e14:¬k=14)(e1:¬k=1)(e2:¬k=2)(e6:¬k=6)(e7:¬k=7)(e8:¬k=8)(e11:¬k=11):k=15∨k=16:=by
 by_cases h15:k=15
 ·exact .inl h15
 by_cases h16:k=16
 ·exact .inr h16
 unfold aK at h
 rw [if_neg e1,if_neg e2,if_neg e6,if_neg e7,if_neg e8,if_neg e11,if_neg h15,if_neg h16,if_neg (fun h=>e3 (.inl h)),if_neg e4,if_neg e5,if_neg (fun h=>e3 (.inr h)),if_neg e10,if_neg e12,if_neg e14,if_neg e9] at h;omega
def pC (w:World):Rs Tm→Ending→World→Prop
 | .ok (.mk k n ks)=>fD w k n ks
 | .no b=>fun e w'=>e = .returned (.tuple #[.agg Zr,.int .i64 (dL b)])∧Bw w w'
def GtC (w:World)(r:Rs Unit)(e:Ending)(w':World):Prop:=e = .returned (.int .i64 r.cd)∧Bw w w'
theorem eN (b:Bool):(dL b != 0)=true:=by cases b<;>decide
theorem aAa:∀(f:Nat) (t:Tm),(redI bS f t).1=none→(redI bS f t).2≠0
 | f,t,h=>by
  rw [redI] at h⊢;cases hp:bS t with
  | none=>rw [hp] at h;cases h
  | some p=>
   rw [hp] at h;cases f with
   | zero=>simp
   | succ f=>
    simp only at h⊢
    cases hc:lX t p with
    | none=>simp
    | some u=>rw [hc] at h;exact aAa f u h
theorem aQa {s:Tm}{b:Bool}(hv:aE s=true)(h:lU s = .no b):b=false∧∃c,redI bS 200 s=(none,c)∧c≠0:=by
 unfold lU at h
 rw [if_pos hv] at h;have hc:=aAa 200 s;cases hh:redI bS 200 s with
 | mk o c=>
  rw [hh] at h hc;cases o with
  | some o=>cases h
  | none=>injection h with h;exact ⟨h.symm,c,rfl,hc rfl⟩
theorem aBq {s o:Tm}{kind:Int}(h:lU s = .ok o)(hk:o.k=kind):oD s kind=some o:=by
 have:=eL h;unfold oD
 rw [if_pos this.1,this.2.2];simp [hk]
theorem iA (k1 n1:Int)(s1:List Tm)(A1:Option Addr)(c1:Nat)(kind:Int)(r:Rs Tm)(w:World)(hv:aE (.mk k1 n1 s1)=true)(hs:bd (some (lU (.mk k1 n1 s1))) (gU kind)=some r)(hr:Rd w A1 0 s1) :
  Calls prog 80 #[.agg (Ro k1 n1 A1 s1.length c1),.int .i64 kind] w (pC w r):=by
 rcases aO hs with ⟨b,h1,rfl⟩|⟨o,h1,h2⟩
 ·obtain ⟨rfl,cc,hh,hc⟩:=aQa hv (Option.some.inj h1);have hH:=aD (fun (w:World) (hr:Rd w A1 0 s1)=>(qY k1 n1 s1 A1 c1 200 w hv (by omega) hr).mono fun e w' h=>sJ h (k:=0) (n:=0) (ks:=[]) (c:=cc) (by rw [hh];rfl) (by rw [hh]));have qc:(cc != 0)=true:=by simpa using hc
  clear hs h1 hh hc hv;go_enter func80,ntmps80;go_wp2_with (go_at_call 99;refine (hH.out _ ((hr.alloc _).alloc _)).mono ?_;rintro e w1 ⟨A3,c3,rfl,hl3,r3,hb1⟩;have hZ:=bH hb1;have g1:Bw w w1:=bQ bw2 hb1;obtain ⟨d0,d1,d2,e0,e1,e2⟩:=bW hZ;have lz:=hZ.lt;have n1':w.heap.size+1≠w1.heap.size:=(by omega))
  have y:=fun (o:Obj)=>(((((hZ.set_ 0 (.int .i64 0)).set_ 1 (.int .i64 0)).set_ 2 (.slice none 0 0)).alloc o:Blk _ _ Zr)).three
  refine bodyPost_ret (v:=.tuple #[.agg Zr,.int .i64 2]) (by simp [results,results80,go_sem,y,d0,d1,d2]) rfl ⟨rfl,?_⟩;exact (bT g1).alloc (by simp [World.setCell];exact g1.size) _
 ·obtain ⟨ko,no,os⟩:=o;by_cases hk:ko=kind
  ·subst hk;have h3:r = .ok (.mk ko no os):=by simpa [gU,Tm.k] using h2.symm
   subst h3;exact gZ k1 n1 s1 A1 c1 ko no os w (aBq (Option.some.inj h1) rfl) hr
  ·have h3:r = .no true:=by simpa [gU,Tm.k,hk] using h2.symm
   subst h3;have hh:=(eL (Option.some.inj h1)).2.2;have hH:=aD (fun (w:World) (hr:Rd w A1 0 s1)=>(qY k1 n1 s1 A1 c1 200 w hv (by omega) hr).mono fun e w' h=>sJ h (k:=ko) (n:=no) (ks:=os) (c:=0) (by rw [hh];rfl) (by rw [hh]));have qc:(ko != kind)=true:=by simpa using hk
   clear hs h1 hh hk hv h2;go_enter func80,ntmps80;go_wp2_with (go_at_call 99;refine (hH.out _ ((hr.alloc _).alloc _)).mono ?_;rintro e w1 ⟨A3,c3,rfl,hl3,r3,hb1⟩;have hZ:=bH hb1;have g1:Bw w w1:=bQ bw2 hb1;obtain ⟨d0,d1,d2,e0,e1,e2⟩:=bW hZ;have lz:=hZ.lt;have n1':w.heap.size+1≠w1.heap.size:=(by omega))
   have y:=fun (o:Obj)=>(((((hZ.set_ 0 (.int .i64 0)).set_ 1 (.int .i64 0)).set_ 2 (.slice none 0 0)).alloc o:Blk _ _ Zr)).three
   refine bodyPost_ret (v:=.tuple #[.agg Zr,.int .i64 1]) (by simp [results,results80,go_sem,y,d0,d1,d2]) rfl ⟨rfl,?_⟩;exact (bT g1).alloc (by simp [World.setCell];exact g1.size) _
theorem jI (k1 n1:Int)(s1:List Tm)(A1:Option Addr)(c1:Nat)(k2 n2:Int)(s2:List Tm)(A2:Option Addr)(c2:Nat)(w:World)(hv1:aE (.mk k1 n1 s1)=true)(hv2:aE (.mk k2 n2 s2)=true)(hr1:Rd w A1 0 s1)(hr2:Rd w A2 0 s2) :
  Calls prog 60 #[.agg (Ro k1 n1 A1 s1.length c1),.agg (Ro k2 n2 A2 s2.length c2)] w (GtC w (smR (.mk k1 n1 s1) (.mk k2 n2 s2))):=by
 have hC:=aD (fun (w:World) (hr1:Rd w A1 0 s1) (hr2:Rd w A2 0 s2)=>pL k1 n1 s1 A1 c1 k2 n2 s2 A2 c2 200 w (by omega) hv1 hv2 hr1 hr2);unfold smR
 rw [if_pos ⟨hv1,hv2⟩];by_cases h1:iP 200 (.mk k1 n1 s1) (.mk k2 n2 s2)=1
 ·rw [if_pos h1];rw [h1] at hC;clear hv1 hv2 h1;go_enter func60,ntmps60;go_wp2_with (go_at_call 10;refine (hC.out _ ((hr1.alloc _).alloc _) ((hr2.alloc _).alloc _)).mono ?_;rintro e w1 ⟨rfl,hb1⟩)
  go_ret
  exact ⟨rfl,bw2.trans (hb1.mono (by simp;omega))⟩
 rw [if_neg h1];by_cases h2:iP 200 (.mk k1 n1 s1) (.mk k2 n2 s2)=2
 ·rw [if_pos h2];rw [h2] at hC;clear hv1 hv2 h1 h2;go_enter func60,ntmps60;go_wp2_with (go_at_call 10;refine (hC.out _ ((hr1.alloc _).alloc _) ((hr2.alloc _).alloc _)).mono ?_;rintro e w1 ⟨rfl,hb1⟩)
  go_ret
  exact ⟨rfl,bw2.trans (hb1.mono (by simp;omega))⟩
 rw [if_neg h2];generalize iP 200 (.mk k1 n1 s1) (.mk k2 n2 s2)=x at *
 have q1:(x==1)=false:=by simpa using h1
 have q2:(x==2)=false:=by simpa using h2
 clear hv1 hv2 h1 h2;go_enter func60,ntmps60;go_wp2_with (go_at_call 10;refine (hC.out _ ((hr1.alloc _).alloc _) ((hr2.alloc _).alloc _)).mono ?_;rintro e w1 ⟨rfl,hb1⟩)
 go_ret
 exact ⟨rfl,bw2.trans (hb1.mono (by simp;omega))⟩
theorem jD (k1 n1:Int)(s1:List Tm)(A1:Option Addr)(c1:Nat)(w:World)(hM:aH s1≤1000000)(hv:aE (.mk k1 n1 s1)=false)(hr:Rd w A1 0 s1) :
  Calls prog 101 #[.agg (Ro k1 n1 A1 s1.length c1),.bool true] w fun e w'=>e = .returned (.tuple #[.agg Zr,.int .i64 2])∧Bw w w':=by
 have hv':=aD hv;clear hv;go_enter func101,ntmps101;go_wp2_with (go_at_call 28;refine (bM k1 n1 s1 A1 c1 _ (by omega) ((hr.alloc _).alloc _)).mono ?_;rw [hv'.out];rintro e w1 ⟨rfl,hb1⟩;have hZ:=bH hb1;have g1:Bw w w1:=bQ bw2 hb1;obtain ⟨d0,d1,d2,e0,e1,e2⟩:=bW hZ)
 refine bodyPost_ret (v:=.tuple #[.agg Zr,.int .i64 2]) (by simp [results,results101,go_sem,d0,d1,d2]) rfl ⟨rfl,?_⟩;exact bT g1
theorem oG (w:World):Calls prog 101 #[.agg Zr,.bool false] w fun e w'=>e = .returned (.tuple #[.agg Zr,.int .i64 2])∧Bw w w':=by
 go_enter func101,ntmps101;go_wp2_with fail
 refine bodyPost_ret (v:=.tuple #[.agg Zr,.int .i64 2]) (by simp [results,results101,go_sem]) rfl ⟨rfl,?_⟩;exact bw2
theorem aLv {w:World}{z:Nat}(hZ:Blk w z Zr):(∀t d b off i,shape d t=true→RdC w b off i t→RdPC (·≠z) w b off i t)∧(∀(ks:List Tm) d A i,(∀t,t∈ks→shape d t=true)→Rd w A i ks→RdP (·≠z) w A i ks):=by
 refine bO (fun k n ks ih d b off i hs hr=>?_) (fun d A i _ _=>RdP.nil) (fun t ts h1 h2 d A i hs hr=>?_)
 ·obtain ⟨d,rfl⟩:∃d',d=d'+1:=by cases d with|zero=>simp [shape] at hs|succ d=>exact ⟨d,rfl⟩
  obtain ⟨ha,_,_,hk⟩:=(bA d k n ks).1 hs;obtain ⟨c1,c2,A,c,c3,hl,hr'⟩:=RdC.iff.1 hr;refine RdPC.iff.2 ⟨fun e=>?_,c1,c2,A,c,c3,hl,ih d A 0 hk hr'⟩;subst e;have h0:k≠0:=by rintro rfl;have:aK 0 = -1:=rfl;omega
  rw [hZ.cell] at c1;generalize off+i*3=j at c1
  rcases j with _|_|_|j
  ·simp at c1;exact h0 c1.symm
  ·simp at c1;exact h0 c1.symm
  ·simp at c1
  ·simp at c1
 ·obtain ⟨⟨b,off,e,hc⟩,hr'⟩:=Rd.cons_iff.1 hr;exact RdP.cons_iff.2 ⟨⟨b,off,e,h1 d b off i (hs t (by simp)) hc⟩,h2 d A (i+1) (fun u hu=>hs u (by simp [hu])) hr'⟩
theorem iG {w:World}{z:Nat}{k n:Int}{ks:List Tm}{A:Option Addr}(hZ:Blk w z Zr)(hv:aE (.mk k n ks)=true)(hr:Rd w A 0 ks)(x y v:Value) :
  Rd (((w.setCell ⟨z,0,none⟩ x).setCell ⟨z,1,none⟩ y).setCell ⟨z,2,none⟩ v) A 0 ks:=by
 have hs:=((bA 29 k n ks).1 (aW hv)).2.2.2;exact (((((aLv hZ).2 ks 29 A 0 hs hr).setCell (a:=⟨z,0,none⟩) (fun h=>h rfl) x).setCell (a:=⟨z,1,none⟩) (fun h=>h rfl) y).setCell (a:=⟨z,2,none⟩) (fun h=>h rfl) v).rd
def aWw (w:World)(k n:Int)(ks:List Tm)(e:Ending)(w':World):Prop:=
 ∃A c,e = .returned (.tuple #[.agg (Ro k n A ks.length c),.int .i64 0])∧ks.length≤9223372036854775807∧Rd w' A 0 ks∧Bw w w'
def aYo (w:World)(b:Bool)(e:Ending)(w':World):Prop:=
 ∃(k n:Int) (A:Option Addr) (l c:Nat),e = .returned (.tuple #[.agg (Ro k n A l c),.int .i64 (dL b)])∧Bw w w'
def oH (w:World):Rs Tm→Ending→World→Prop
 | .ok (.mk k n ks)=>aWw w k n ks
 | .no b=>aYo w b
theorem aUz {s o:Tm}(h:lU s = .ok o):rI 200 s=(some o,0):=by
 have:=eL h;rw [pI 200 s this.1,this.2.2]
theorem aCt:∀(f:Nat) (t:Tm),(rI f t).1=none→(rI f t).2≠0
 | f,t,h=>by
  rw [rI] at h⊢;cases hs:dT t with
  | none=>rw [hs] at h;cases h
  | some u=>
   rw [hs] at h;cases f with
   | zero=>simp
   | succ f=>
    simp only at h⊢
    split at h
    ·rename_i hv;rw [if_pos hv];exact aCt f u h
    ·rename_i hv;rw [if_neg hv];simp
theorem aUs {s:Tm}{b:Bool}(hv:aE s=true)(h:lU s = .no b):b=false∧∃c,rI 200 s=(none,c)∧c≠0:=by
 unfold lU at h
 rw [if_pos hv,← pI 200 s hv] at h;have hc:=aCt 200 s;cases hh:rI 200 s with
 | mk o c=>
  rw [hh] at h hc;cases o with
  | some o=>cases h
  | none=>injection h with h;exact ⟨h.symm,c,rfl,hc rfl⟩
theorem sI (k n:Int)(ks:List Tm)(A:Option Addr)(c:Nat)(w:World)(hv:aE (.mk k n ks)=true)(hr:Rd w A 0 ks) :
  Calls prog 88 #[.agg (Ro k n A ks.length c)] w (oH w (lU (.mk k n ks))):=by
 have hM:=aJ hv;have hlen:=aQ ks;have hv':=aD hv;cases hR:lU (.mk k n ks) with
 | ok o=>
  have hvo:=aD (eL hR).2.1;obtain ⟨ko,no,os⟩:=o;have hh:=aD (aUz hR);clear hv hR;go_enter func88,ntmps88;go_wp2_with (first
   | (go_at_call 117;have _t:=tok;refine (zZ k n ks A c 200 (by omega) _ hv'.out (by omega) (hr.below g1)).mono ?_;rw [hh.out];rintro e w2 ⟨k3,n3,ks3,A3,c3,he3,rfl,hl3,hr3,hb3⟩;obtain ⟨rfl,rfl,rfl⟩:k3=ko∧n3=no∧ks3=os:=(by injection he3 with q1 q2 q3;exact ⟨q1.symm,q2.symm,q3.symm⟩);replace hZ:=(hZ.keep hb3).alloc (.cells (Ro k3 n3 A3 ks3.length c3) 25);have hK:=aC w2 25 (Ro k3 n3 A3 ks3.length c3) rfl;have s2:=hb3.size;have g2:=(g1.trans (hb3.mono g1.size)).alloc (by have:=g1.size;omega) (.cells (Ro k3 n3 A3 ks3.length c3) 25);have hr4:=hr3.rd.alloc (.cells (Ro k3 n3 A3 ks3.length c3) 25);obtain ⟨y0,y1,y2⟩:=hK.three;clear d0 d1 d2 e0 e1 e2;obtain ⟨d0,d1,d2,e0,e1,e2⟩:=bW hZ;have s3:=g2.size)
   | (go_at_call 21;refine (aU k n ks A c _ (by omega) ((hr.alloc _).alloc _)).mono ?_;rw [hv'.out];rintro e w1 ⟨rfl,hb1⟩;have hB:=cV hb1;have hZ:=bH hb1;have g1:Bw w w1:=bQ bw2 hb1;obtain ⟨x0,x1,x2⟩:=hB.three;obtain ⟨d0,d1,d2,e0,e1,e2,s1⟩:=dA hZ;have tok:=trivial))
  refine bodyPost_ret (v:=.tuple #[.agg (Ro k3 n3 A3 ks3.length c3),.int .i64 0]) (by simp [results,results88,go_sem,d0,d1,d2]) rfl ⟨A3,c3,rfl,hl3,iG hZ hvo.out hr4 _ _ _,?_⟩;exact bT g2
 | no b=>
  obtain ⟨rfl,cc,hh0,hcc⟩:=aUs hv hR;have hh:=aD hh0;have qc:(cc != 0)=true:=by simpa using hcc
  clear hv hR hh0 hcc;go_enter func88,ntmps88;go_wp2_with (first
   | (go_at_call 117;have _t:=tok;refine (zZ k n ks A c 200 (by omega) _ hv'.out (by omega) (hr.below g1)).mono ?_;rw [hh.out];rintro e w2 ⟨k3,n3,ks3,A3,c3,he3,rfl,hl3,hr3,hb3⟩;replace hZ:=(hZ.keep hb3).alloc (.cells (Ro k3 n3 A3 ks3.length c3) 25);have hK:=aC w2 25 (Ro k3 n3 A3 ks3.length c3) rfl;have s2:=hb3.size;have g2:=(g1.trans (hb3.mono g1.size)).alloc (by have:=g1.size;omega) (.cells (Ro k3 n3 A3 ks3.length c3) 25);obtain ⟨y0,y1,y2⟩:=hK.three;clear d0 d1 d2 e0 e1 e2;obtain ⟨d0,d1,d2,e0,e1,e2⟩:=bW hZ;have s3:=g2.size)
   | (go_at_call 21;refine (aU k n ks A c _ (by omega) ((hr.alloc _).alloc _)).mono ?_;rw [hv'.out];rintro e w1 ⟨rfl,hb1⟩;have hB:=cV hb1;have hZ:=bH hb1;have g1:Bw w w1:=bQ bw2 hb1;obtain ⟨x0,x1,x2⟩:=hB.three;obtain ⟨d0,d1,d2,e0,e1,e2,s1⟩:=dA hZ;have tok:=trivial))
  refine bodyPost_ret (v:=.tuple #[.agg Zr,.int .i64 2]) (by simp [results,results88,go_sem,d0,d1,d2]) rfl ⟨0,0,none,0,0,rfl,?_⟩;exact bT g2
theorem tK (k n:Int)(ks:List Tm)(A:Option Addr)(c:Nat)(k2 n2:Int)(s2:List Tm)(A2:Option Addr)(c2:Nat)(w:World)(hv:aE (.mk k n ks)=true)(hv2:aE (.mk k2 n2 s2)=true)(hr:Rd w A 0 ks)(hr2:Rd w A2 0 s2) :
  Calls prog 90 #[.agg (Ro k n A ks.length c),.agg (Ro k2 n2 A2 s2.length c2),.int .i64 200] w fun e w'=>e = .returned (.int .i64 (iP 200 (.mk k n ks) (.mk k2 n2 s2)))∧Bw w w':=by
 have hM:=aJ hv;have hM2:=aJ hv2;have hlen:=aQ ks;have hlen2:=aQ s2;have hv':=aD hv;have hv2':=aD hv2;have en:=fR 200 _ hv;have en2:=fR 200 _ hv2;obtain ⟨R1,hR1⟩:∃R,dJ 200 (.mk k n ks)=R:=⟨_,rfl⟩;obtain ⟨R2,hR2⟩:∃R,dJ 200 (.mk k2 n2 s2)=R:=⟨_,rfl⟩;obtain ⟨m,hm⟩:∃m,iP 200 (.mk k n ks) (.mk k2 n2 s2)=m:=⟨_,rfl⟩;rw [hm];rw [iP,← en,← en2,hR1,hR2] at hm;clear en en2;have P1:True:=trivial;by_cases hsame:iX (.mk k n ks) (.mk k2 n2 s2)=true
 ·rw [if_pos hsame] at hm;subst hm;have hsm:=aD hsame;clear hv hv2 hsame hR1 hR2;go_enter func90,ntmps90;go_wp2_with (go_at_call 126;refine (iZ _ k n ks A c k2 n2 s2 A2 c2 _ (qG _) (by omega) (by omega) ((hr.alloc _).alloc _) ((hr2.alloc _).alloc _)).mono ?_;rw [hsm.out];rintro e w1 ⟨rfl,hb1⟩;have hB:=cV hb1;have hB2:=bH hb1;have g1:Bw w w1:=bQ bw2 hb1;obtain ⟨x0,x1,x2⟩:=hB.three;obtain ⟨z0,z1,z2⟩:=hB2.three;have s1:=hB2.lt;have tok:=trivial)
  go_ret
  exact ⟨rfl,g1⟩
 rw [if_neg hsame] at hm;have hsm:=aD (Bool.eq_false_iff.2 hsame);have hR1':=aD hR1;have hR2':=aD hR2;clear hv hv2 hsame hR1 hR2;by_cases hc1:R1.2=0
 ·by_cases hc2:R2.2=0
  ·rw [if_neg (by rintro (h|h);exact h hc1;exact h hc2)] at hm;have q1:(R1.2 != 0)=false:=by simpa using hc1
   have q2:(R2.2 != 0)=false:=by simpa using hc2
   by_cases hse:iX (R1.1.getD (.mk 0 0 [])) (R2.1.getD (.mk 0 0 []))=true
   ·rw [if_pos hse] at hm;subst hm;have hss:=aD hse;clear hse hc1 hc2;go_enter func90,ntmps90;go_wp2_with (first
     | (go_at_call 126;have _t:=tok3;refine (iZ _ k3 n3 ks3 A3 c3 k4 n4 ks4 A4 c4 _ (qG _) hl3 hl4 hr7 hr6).mono ?_;rw [← he3'.out,← he4'.out,hss.out];rintro e w5 ⟨rfl,hb5⟩;have g4:=g3.trans (hb5.mono g3.size))
     | (go_at_call 24;have _t:=tok2;refine (dY dS k2 n2 s2 A2 c2 200 (by omega) _ hv2'.out (by omega) (hr2.below g2)).mono ?_;rw [hR2'.out];rintro e w3 ⟨k4,n4,ks4,A4,c4,he4,rfl,hl4,hr5,hb4⟩;have he4':=aD he4;clear he4;replace hK:=(hK.keep hb4).alloc (.cells (Ro k4 n4 A4 ks4.length c4) 25);have hL:=aC w3 25 (Ro k4 n4 A4 ks4.length c4) rfl;have g3:=(g2.trans (hb4.mono g2.size)).alloc (by have:=hb4.size;omega) (.cells (Ro k4 n4 A4 ks4.length c4) 25);have hr6:=hr5.rd.alloc (.cells (Ro k4 n4 A4 ks4.length c4) 25);have hr7:=(hr4.below hb4).alloc (.cells (Ro k4 n4 A4 ks4.length c4) 25);obtain ⟨y0,y1,y2⟩:=hK.three;obtain ⟨v0,v1,v2⟩:=hL.three;have s4':=g3.size;clear tok2;have tok3:=trivial)
     | (go_at_call 24;have _t:=tok;refine (dY dS k n ks A c 200 (by omega) _ hv'.out (by omega) (hr.below g1)).mono ?_;rw [hR1'.out];rintro e w2 ⟨k3,n3,ks3,A3,c3,he3,rfl,hl3,hr3,hb3⟩;have he3':=aD he3;clear he3;replace hB2:=(hB2.keep hb3).alloc (.cells (Ro k3 n3 A3 ks3.length c3) 25);have hK:=aC w2 25 (Ro k3 n3 A3 ks3.length c3) rfl;have s2':=hb3.size;have g2:=(g1.trans (hb3.mono g1.size)).alloc (by have:=g1.size;omega) (.cells (Ro k3 n3 A3 ks3.length c3) 25);have hr4:=hr3.rd.alloc (.cells (Ro k3 n3 A3 ks3.length c3) 25);clear x0 x1 x2 z0 z1 z2;obtain ⟨z0,z1,z2⟩:=hB2.three;have s3':=g2.size;clear tok;have tok2:=trivial)
     | (go_at_call 126;refine (iZ _ k n ks A c k2 n2 s2 A2 c2 _ (qG _) (by omega) (by omega) ((hr.alloc _).alloc _) ((hr2.alloc _).alloc _)).mono ?_;rw [hsm.out];rintro e w1 ⟨rfl,hb1⟩;have hB:=cV hb1;have hB2:=bH hb1;have g1:Bw w w1:=bQ bw2 hb1;obtain ⟨x0,x1,x2⟩:=hB.three;obtain ⟨z0,z1,z2⟩:=hB2.three;have s1:=hB2.lt;have tok:=trivial))
    go_ret
    exact ⟨rfl,g4⟩
   ·rw [if_neg hse] at hm;subst hm;have hss:=aD (Bool.eq_false_iff.2 hse);clear hse hc1 hc2;go_enter func90,ntmps90;go_wp2_with (first
     | (go_at_call 126;have _t:=tok3;refine (iZ _ k3 n3 ks3 A3 c3 k4 n4 ks4 A4 c4 _ (qG _) hl3 hl4 hr7 hr6).mono ?_;rw [← he3'.out,← he4'.out,hss.out];rintro e w5 ⟨rfl,hb5⟩;have g4:=g3.trans (hb5.mono g3.size))
     | (go_at_call 24;have _t:=tok2;refine (dY dS k2 n2 s2 A2 c2 200 (by omega) _ hv2'.out (by omega) (hr2.below g2)).mono ?_;rw [hR2'.out];rintro e w3 ⟨k4,n4,ks4,A4,c4,he4,rfl,hl4,hr5,hb4⟩;have he4':=aD he4;clear he4;replace hK:=(hK.keep hb4).alloc (.cells (Ro k4 n4 A4 ks4.length c4) 25);have hL:=aC w3 25 (Ro k4 n4 A4 ks4.length c4) rfl;have g3:=(g2.trans (hb4.mono g2.size)).alloc (by have:=hb4.size;omega) (.cells (Ro k4 n4 A4 ks4.length c4) 25);have hr6:=hr5.rd.alloc (.cells (Ro k4 n4 A4 ks4.length c4) 25);have hr7:=(hr4.below hb4).alloc (.cells (Ro k4 n4 A4 ks4.length c4) 25);obtain ⟨y0,y1,y2⟩:=hK.three;obtain ⟨v0,v1,v2⟩:=hL.three;have s4':=g3.size;clear tok2;have tok3:=trivial)
     | (go_at_call 24;have _t:=tok;refine (dY dS k n ks A c 200 (by omega) _ hv'.out (by omega) (hr.below g1)).mono ?_;rw [hR1'.out];rintro e w2 ⟨k3,n3,ks3,A3,c3,he3,rfl,hl3,hr3,hb3⟩;have he3':=aD he3;clear he3;replace hB2:=(hB2.keep hb3).alloc (.cells (Ro k3 n3 A3 ks3.length c3) 25);have hK:=aC w2 25 (Ro k3 n3 A3 ks3.length c3) rfl;have s2':=hb3.size;have g2:=(g1.trans (hb3.mono g1.size)).alloc (by have:=g1.size;omega) (.cells (Ro k3 n3 A3 ks3.length c3) 25);have hr4:=hr3.rd.alloc (.cells (Ro k3 n3 A3 ks3.length c3) 25);clear x0 x1 x2 z0 z1 z2;obtain ⟨z0,z1,z2⟩:=hB2.three;have s3':=g2.size;clear tok;have tok2:=trivial)
     | (go_at_call 126;refine (iZ _ k n ks A c k2 n2 s2 A2 c2 _ (qG _) (by omega) (by omega) ((hr.alloc _).alloc _) ((hr2.alloc _).alloc _)).mono ?_;rw [hsm.out];rintro e w1 ⟨rfl,hb1⟩;have hB:=cV hb1;have hB2:=bH hb1;have g1:Bw w w1:=bQ bw2 hb1;obtain ⟨x0,x1,x2⟩:=hB.three;obtain ⟨z0,z1,z2⟩:=hB2.three;have s1:=hB2.lt;have tok:=trivial))
    go_ret
    exact ⟨rfl,g4⟩
  ·rw [if_pos (.inr hc2)] at hm;subst hm;have q1:(R1.2 != 0)=false:=by simpa using hc1
   have q2:(R2.2 != 0)=true:=by simpa using hc2
   clear hc1 hc2;go_enter func90,ntmps90;go_wp2_with (first
    | (go_at_call 24;have _t:=tok2;refine (dY dS k2 n2 s2 A2 c2 200 (by omega) _ hv2'.out (by omega) (hr2.below g2)).mono ?_;rw [hR2'.out];rintro e w3 ⟨k4,n4,ks4,A4,c4,he4,rfl,hl4,hr5,hb4⟩;have he4':=aD he4;clear he4;replace hK:=(hK.keep hb4).alloc (.cells (Ro k4 n4 A4 ks4.length c4) 25);have hL:=aC w3 25 (Ro k4 n4 A4 ks4.length c4) rfl;have g3:=(g2.trans (hb4.mono g2.size)).alloc (by have:=hb4.size;omega) (.cells (Ro k4 n4 A4 ks4.length c4) 25);have hr6:=hr5.rd.alloc (.cells (Ro k4 n4 A4 ks4.length c4) 25);have hr7:=(hr4.below hb4).alloc (.cells (Ro k4 n4 A4 ks4.length c4) 25);obtain ⟨y0,y1,y2⟩:=hK.three;obtain ⟨v0,v1,v2⟩:=hL.three;have s4':=g3.size;clear tok2;have tok3:=trivial)
    | (go_at_call 24;have _t:=tok;refine (dY dS k n ks A c 200 (by omega) _ hv'.out (by omega) (hr.below g1)).mono ?_;rw [hR1'.out];rintro e w2 ⟨k3,n3,ks3,A3,c3,he3,rfl,hl3,hr3,hb3⟩;have he3':=aD he3;clear he3;replace hB2:=(hB2.keep hb3).alloc (.cells (Ro k3 n3 A3 ks3.length c3) 25);have hK:=aC w2 25 (Ro k3 n3 A3 ks3.length c3) rfl;have s2':=hb3.size;have g2:=(g1.trans (hb3.mono g1.size)).alloc (by have:=g1.size;omega) (.cells (Ro k3 n3 A3 ks3.length c3) 25);have hr4:=hr3.rd.alloc (.cells (Ro k3 n3 A3 ks3.length c3) 25);clear x0 x1 x2 z0 z1 z2;obtain ⟨z0,z1,z2⟩:=hB2.three;have s3':=g2.size;clear tok;have tok2:=trivial)
    | (go_at_call 126;refine (iZ _ k n ks A c k2 n2 s2 A2 c2 _ (qG _) (by omega) (by omega) ((hr.alloc _).alloc _) ((hr2.alloc _).alloc _)).mono ?_;rw [hsm.out];rintro e w1 ⟨rfl,hb1⟩;have hB:=cV hb1;have hB2:=bH hb1;have g1:Bw w w1:=bQ bw2 hb1;obtain ⟨x0,x1,x2⟩:=hB.three;obtain ⟨z0,z1,z2⟩:=hB2.three;have s1:=hB2.lt;have tok:=trivial))
   go_ret
   exact ⟨rfl,g3⟩
 ·rw [if_pos (.inl hc1)] at hm;subst hm;have q1:(R1.2 != 0)=true:=by simpa using hc1
  clear hc1;go_enter func90,ntmps90;go_wp2_with (first
   | (go_at_call 24;have _t:=tok2;refine (dY dS k2 n2 s2 A2 c2 200 (by omega) _ hv2'.out (by omega) (hr2.below g2)).mono ?_;rw [hR2'.out];rintro e w3 ⟨k4,n4,ks4,A4,c4,he4,rfl,hl4,hr5,hb4⟩;have he4':=aD he4;clear he4;replace hK:=(hK.keep hb4).alloc (.cells (Ro k4 n4 A4 ks4.length c4) 25);have hL:=aC w3 25 (Ro k4 n4 A4 ks4.length c4) rfl;have g3:=(g2.trans (hb4.mono g2.size)).alloc (by have:=hb4.size;omega) (.cells (Ro k4 n4 A4 ks4.length c4) 25);have hr6:=hr5.rd.alloc (.cells (Ro k4 n4 A4 ks4.length c4) 25);have hr7:=(hr4.below hb4).alloc (.cells (Ro k4 n4 A4 ks4.length c4) 25);obtain ⟨y0,y1,y2⟩:=hK.three;obtain ⟨v0,v1,v2⟩:=hL.three;have s4':=g3.size;clear tok2;have tok3:=trivial)
   | (go_at_call 24;have _t:=tok;refine (dY dS k n ks A c 200 (by omega) _ hv'.out (by omega) (hr.below g1)).mono ?_;rw [hR1'.out];rintro e w2 ⟨k3,n3,ks3,A3,c3,he3,rfl,hl3,hr3,hb3⟩;have he3':=aD he3;clear he3;replace hB2:=(hB2.keep hb3).alloc (.cells (Ro k3 n3 A3 ks3.length c3) 25);have hK:=aC w2 25 (Ro k3 n3 A3 ks3.length c3) rfl;have s2':=hb3.size;have g2:=(g1.trans (hb3.mono g1.size)).alloc (by have:=g1.size;omega) (.cells (Ro k3 n3 A3 ks3.length c3) 25);have hr4:=hr3.rd.alloc (.cells (Ro k3 n3 A3 ks3.length c3) 25);clear x0 x1 x2 z0 z1 z2;obtain ⟨z0,z1,z2⟩:=hB2.three;have s3':=g2.size;clear tok;have tok2:=trivial)
   | (go_at_call 126;refine (iZ _ k n ks A c k2 n2 s2 A2 c2 _ (qG _) (by omega) (by omega) ((hr.alloc _).alloc _) ((hr2.alloc _).alloc _)).mono ?_;rw [hsm.out];rintro e w1 ⟨rfl,hb1⟩;have hB:=cV hb1;have hB2:=bH hb1;have g1:Bw w w1:=bQ bw2 hb1;obtain ⟨x0,x1,x2⟩:=hB.three;obtain ⟨z0,z1,z2⟩:=hB2.three;have s1:=hB2.lt;have tok:=trivial))
  go_ret
  exact ⟨rfl,g3⟩
theorem qU (k n:Int)(ks:List Tm)(A:Option Addr)(c:Nat)(k2 n2:Int)(s2:List Tm)(A2:Option Addr)(c2:Nat)(w:World)(hv:aE (.mk k n ks)=true)(hs2:aH s2≤1000000)(hr:Rd w A 0 ks)(hr2:Rd w A2 0 s2) :
  Calls prog 69 #[.agg (Ro k n A ks.length c),.agg (Ro k2 n2 A2 s2.length c2)] w fun e w'=>e = .returned (.int .i64 (smR (.mk k n ks) (.mk k2 n2 s2)).cd)∧Bw w w':=by
 have hM:=aJ hv;have hv':=aD hv;unfold smR
 cases hv2:aE (.mk k2 n2 s2) with
 | false=>
  rw [if_neg (by rintro ⟨-,h⟩;cases h)];have hv2':=aD hv2;clear hv hv2;go_enter func69,ntmps69;go_wp2_with (first
   | (go_at_call 21;have _t:=tok;refine (aU k2 n2 s2 A2 c2 _ (by omega) (hr2.below g1)).mono ?_;rw [hv2'.out];rintro e w2 ⟨rfl,hb2⟩;have g2:=g1.trans (hb2.mono g1.size);have hB':=hB.keep hb2;have hB2':=hB2.keep hb2;clear x0 x1 x2 z0 z1 z2;obtain ⟨x0,x1,x2⟩:=hB'.three;obtain ⟨z0,z1,z2⟩:=hB2'.three;clear tok;have tok2:=trivial)
   | (go_at_call 21;refine (aU k n ks A c _ (by omega) ((hr.alloc _).alloc _)).mono ?_;rw [hv'.out];rintro e w1 ⟨rfl,hb1⟩;have hB:=cV hb1;have hB2:=bH hb1;have g1:Bw w w1:=bQ bw2 hb1;obtain ⟨x0,x1,x2⟩:=hB.three;obtain ⟨z0,z1,z2⟩:=hB2.three;have s1:=hB2.lt;have tok:=trivial))
  go_ret
  exact ⟨rfl,g2⟩
 | true=>
  rw [if_pos ⟨hv,rfl⟩];have hv2':=aD hv2;obtain ⟨m,hm⟩:∃m,iP 200 (.mk k n ks) (.mk k2 n2 s2)=m:=⟨_,rfl⟩;rw [hm];have hm':=aD hm;clear hv hv2 hm;by_cases h1:m=1
  ·subst h1;rw [if_pos rfl];go_enter func69,ntmps69;go_wp2_with (first
    | (go_at_call 90;have _t:=tok2;refine (tK k n ks A c k2 n2 s2 A2 c2 _ hv'.out hv2'.out (hr.below g2) (hr2.below g2)).mono ?_;rw [hm'.out];rintro e w3 ⟨rfl,hb3⟩;have g3:=g2.trans (hb3.mono g2.size))
    | (go_at_call 21;have _t:=tok;refine (aU k2 n2 s2 A2 c2 _ (by omega) (hr2.below g1)).mono ?_;rw [hv2'.out];rintro e w2 ⟨rfl,hb2⟩;have g2:=g1.trans (hb2.mono g1.size);have hB':=hB.keep hb2;have hB2':=hB2.keep hb2;clear x0 x1 x2 z0 z1 z2;obtain ⟨x0,x1,x2⟩:=hB'.three;obtain ⟨z0,z1,z2⟩:=hB2'.three;clear tok;have tok2:=trivial)
    | (go_at_call 21;refine (aU k n ks A c _ (by omega) ((hr.alloc _).alloc _)).mono ?_;rw [hv'.out];rintro e w1 ⟨rfl,hb1⟩;have hB:=cV hb1;have hB2:=bH hb1;have g1:Bw w w1:=bQ bw2 hb1;obtain ⟨x0,x1,x2⟩:=hB.three;obtain ⟨z0,z1,z2⟩:=hB2.three;have s1:=hB2.lt;have tok:=trivial))
   go_ret
   exact ⟨rfl,g3⟩
  ·rw [if_neg h1];have q1:(m==1)=false:=by simpa using h1
   by_cases h2:m=2
   ·subst h2;rw [if_pos rfl];go_enter func69,ntmps69;go_wp2_with (first
     | (go_at_call 90;have _t:=tok2;refine (tK k n ks A c k2 n2 s2 A2 c2 _ hv'.out hv2'.out (hr.below g2) (hr2.below g2)).mono ?_;rw [hm'.out];rintro e w3 ⟨rfl,hb3⟩;have g3:=g2.trans (hb3.mono g2.size))
     | (go_at_call 21;have _t:=tok;refine (aU k2 n2 s2 A2 c2 _ (by omega) (hr2.below g1)).mono ?_;rw [hv2'.out];rintro e w2 ⟨rfl,hb2⟩;have g2:=g1.trans (hb2.mono g1.size);have hB':=hB.keep hb2;have hB2':=hB2.keep hb2;clear x0 x1 x2 z0 z1 z2;obtain ⟨x0,x1,x2⟩:=hB'.three;obtain ⟨z0,z1,z2⟩:=hB2'.three;clear tok;have tok2:=trivial)
     | (go_at_call 21;refine (aU k n ks A c _ (by omega) ((hr.alloc _).alloc _)).mono ?_;rw [hv'.out];rintro e w1 ⟨rfl,hb1⟩;have hB:=cV hb1;have hB2:=bH hb1;have g1:Bw w w1:=bQ bw2 hb1;obtain ⟨x0,x1,x2⟩:=hB.three;obtain ⟨z0,z1,z2⟩:=hB2.three;have s1:=hB2.lt;have tok:=trivial))
    go_ret
    exact ⟨rfl,g3⟩
   ·rw [if_neg h2];have q2:(m==2)=false:=by simpa using h2
    go_enter func69,ntmps69;go_wp2_with (first
     | (go_at_call 90;have _t:=tok2;refine (tK k n ks A c k2 n2 s2 A2 c2 _ hv'.out hv2'.out (hr.below g2) (hr2.below g2)).mono ?_;rw [hm'.out];rintro e w3 ⟨rfl,hb3⟩;have g3:=g2.trans (hb3.mono g2.size))
     | (go_at_call 21;have _t:=tok;refine (aU k2 n2 s2 A2 c2 _ (by omega) (hr2.below g1)).mono ?_;rw [hv2'.out];rintro e w2 ⟨rfl,hb2⟩;have g2:=g1.trans (hb2.mono g1.size);have hB':=hB.keep hb2;have hB2':=hB2.keep hb2;clear x0 x1 x2 z0 z1 z2;obtain ⟨x0,x1,x2⟩:=hB'.three;obtain ⟨z0,z1,z2⟩:=hB2'.three;clear tok;have tok2:=trivial)
     | (go_at_call 21;refine (aU k n ks A c _ (by omega) ((hr.alloc _).alloc _)).mono ?_;rw [hv'.out];rintro e w1 ⟨rfl,hb1⟩;have hB:=cV hb1;have hB2:=bH hb1;have g1:Bw w w1:=bQ bw2 hb1;obtain ⟨x0,x1,x2⟩:=hB.three;obtain ⟨z0,z1,z2⟩:=hB2.three;have s1:=hB2.lt;have tok:=trivial))
    go_ret
    exact ⟨rfl,g3⟩
theorem aEs (i j:Int)(w:World):Calls prog 138 #[.int .i64 i,.int .i64 j] w fun e w'=>e = .returned (.int .i64 (if j<i then i else j))∧Bw w w':=by
 by_cases h:j<i
 ·rw [if_pos h];have q:decide (j<i)=true:=decide_eq_true h;go_enter func138,ntmps138;go_wp2_with fail
  go_ret
  exact ⟨rfl,fG _ _⟩
 ·rw [if_neg h];have q:decide (j<i)=false:=decide_eq_false h;go_enter func138,ntmps138;go_wp2_with fail
  go_ret
  exact ⟨rfl,fG _ _⟩
theorem PartR.ownB {lo:Nat→Prop}{B:Nat}{w:World}{v:Value}{ts:List Tm}(h:PartR lo B w v ts):∀g,v.ownBlock=some g→B≤g:=fun g hg=>by
 obtain ⟨xs,h1,_⟩:=h;exact (h1.lt g hg).1
def Emp (w:World)(g:Nat):Prop:=w.heap[g]?=some (.cells #[] 25 (0,0))∧g<w.heap.size
theorem Emp.below {w w':World}{g:Nat}(h:Emp w g)(hb:Bw w w'):Emp w' g:=⟨by rw [hb.block g h.2];exact h.1,rO h.2 hb.size⟩
def aDv (w:World)(ts:List Tm)(e:Ending)(w':World):Prop:=∃D d,e = .returned (.slice D ts.length d)∧Rd w' D 0 ts∧Bw w w'
theorem pK (ctx:List Tm)(C:Option Addr)(cc:Nat)(k n:Int)(ks:List Tm)(A:Option Addr)(c:Nat)(w:World)(hm:ctx.length≤1000)(hl:ks.length≤9223372036854775807)(hrc:Rd w C 0 ctx)(hra:Rd w A 0 ks) :
  Calls prog 137 #[.slice C ctx.length cc,.agg (Ro k n A ks.length c)] w (aDv w (ctx++[.mk k n ks])):=by
 go_enter func137,ntmps137;go_upto_region 1 with fail
 refine aWq (show Blk _ w.heap.size (Ro k n A ks.length c) from (aC _ 25 _ rfl)) bw1 ?_;intro wx hT gx;have rcx:=(hrc.below gx).rdp;have rax:=(hra.below gx).rdp;obtain ⟨v0,v1,v2⟩:=iD hT;refine dX wx [5,6] [1,3] 7 5 (lT:=[_,_]) ?_;intro q0 bq0;refine bV (aD ?_);refine kX 0 4 ?_ ?_
 ·go_wp2_with fail
  refine cK ?_;intro q1 hn;have hbq1:Bw q0 q1:=by rw [hn];exact bw1
  have Eq1:Emp q1 q0.heap.size:=by rw [hn];exact ⟨heap_alloc_new _ _,by simp⟩
  have seq1:q0.heap.size<q1.heap.size:=by rw [hn];simp
  clear hn;refine aY bq0 hbq1 ?_;intro bq1 lq1;refine kX 2 4 ?_ ?_
  ·have lgq2:q0.heap.size<q1.heap.size:=Eq1.2;refine eY (p:=fun b=>b<wx.heap.size) (g:=q0.heap.size) (cl:=cc) Eq1.1 (rcx.below bq1) (fun b hb=>⟨rO hb bq1.size,by have:=bq0.size;omega⟩) rfl (by omega) rfl _ _ rfl rfl rfl ?_;intro C2 c2 q2 hPq2 hgq2;have hbq2:Below q0.heap.size q1 q2:=⟨hgq2.os,hgq2.tape,hgq2.output,hgq2.size,fun k hk=>hgq2.block k (by omega) (fun e=>by injection e;omega)⟩;have bq2:Bw wx q2:=bq1.trans (hbq2.mono bq0.size);have lq2:=hbq2.size;refine aP bq2 ?_;refine bG 4 ?_
   ·go_wp2_with fail
    refine dO ?_;intro q3 hbq3 zq3 seq3;have Pq3:=hPq2.below hbq3;refine aY bq2 hbq3 ?_;intro bq3 lq3;refine cD [5,6] (lB:=[_,_]) ?_;have lB:q0.heap.size≤q3.heap.size:=by have:=lq3;omega
    have lA:wx.heap.size≤q0.heap.size:=bq0.size;refine eT (lo:=fun b=>b<wx.heap.size) (B:=q0.heap.size) (q:=fun b=>b<wx.heap.size) Pq3 lB (rax.below bq3) (fun b hb=>⟨.inl hb,rO hb bq3.size,fun e=>by have:=Pq3.ownB b e;omega⟩) hl rfl (by omega) q2.heap.size 1 zq3 rfl _ _ rfl rfl rfl ?_;intro A9 c9 w9 hp9 hb9 hg9 hn9;obtain ⟨A8,c8,e8,r8⟩:=hp9.rd;injection e8 with e81 e82 e83;subst e81 e83;have hlen9:(ctx++[Tm.mk k n ks]).length=ctx.length+1:=by simp
    refine gS (aD ?_);go_wp2_with fail
    go_ret
    exact ⟨A9,c9,by rw [hlen9];rfl,r8.rd,(gx.trans (bq3.mono gx.size)).trans (hb9.mono (by have:=gx.size;omega))⟩
  ·go_wp2_with fail
   refine dO ?_;intro q4 hbq4 zq4 seq4;have Eq4:=Eq1.below hbq4;refine aY bq1 hbq4 ?_;intro bq4 lq4;refine bG 2 ?_
   ·have lgq5:q0.heap.size<q4.heap.size:=Eq4.2;refine eY (p:=fun b=>b<wx.heap.size) (g:=q0.heap.size) (cl:=cc) Eq4.1 (rcx.below bq4) (fun b hb=>⟨rO hb bq4.size,by have:=bq0.size;omega⟩) rfl (by omega) rfl _ _ rfl rfl rfl ?_;intro C2 c2 q5 hPq5 hgq5;have hbq5:Below q0.heap.size q4 q5:=⟨hgq5.os,hgq5.tape,hgq5.output,hgq5.size,fun k hk=>hgq5.block k (by omega) (fun e=>by injection e;omega)⟩;have Kq5:=zq4.grown hgq5 (by simp;omega);have bq5:Bw wx q5:=bq4.trans (hbq5.mono bq0.size);have lq5:=hbq5.size;refine aP bq5 ?_;refine cD [5,6] (lB:=[_,_]) ?_;have lB:q0.heap.size≤q5.heap.size:=by have:=lq5;omega
    have lA:wx.heap.size≤q0.heap.size:=bq0.size;refine eT (lo:=fun b=>b<wx.heap.size) (B:=q0.heap.size) (q:=fun b=>b<wx.heap.size) hPq5 lB (rax.below bq5) (fun b hb=>⟨.inl hb,rO hb bq5.size,fun e=>by have:=hPq5.ownB b e;omega⟩) hl rfl (by omega) q1.heap.size 1 Kq5 rfl _ _ rfl rfl rfl ?_;intro A9 c9 w9 hp9 hb9 hg9 hn9;obtain ⟨A8,c8,e8,r8⟩:=hp9.rd;injection e8 with e81 e82 e83;subst e81 e83;have hlen9:(ctx++[Tm.mk k n ks]).length=ctx.length+1:=by simp
    refine gS (aD ?_);go_wp2_with fail
    go_ret
    exact ⟨A9,c9,by rw [hlen9];rfl,r8.rd,(gx.trans (bq5.mono gx.size)).trans (hb9.mono (by have:=gx.size;omega))⟩
 ·go_wp2_with fail
  refine dO ?_;intro q6 hbq6 zq6 seq6;refine aY bq0 hbq6 ?_;intro bq6 lq6;refine bG 0 ?_
  ·go_wp2_with fail
   refine cK ?_;intro q7 hn;have hbq7:Bw q6 q7:=by rw [hn];exact bw1
   have Eq7:Emp q7 q6.heap.size:=by rw [hn];exact ⟨heap_alloc_new _ _,by simp⟩
   have seq7:q6.heap.size<q7.heap.size:=by rw [hn];simp
   clear hn;have Kq7:=zq6.keep hbq7;refine aY bq6 hbq7 ?_;intro bq7 lq7;refine bG 2 ?_
   ·have lgq8:q6.heap.size<q7.heap.size:=Eq7.2;refine eY (p:=fun b=>b<wx.heap.size) (g:=q6.heap.size) (cl:=cc) Eq7.1 (rcx.below bq7) (fun b hb=>⟨rO hb bq7.size,by have:=bq6.size;omega⟩) rfl (by omega) rfl _ _ rfl rfl rfl ?_;intro C2 c2 q8 hPq8 hgq8;have hbq8:Below q6.heap.size q7 q8:=⟨hgq8.os,hgq8.tape,hgq8.output,hgq8.size,fun k hk=>hgq8.block k (by omega) (fun e=>by injection e;omega)⟩;have Kq8:=Kq7.grown hgq8 (by simp;omega);have bq8:Bw wx q8:=bq7.trans (hbq8.mono bq6.size);have lq8:=hbq8.size;refine aP bq8 ?_;refine cD [5,6] (lB:=[_,_]) ?_;have lB:q6.heap.size≤q8.heap.size:=by have:=lq8;omega
    have lA:wx.heap.size≤q6.heap.size:=bq6.size;refine eT (lo:=fun b=>b<wx.heap.size) (B:=q6.heap.size) (q:=fun b=>b<wx.heap.size) hPq8 lB (rax.below bq8) (fun b hb=>⟨.inl hb,rO hb bq8.size,fun e=>by have:=hPq8.ownB b e;omega⟩) hl rfl (by omega) q0.heap.size 1 Kq8 rfl _ _ rfl rfl rfl ?_;intro A9 c9 w9 hp9 hb9 hg9 hn9;obtain ⟨A8,c8,e8,r8⟩:=hp9.rd;injection e8 with e81 e82 e83;subst e81 e83;have hlen9:(ctx++[Tm.mk k n ks]).length=ctx.length+1:=by simp
    refine gS (aD ?_);go_wp2_with fail
    go_ret
    exact ⟨A9,c9,by rw [hlen9];rfl,r8.rd,(gx.trans (bq8.mono gx.size)).trans (hb9.mono (by have:=gx.size;omega))⟩
def GtZ (w:World):Rs Tm→Ending→World→Prop
 | .ok (.mk k n ks)=>aWw w k n ks
 | .no b=>fun e w'=>e = .returned (.tuple #[.agg Zr,.int .i64 (dL b)])∧Bw w w'
def nW (N:Nat):Prop:=∀(ctx:List Tm) (k n:Int) (ks:List Tm) (r:Rs Tm),bJ N ctx (.mk k n ks)=some r→aE (.mk k n ks)=true→(∀u,u∈ctx→aE u=true)→ctx.length≤21→
 ∀(C:Option Addr) (cc:Nat) (A:Option Addr) (c:Nat) (w:World),Rd w C 0 ctx→Rd w A 0 ks→Calls prog 68 #[.slice C ctx.length cc,.agg (Ro k n A ks.length c)] w (GtZ w r)
theorem gtz {f:FuncId}{args:Array Value}{w:World}{r:Rs Tm}(h:Calls prog f args w (GtZ w r)):Calls prog f args w (oH w r):=h.mono fun e w' h=>by
 cases r with
 | ok t=>cases t;exact h
 | no b=>exact ⟨0,0,none,0,0,h.1,h.2⟩
def GtS (w:World):Rs Int→Ending→World→Prop
 | .ok l=>fun e w'=>e = .returned (.tuple #[.int .i64 l,.int .i64 0])∧Bw w w'
 | .no b=>fun e w'=>∃l,e = .returned (.tuple #[.int .i64 l,.int .i64 (dL b)])∧Bw w w'
theorem fF (b:Bool):(dL b != 0)=true:=by cases b<;>rfl
theorem iN (b:Bool):(dL b==0)=false:=by cases b<;>rfl
theorem eA {N:Nat}(ih:nW N)(ctx:List Tm)(C:Option Addr)(cc:Nat)(k n:Int)(ks:List Tm)(A:Option Addr)(c:Nat)(r:Rs Int)(w:World)(hs:iW (bJ N) ctx (.mk k n ks)=some r)(hv:aE (.mk k n ks)=true)(hvc:∀u,u∈ctx→aE u=true)(hm:ctx.length≤21)(hrc:Rd w C 0 ctx)(hra:Rd w A 0 ks) :
  Calls prog 67 #[.slice C ctx.length cc,.agg (Ro k n A ks.length c)] w (GtS w r):=by
 rcases aO hs with ⟨b,h1,rfl⟩|⟨⟨k1,n1,s1⟩,h1,hs⟩
 ·have hI:=aD (fun (w:World) (hrc:Rd w C 0 ctx) (hra:Rd w A 0 ks)=>gtz (ih ctx k n ks _ h1 hv hvc hm C cc A c w hrc hra));have qb:=fF b;clear hs h1 hv hvc ih;go_enter func67,ntmps67;go_wp2_with (go_at_call 68;refine (hI.out _ (hrc.alloc _) (hra.alloc _)).mono ?_;rintro e w1 ⟨k1,n1,A1,l1,c1,rfl,hb1⟩;have hT:=nQ hb1;have g1:Bw w w1:=bQ bw1 hb1;have g2:=g1.alloc g1.size (.cells (Ro k1 n1 A1 l1 c1) 25))
  go_ret2
  exact ⟨0,rfl,g2⟩
 ·have hI:=aD (fun (w:World) (hrc:Rd w C 0 ctx) (hra:Rd w A 0 ks)=>gtz (ih ctx k n ks _ h1 hv hvc hm C cc A c w hrc hra));have hH:=aD (fun (w:World) (A:Option Addr) (c:Nat) (hr:Rd w A 0 s1)=>sI k1 n1 s1 A c w (dQ h1) hr);rcases aO hs with ⟨b,h2,rfl⟩|⟨⟨k3,n3,s3⟩,h2,hs⟩
  ·injection h2 with h2;rw [h2] at hH;have qb:=fF b;clear hs h1 h2 hv hvc ih;go_enter func67,ntmps67;go_wp2_with (first
    | (go_at_call 88;have _t:=tok;refine (hH.out _ A1 c1 r2).mono ?_;rintro e w3 ⟨k3,n3,A3,l3,c3,rfl,hb3⟩;have g3:=(g2.trans (hb3.mono g2.size)).alloc (by have:=g2.size;have:=hb3.size;omega) (.cells (Ro k3 n3 A3 l3 c3) 25))
    | (go_at_call 68;refine (hI.out _ (hrc.alloc _) (hra.alloc _)).mono ?_;rintro e w1 ⟨A1,c1,rfl,hl1,r1,hb1⟩;have hT:=nQ hb1;have g1:Bw w w1:=bQ bw1 hb1;have hK:=aC w1 25 (Ro k1 n1 A1 s1.length c1) rfl;have g2:=g1.alloc g1.size (.cells (Ro k1 n1 A1 s1.length c1) 25);have r2:=r1.alloc (.cells (Ro k1 n1 A1 s1.length c1) 25);obtain ⟨y0,y1,y2⟩:=hK.three;have tok:=trivial))
   go_ret2
   exact ⟨0,rfl,g3⟩
  ·injection h2 with h2;rw [h2] at hH;unfold aGm at hs
   by_cases hk:k3=2
   ·subst hk;rw [if_pos (show (Tm.mk 2 n3 s3).k=2 from rfl)] at hs;injection hs with hs;subst hs;clear h1 h2 hv hvc ih;go_enter func67,ntmps67;go_wp2_with (first
     | (go_at_call 88;have _t:=tok;refine (hH.out _ A1 c1 r2).mono ?_;rintro e w3 ⟨A3,c3,rfl,hl3,r3,hb3⟩;have hJ:=aC w3 25 (Ro 2 n3 A3 s3.length c3) rfl;have g3:=(g2.trans (hb3.mono g2.size)).alloc (by have:=g2.size;have:=hb3.size;omega) (.cells (Ro 2 n3 A3 s3.length c3) 25);have r4:=r3.alloc (.cells (Ro 2 n3 A3 s3.length c3) 25);obtain ⟨v0,v1,v2⟩:=hJ.three)
     | (go_at_call 68;refine (hI.out _ (hrc.alloc _) (hra.alloc _)).mono ?_;rintro e w1 ⟨A1,c1,rfl,hl1,r1,hb1⟩;have hT:=nQ hb1;have g1:Bw w w1:=bQ bw1 hb1;have hK:=aC w1 25 (Ro k1 n1 A1 s1.length c1) rfl;have g2:=g1.alloc g1.size (.cells (Ro k1 n1 A1 s1.length c1) 25);have r2:=r1.alloc (.cells (Ro k1 n1 A1 s1.length c1) 25);obtain ⟨y0,y1,y2⟩:=hK.three;have tok:=trivial))
    go_ret2
    exact ⟨rfl,g3⟩
   ·rw [if_neg (show ¬(Tm.mk k3 n3 s3).k=2 from hk)] at hs;injection hs with hs;subst hs;have qk:(k3 != 2)=true:=by simpa using hk
    clear h1 h2 hv hvc ih hk;go_enter func67,ntmps67;go_wp2_with (first
     | (go_at_call 88;have _t:=tok;refine (hH.out _ A1 c1 r2).mono ?_;rintro e w3 ⟨A3,c3,rfl,hl3,r3,hb3⟩;have hJ:=aC w3 25 (Ro k3 n3 A3 s3.length c3) rfl;have g3:=(g2.trans (hb3.mono g2.size)).alloc (by have:=g2.size;have:=hb3.size;omega) (.cells (Ro k3 n3 A3 s3.length c3) 25);have r4:=r3.alloc (.cells (Ro k3 n3 A3 s3.length c3) 25);obtain ⟨v0,v1,v2⟩:=hJ.three)
     | (go_at_call 68;refine (hI.out _ (hrc.alloc _) (hra.alloc _)).mono ?_;rintro e w1 ⟨A1,c1,rfl,hl1,r1,hb1⟩;have hT:=nQ hb1;have g1:Bw w w1:=bQ bw1 hb1;have hK:=aC w1 25 (Ro k1 n1 A1 s1.length c1) rfl;have g2:=g1.alloc g1.size (.cells (Ro k1 n1 A1 s1.length c1) 25);have r2:=r1.alloc (.cells (Ro k1 n1 A1 s1.length c1) 25);obtain ⟨y0,y1,y2⟩:=hK.three;have tok:=trivial))
    go_ret2
    exact ⟨0,rfl,g3⟩
theorem cC {N:Nat}(ih:nW N)(ctx:List Tm)(C:Option Addr)(cc:Nat)(k n:Int)(ks:List Tm)(A:Option Addr)(c:Nat)(k2 n2:Int)(s2:List Tm)(A2:Option Addr)(c2:Nat)(r:Rs Unit)(w:World)(hs:iL (bJ N) ctx (.mk k n ks) (.mk k2 n2 s2)=some r)(hv:aE (.mk k n ks)=true)(hvc:∀u,u∈ctx→aE u=true)(hm:ctx.length≤21)(hrc:Rd w C 0 ctx)(hra:Rd w A 0 ks)(hs2:aH s2≤1000000)(hr2:Rd w A2 0 s2) :
  Calls prog 46 #[.slice C ctx.length cc,.agg (Ro k n A ks.length c),.agg (Ro k2 n2 A2 s2.length c2)] w fun e w'=>e = .returned (.int .i64 r.cd)∧Bw w w':=by
 rcases aO hs with ⟨b,h1,rfl⟩|⟨⟨k1,n1,s1⟩,h1,hs⟩
 ·have hI:=aD (fun (w:World) (hrc:Rd w C 0 ctx) (hra:Rd w A 0 ks)=>gtz (ih ctx k n ks _ h1 hv hvc hm C cc A c w hrc hra));have qb:=fF b;clear hs h1 hv hvc ih;go_enter func46,ntmps46;go_wp2_with (go_at_call 68;refine (hI.out _ ((hrc.alloc _).alloc _) ((hra.alloc _).alloc _)).mono ?_;rintro e w1 ⟨k1,n1,A1,l1,c1,rfl,hb1⟩;have hT:=cV hb1;have hW:=bH hb1;have g1:Bw w w1:=bQ bw2 hb1;have g2:=g1.alloc g1.size (.cells (Ro k1 n1 A1 l1 c1) 25))
  go_ret
  exact ⟨rfl,g2⟩
 ·have hI:=aD (fun (w:World) (hrc:Rd w C 0 ctx) (hra:Rd w A 0 ks)=>gtz (ih ctx k n ks _ h1 hv hvc hm C cc A c w hrc hra));injection hs with hs;have hS:=aD (fun (w:World) (A1:Option Addr) (c1:Nat) (hr:Rd w A1 0 s1) (hr2:Rd w A2 0 s2)=>qU k1 n1 s1 A1 c1 k2 n2 s2 A2 c2 w (dQ h1) hs2 hr hr2);rw [hs] at hS;clear hs h1 hv hvc ih;go_enter func46,ntmps46;go_wp2_with (first
   | (go_at_call 69;have _t:=tok;refine (hS.out _ A1 c1 r2 (hr2.below g2)).mono ?_;rintro e w3 ⟨rfl,hb3⟩;have g3:=g2.trans (hb3.mono g2.size))
   | (go_at_call 68;refine (hI.out _ ((hrc.alloc _).alloc _) ((hra.alloc _).alloc _)).mono ?_;rintro e w1 ⟨A1,c1,rfl,hl1,r1,hb1⟩;have hT:=cV hb1;have hW:=bH hb1;have g1:Bw w w1:=bQ bw2 hb1;have hK:=aC w1 25 (Ro k1 n1 A1 s1.length c1) rfl;have g2:=g1.alloc g1.size (.cells (Ro k1 n1 A1 s1.length c1) 25);have r2:=r1.alloc (.cells (Ro k1 n1 A1 s1.length c1) 25);obtain ⟨y0,y1,y2⟩:=hK.three;have tok:=trivial;have hW2:=hW.alloc (.cells (Ro k1 n1 A1 s1.length c1) 25);obtain ⟨z0,z1,z2⟩:=hW2.three))
  go_ret
  exact ⟨rfl,g3⟩
theorem fY {N:Nat}(ih:nW N)(ctx:List Tm)(C:Option Addr)(cc:Nat)(k n:Int)(ks:List Tm)(A:Option Addr)(c:Nat)(kind:Int)(r:Rs Tm)(w:World)(hs:xQ (bJ N) ctx (.mk k n ks) kind=some r)(hv:aE (.mk k n ks)=true)(hvc:∀u,u∈ctx→aE u=true)(hm:ctx.length≤21)(hrc:Rd w C 0 ctx)(hra:Rd w A 0 ks) :
  Calls prog 139 #[.slice C ctx.length cc,.agg (Ro k n A ks.length c),.int .i64 kind] w (oH w r):=by
 rcases aO hs with ⟨b,h1,rfl⟩|⟨⟨k1,n1,s1⟩,h1,hs⟩
 ·have hI:=aD (fun (w:World) (hrc:Rd w C 0 ctx) (hra:Rd w A 0 ks)=>gtz (ih ctx k n ks _ h1 hv hvc hm C cc A c w hrc hra));have qb:=fF b;clear hs h1 hv hvc ih;go_enter func139,ntmps139;go_wp2_with (go_at_call 68;refine (hI.out _ ((hrc.alloc _).alloc _) ((hra.alloc _).alloc _)).mono ?_;rintro e w1 ⟨k1,n1,A1,l1,c1,rfl,hb1⟩;have hT:=cV hb1;have hZ:=bH hb1;have g1:Bw w w1:=bQ bw2 hb1;have g2:=g1.alloc g1.size (.cells (Ro k1 n1 A1 l1 c1) 25);have hZ2:=hZ.alloc (.cells (Ro k1 n1 A1 l1 c1) 25);obtain ⟨d0,d1,d2,e0,e1,e2,lz⟩:=dA hZ2)
  refine bodyPost_ret (v:=.tuple #[.agg Zr,.int .i64 (dL b)]) (by simp [results,results139,go_sem,d0,d1,d2]) rfl ⟨0,0,none,0,0,rfl,?_⟩;exact bT g2
 ·have hI:=aD (fun (w:World) (hrc:Rd w C 0 ctx) (hra:Rd w A 0 ks)=>gtz (ih ctx k n ks _ h1 hv hvc hm C cc A c w hrc hra));have hH:=aD (fun (w:World) (A:Option Addr) (c:Nat) (hr:Rd w A 0 s1)=>sI k1 n1 s1 A c w (dQ h1) hr);rcases aO hs with ⟨b,h2,rfl⟩|⟨⟨k3,n3,s3⟩,h2,hs⟩
  ·injection h2 with h2;rw [h2] at hH;have qb:=fF b;clear hs h1 h2 hv hvc ih;go_enter func139,ntmps139;go_wp2_with (first
    | (go_at_call 88;have _t:=tok;refine (hH.out _ A1 c1 r2).mono ?_;rintro e w3 ⟨k3,n3,A3,l3,c3,rfl,hb3⟩;have g3:=(g2.trans (hb3.mono g2.size)).alloc (by have:=g2.size;have:=hb3.size;omega) (.cells (Ro k3 n3 A3 l3 c3) 25);have hZ2:=((hZ.alloc (.cells (Ro k1 n1 A1 s1.length c1) 25)).keep hb3).alloc (.cells (Ro k3 n3 A3 l3 c3) 25);obtain ⟨d0,d1,d2,e0,e1,e2,lz⟩:=dA hZ2)
    | (go_at_call 68;refine (hI.out _ ((hrc.alloc _).alloc _) ((hra.alloc _).alloc _)).mono ?_;rintro e w1 ⟨A1,c1,rfl,hl1,r1,hb1⟩;have hT:=cV hb1;have hZ:=bH hb1;have g1:Bw w w1:=bQ bw2 hb1;have hK:=aC w1 25 (Ro k1 n1 A1 s1.length c1) rfl;have g2:=g1.alloc g1.size (.cells (Ro k1 n1 A1 s1.length c1) 25);have r2:=r1.alloc (.cells (Ro k1 n1 A1 s1.length c1) 25);obtain ⟨y0,y1,y2⟩:=hK.three;have tok:=trivial;have hZ2:=hZ.alloc (.cells (Ro k1 n1 A1 s1.length c1) 25);obtain ⟨d0,d1,d2,e0,e1,e2,lz⟩:=dA hZ2))
   refine bodyPost_ret (v:=.tuple #[.agg Zr,.int .i64 (dL b)]) (by simp [results,results139,go_sem,d0,d1,d2]) rfl ⟨0,0,none,0,0,rfl,?_⟩;exact bT g3
  ·injection h2 with h2;have hv3:=aD (eL h2).2.1;rw [h2] at hH;unfold gU at hs
   by_cases hk:k3=kind
   ·subst hk;rw [if_pos (show (Tm.mk k3 n3 s3).k=k3 from rfl)] at hs;injection hs with hs;subst hs;clear h1 h2 hv hvc ih;go_enter func139,ntmps139;go_wp2_with (first
     | (go_at_call 88;have _t:=tok;refine (hH.out _ A1 c1 r2).mono ?_;rintro e w3 ⟨A3,c3,rfl,hl3,r3,hb3⟩;have hJ:=aC w3 25 (Ro k3 n3 A3 s3.length c3) rfl;have g3:=(g2.trans (hb3.mono g2.size)).alloc (by have:=g2.size;have:=hb3.size;omega) (.cells (Ro k3 n3 A3 s3.length c3) 25);have r4:=r3.alloc (.cells (Ro k3 n3 A3 s3.length c3) 25);obtain ⟨v0,v1,v2⟩:=hJ.three;have hZ2:=((hZ.alloc (.cells (Ro k1 n1 A1 s1.length c1) 25)).keep hb3).alloc (.cells (Ro k3 n3 A3 s3.length c3) 25);obtain ⟨d0,d1,d2,e0,e1,e2,lz⟩:=dA hZ2)
     | (go_at_call 68;refine (hI.out _ ((hrc.alloc _).alloc _) ((hra.alloc _).alloc _)).mono ?_;rintro e w1 ⟨A1,c1,rfl,hl1,r1,hb1⟩;have hT:=cV hb1;have hZ:=bH hb1;have g1:Bw w w1:=bQ bw2 hb1;have hK:=aC w1 25 (Ro k1 n1 A1 s1.length c1) rfl;have g2:=g1.alloc g1.size (.cells (Ro k1 n1 A1 s1.length c1) 25);have r2:=r1.alloc (.cells (Ro k1 n1 A1 s1.length c1) 25);obtain ⟨y0,y1,y2⟩:=hK.three;have tok:=trivial;have hZ2:=hZ.alloc (.cells (Ro k1 n1 A1 s1.length c1) 25);obtain ⟨d0,d1,d2,e0,e1,e2,lz⟩:=dA hZ2))
    refine bodyPost_ret (v:=.tuple #[.agg (Ro k3 n3 A3 s3.length c3),.int .i64 0]) (by simp [results,results139,go_sem,d0,d1,d2]) rfl ⟨A3,c3,rfl,hl3,iG hZ2 hv3.out r4 _ _ _,?_⟩;exact bT g3
   ·rw [if_neg (show ¬(Tm.mk k3 n3 s3).k=kind from hk)] at hs;injection hs with hs;subst hs;have qk:(k3 != kind)=true:=by simpa using hk
    clear h1 h2 hv hvc ih hk;go_enter func139,ntmps139;go_wp2_with (first
     | (go_at_call 88;have _t:=tok;refine (hH.out _ A1 c1 r2).mono ?_;rintro e w3 ⟨A3,c3,rfl,hl3,r3,hb3⟩;have hJ:=aC w3 25 (Ro k3 n3 A3 s3.length c3) rfl;have g3:=(g2.trans (hb3.mono g2.size)).alloc (by have:=g2.size;have:=hb3.size;omega) (.cells (Ro k3 n3 A3 s3.length c3) 25);have r4:=r3.alloc (.cells (Ro k3 n3 A3 s3.length c3) 25);obtain ⟨v0,v1,v2⟩:=hJ.three;have hZ2:=((hZ.alloc (.cells (Ro k1 n1 A1 s1.length c1) 25)).keep hb3).alloc (.cells (Ro k3 n3 A3 s3.length c3) 25);obtain ⟨d0,d1,d2,e0,e1,e2,lz⟩:=dA hZ2)
     | (go_at_call 68;refine (hI.out _ ((hrc.alloc _).alloc _) ((hra.alloc _).alloc _)).mono ?_;rintro e w1 ⟨A1,c1,rfl,hl1,r1,hb1⟩;have hT:=cV hb1;have hZ:=bH hb1;have g1:Bw w w1:=bQ bw2 hb1;have hK:=aC w1 25 (Ro k1 n1 A1 s1.length c1) rfl;have g2:=g1.alloc g1.size (.cells (Ro k1 n1 A1 s1.length c1) 25);have r2:=r1.alloc (.cells (Ro k1 n1 A1 s1.length c1) 25);obtain ⟨y0,y1,y2⟩:=hK.three;have tok:=trivial;have hZ2:=hZ.alloc (.cells (Ro k1 n1 A1 s1.length c1) 25);obtain ⟨d0,d1,d2,e0,e1,e2,lz⟩:=dA hZ2))
    refine bodyPost_ret (v:=.tuple #[.agg Zr,.int .i64 1]) (by simp [results,results139,go_sem,d0,d1,d2]) rfl ⟨0,0,none,0,0,rfl,?_⟩;exact bT g3
theorem qZ {N:Nat}(ih:nW N)(ctx:List Tm)(C:Option Addr)(cc:Nat)(k n:Int)(A:Option Addr)(c:Nat)(ka na:Int)(sa:List Tm)(kb nb:Int)(sb:List Tm)(r:Rs Tm)(w:World)(hs:uN (bJ N) ctx (.mk ka na sa) (.mk kb nb sb)=some r)(hva:aE (.mk ka na sa)=true)(hvb:aE (.mk kb nb sb)=true)(hvc:∀u,u∈ctx→aE u=true)(hm:ctx.length≤20)(hrc:Rd w C 0 ctx)(hr:Rd w A 0 [.mk ka na sa,.mk kb nb sb]) :
  Calls prog 118 #[.slice C ctx.length cc,.agg (Ro k n A 2 c)] w (oH w r):=by
 obtain ⟨bk,ok,Aa,ca,rfl,a1,a2,a3,hla,ra⟩:=kZ hr;obtain ⟨Ab,cb,b1,b2,b3,hlb,rb⟩:=tI hr;simp only [Nat.zero_mul,Nat.add_zero,Nat.one_mul,Nat.reduceMul] at a1 a2 a3 b1 b2 b3
 have lbp:=kY _ _ a1;rcases aO hs with ⟨b,h1,rfl⟩|⟨li,h1,hs⟩
 ·have hS1:=aD (fun (w:World) (hrc:Rd w C 0 ctx) (hra:Rd w Aa 0 sa)=>eA ih ctx C cc ka na sa Aa ca _ w h1 hva hvc (by omega) hrc hra);have qb:=fF b;clear hs h1 hva hvb hvc ih;go_enter func118,ntmps118;go_wp2_with (go_at_call 67;refine (hS1.out _ ((hrc.alloc _).alloc _) ((ra.alloc _).alloc _)).mono ?_;rintro e w1 ⟨l1,rfl,hb1⟩;have hT1:=cV hb1;have hZ1:=bH hb1;have g1:Bw w w1:=bQ bw2 hb1;obtain ⟨d0,d1,d2,e0,e1,e2,lz⟩:=dA hZ1)
  refine bodyPost_ret (v:=.tuple #[.agg Zr,.int .i64 (dL b)]) (by simp [results,results118,go_sem,d0,d1,d2]) rfl ⟨0,0,none,0,0,rfl,?_⟩;exact bT g1
 ·have hS1:=aD (fun (w:World) (hrc:Rd w C 0 ctx) (hra:Rd w Aa 0 sa)=>eA ih ctx C cc ka na sa Aa ca _ w h1 hva hvc (by omega) hrc hra);rcases aO hs with ⟨b,h2,rfl⟩|⟨lj,h2,hs⟩
  ·obtain ⟨cx,hcx⟩:∃cx,ctx++[.mk ka na sa]=cx:=⟨_,rfl⟩;have hP:=aD (show ∀(w:World) (hrc:Rd w C 0 ctx) (hra:Rd w Aa 0 sa),Calls prog 137 #[.slice C ctx.length cc,.agg (Ro ka na Aa sa.length ca)] w (aDv w cx) from fun w hrc hra=>by rw [← hcx];exact pK ctx C cc ka na sa Aa ca w (by omega) hla hrc hra);have hcl:cx.length≤21:=(by rw [← hcx];simp;omega);have hcv:∀u,u∈cx→aE u=true:=(by rw [← hcx];exact fun u hu=>(List.mem_append.1 hu).elim (hvc u) (fun h=>by rw [List.mem_singleton.1 h];exact hva));rw [hcx] at h2;clear hcx;have hS2:=aD (fun (D:Option Addr) (d:Nat) (w:World) (hrD:Rd w D 0 cx) (hrb:Rd w Ab 0 sb)=>eA ih cx D d kb nb sb Ab cb _ w h2 hvb hcv hcl hrD hrb);have qb:=fF b;clear hs h1 h2 hva hvb hvc ih hcv;go_enter func118,ntmps118;go_upto_region 4 with (go_at_call 67;refine (hS1.out _ ((hrc.alloc _).alloc _) ((ra.alloc _).alloc _)).mono ?_;rintro e w1 ⟨rfl,hb1⟩;have hT1:=cV hb1;have hZ1:=bH hb1;have g1:Bw w w1:=bQ bw2 hb1)
   refine sT hT1 hZ1 g1 ?_;intro wx hTx hZx gx;have v2:=aF hTx.three.2.2;obtain ⟨ua1,ua2,ua3⟩:=iI gx a1 a2 a3;obtain ⟨ub1,ub2,ub3⟩:=iI gx b1 b2 b3;refine dX wx [11,12,13,14,15] [0,1,2,3,4,6,7,8,9] 16 7 (lT:=[_,_,_,_,_,_,_,_,_]) ?_;intro q0 bq0;refine bV (aD ?_);refine bG 5 ?_
   ·go_wp2_with (go_at_call 137;refine (hP.out _ ((hrc.below gx).below bq0) ((ra.below gx).below bq0)).mono ?_;rintro e q1 ⟨D,d,rfl,rDq1,hbq1⟩)
    refine aY bq0 hbq1 ?_;intro bq1 lq1;refine bG 10 ?_
    ·go_wp2_with (go_at_call 67;refine (hS2.out _ _ _ rDq1 ((rb.below gx).below bq1)).mono ?_;rintro e q2 ⟨l2,rfl,hbq2⟩)
     have rDq2:=rDq1.below hbq2;refine aY bq1 hbq2 ?_;intro bq2 lq2;refine eS [11,12,13] 2 (lT:=[_,_,_]) ?_;refine bV (aD ?_);refine cD [14,15] (lB:=[_,_]) ?_;refine gS (aD ?_);have hZ3:=hZx.keep bq2;obtain ⟨d0,d1,d2,e0,e1,e2,lz⟩:=dA hZ3;have g3:=gx.trans (bq2.mono gx.size);go_wp2_with fail
     refine bodyPost_ret (v:=.tuple #[.agg Zr,.int .i64 (dL b)]) (by simp [results,results118,go_sem,d0,d1,d2]) rfl ⟨0,0,none,0,0,rfl,?_⟩;exact bT g3
  ·obtain ⟨cx,hcx⟩:∃cx,ctx++[.mk ka na sa]=cx:=⟨_,rfl⟩;have hP:=aD (show ∀(w:World) (hrc:Rd w C 0 ctx) (hra:Rd w Aa 0 sa),Calls prog 137 #[.slice C ctx.length cc,.agg (Ro ka na Aa sa.length ca)] w (aDv w cx) from fun w hrc hra=>by rw [← hcx];exact pK ctx C cc ka na sa Aa ca w (by omega) hla hrc hra);have hcl:cx.length≤21:=(by rw [← hcx];simp;omega);have hcv:∀u,u∈cx→aE u=true:=(by rw [← hcx];exact fun u hu=>(List.mem_append.1 hu).elim (hvc u) (fun h=>by rw [List.mem_singleton.1 h];exact hva));rw [hcx] at h2;clear hcx;have hS2:=aD (fun (D:Option Addr) (d:Nat) (w:World) (hrD:Rd w D 0 cx) (hrb:Rd w Ab 0 sb)=>eA ih cx D d kb nb sb Ab cb _ w h2 hvb hcv hcl hrD hrb);injection hs with hs;subst hs;obtain ⟨lm,hlm⟩:∃lm,(if lj<li then li else lj)=lm:=⟨_,rfl⟩;rw [hlm];have hij:=aD hlm;clear h1 h2 hva hvb hvc ih hlm hcv;go_enter func118,ntmps118;go_upto_region 4 with (go_at_call 67;refine (hS1.out _ ((hrc.alloc _).alloc _) ((ra.alloc _).alloc _)).mono ?_;rintro e w1 ⟨rfl,hb1⟩;have hT1:=cV hb1;have hZ1:=bH hb1;have g1:Bw w w1:=bQ bw2 hb1)
   refine sT hT1 hZ1 g1 ?_;intro wx hTx hZx gx;have v2:=aF hTx.three.2.2;obtain ⟨ua1,ua2,ua3⟩:=iI gx a1 a2 a3;obtain ⟨ub1,ub2,ub3⟩:=iI gx b1 b2 b3;refine dX wx [11,12,13,14,15] [0,1,2,3,4,6,7,8,9] 16 7 (lT:=[_,_,_,_,_,_,_,_,_]) ?_;intro q0 bq0;refine bV (aD ?_);refine bG 5 ?_
   ·go_wp2_with (go_at_call 137;refine (hP.out _ ((hrc.below gx).below bq0) ((ra.below gx).below bq0)).mono ?_;rintro e q1 ⟨D,d,rfl,rDq1,hbq1⟩)
    refine aY bq0 hbq1 ?_;intro bq1 lq1;refine bG 10 ?_
    ·go_wp2_with (go_at_call 67;refine (hS2.out _ _ _ rDq1 ((rb.below gx).below bq1)).mono ?_;rintro e q2 ⟨rfl,hbq2⟩)
     have rDq2:=rDq1.below hbq2;refine aY bq1 hbq2 ?_;intro bq2 lq2;refine eS [11,12,13] 2 (lT:=[_,_,_]) ?_;refine bV (aD ?_);refine cD [14,15] (lB:=[_,_]) ?_;refine gS (aD ?_);have hZ3:=hZx.keep bq2;obtain ⟨d0,d1,d2,e0,e1,e2,lz⟩:=dA hZ3;have g3:=gx.trans (bq2.mono gx.size);go_wp2_with (first
      | (go_at_call 23;have _t:=tok;refine (bB _ _ _).mono ?_;rintro e w5 ⟨rfl,hb5⟩;have hZ5:=hZ4.keep hb5;clear d0 d1 d2 e0 e1 e2 lz;obtain ⟨d0,d1,d2,e0,e1,e2,lz⟩:=dA hZ5;have g5:=g4.trans (hb5.mono g4.size))
      | (go_at_call 138;refine (aEs _ _ _).mono ?_;rw [hij.out];rintro e w4 ⟨rfl,hb4⟩;have hZ4:=hZ3.keep hb4;have g4:=g3.trans (hb4.mono g3.size);have tok:=trivial))
     refine bodyPost_ret (v:=.tuple #[.agg (Ro 2 lm none 0 0),.int .i64 0]) (by simp [results,results118,go_sem,d0,d1,d2]) rfl ⟨none,0,rfl,by simp,Rd.nil,?_⟩;exact bT g5
theorem aT {p:Nat→Prop}{w:World}{k n:Int}{ks:List Tm}{A:Option Addr}{c:Nat}{ts:List Tm}{ys:List Value}(hl:ks.length≤9223372036854775807)(hr:RdP p w A 0 ks)(hx:RdX p w ts ys):RdX p w (.mk k n ks::ts) (.int .i64 k :: .int .i64 n :: .slice A ks.length c::ys):=⟨A,c,ys,rfl,hl,hr,hx⟩
theorem cB {p:Nat→Prop}{w:World}:RdX p w [] []:=rfl
def aYk (w:World)(k n:Int)(ks:List Tm)(e:Ending)(w':World):Prop:=
 ∃A c,e = .returned (.agg (Ro k n A ks.length c))∧ks.length≤9223372036854775807∧Rd w' A 0 ks∧Bw w w'
theorem bP {w:World}{us:List Tm}{x1:List Value}(k:Int)(ht:RdX (·<w.heap.size) w us x1)(m:Nat)(hm:us.length=m)(hlen:m≤1000)(g c:Nat)(hb:Blk w g x1.toArray) :
  Calls prog 31 #[.int .i64 k,.slice (some ⟨g,0,none⟩) m c] w fun e w'=>∃A c,e = .returned (.agg (Ro k 0 A m c))∧Rd w' A 0 us∧Bw w w':=by
 subst hm;refine (fZ k ht (fun _ h=>h) (by omega) g c hb).mono ?_;rintro e w' ⟨A,c',rfl,h1,h2,h3⟩;exact ⟨A,c',rfl,h2.rd,h3⟩
theorem eG {w:World}{z:Nat}{ks:List Tm}{A:Option Addr}(hZ:Blk w z Zr)(hv:∀t,t∈ks→aE t=true)(hr:Rd w A 0 ks)(x y v:Value) :
  Rd (((w.setCell ⟨z,0,none⟩ x).setCell ⟨z,1,none⟩ y).setCell ⟨z,2,none⟩ v) A 0 ks:=
 (((((aLv hZ).2 ks 30 A 0 (fun t ht=>aW (hv t ht)) hr).setCell (a:=⟨z,0,none⟩) (fun h=>h rfl) x).setCell (a:=⟨z,1,none⟩) (fun h=>h rfl) y).setCell (a:=⟨z,2,none⟩) (fun h=>h rfl) v).rd
theorem aAf (k n:Int)(ks:List Tm)(A:Option Addr)(c:Nat)(ku nu:Int)(us:List Tm)(U:Option Addr)(cu:Nat)(w:World)(hv:aE (.mk k n ks)=true)(hu:shape 30 (.mk ku nu us)=true)(huz:aH us≤1000000)(hr:Rd w A 0 ks)(hru:Rd w U 0 us)(k2 n2:Int)(s2:List Tm)(h:dC (.mk ku nu us) 0 0 (.mk k n ks) = .mk k2 n2 s2) :
  Calls prog 127 #[.agg (Ro k n A ks.length c),.int .i64 0,.agg (Ro ku nu U us.length cu),.int .i64 0] w (uO w k2 n2 s2):=by
 have hM:=aJ hv;exact xG ku nu us hu huz _ k n ks A c U cu 0 0 30 w (qG _) (by omega) (aW hv) (by omega) (by omega) (by omega) (by omega) hr hru k2 n2 s2 h
theorem aJz (k n:Int)(ks:List Tm)(A:Option Addr)(c:Nat)(ku nu:Int)(us:List Tm)(U:Option Addr)(cu:Nat)(w:World)(hv:aE (.mk k n ks)=true)(hu:shape 31 (.mk ku nu us)=true)(huz:aH us≤1000000)(hr:Rd w A 0 ks)(hru:Rd w U 0 us)(k2 n2:Int)(s2:List Tm)(h:dC (.mk ku nu us) 0 0 (.mk k n ks) = .mk k2 n2 s2) :
  Calls prog 127 #[.agg (Ro k n A ks.length c),.int .i64 0,.agg (Ro ku nu U us.length cu),.int .i64 0] w (uO w k2 n2 s2):=by
 have hM:=aJ hv;exact aCn ku nu us hu huz _ k n ks A c U cu 0 0 30 w (qG _) (by omega) (aW hv) (by omega) (by omega) (by omega) (by omega) hr hru k2 n2 s2 h
theorem nR {N:Nat}{ctx:List Tm}{t h:Tm}{kind:Int}(hs:xQ (bJ N) ctx t kind=some (.ok h)):h.k=kind∧aE h=true:=by
 rcases aO hs with ⟨b,_,hb⟩|⟨s,_,hs⟩
 ·cases hb
 ·rcases aO hs with ⟨b,_,hb⟩|⟨o,h2,hs⟩
  ·cases hb
  ·injection h2 with h2;unfold gU at hs
   split at hs
   ·injection hs with hs;injection hs with hs;subst hs;exact ⟨by assumption,(eL h2).2.1⟩
   ·injection hs with hs;cases hs
theorem zY {k n:Int}{ks:List Tm}(ha:aK k=2)(h:aE (.mk k n ks)=true):∃ka na sa kb nb sb,ks=[.mk ka na sa,.mk kb nb sb]:=by
 have h2:=eW h;obtain ⟨⟨ka,na,sa⟩,⟨kb,nb,sb⟩,rfl⟩:=aJq (ks:=ks) (by omega);exact ⟨ka,na,sa,kb,nb,sb,rfl⟩
theorem aTc {k n:Int}{ks:List Tm}(ha:aK k=3)(h:aE (.mk k n ks)=true):∃ka na sa kb nb sb kd nd sd,ks=[.mk ka na sa,.mk kb nb sb,.mk kd nd sd]:=by
 have h2:=eW h;obtain ⟨⟨ka,na,sa⟩,⟨kb,nb,sb⟩,⟨kd,nd,sd⟩,rfl⟩:=aGe (ks:=ks) (by omega);exact ⟨ka,na,sa,kb,nb,sb,kd,nd,sd,rfl⟩
theorem aLo {N:Nat}(ih:nW N)(ctx:List Tm)(C:Option Addr)(cc:Nat)(k n:Int)(A:Option Addr)(c:Nat)(ka na:Int)(sa:List Tm)(kb nb:Int)(sb:List Tm)(r:Rs Tm)(w:World)(hs:aXo (bJ N) ctx (.mk ka na sa) (.mk kb nb sb)=some r)(hva:aE (.mk ka na sa)=true)(hvb:aE (.mk kb nb sb)=true)(hvc:∀u,u∈ctx→aE u=true)(hm:ctx.length≤20)(hrc:Rd w C 0 ctx)(hr:Rd w A 0 [.mk ka na sa,.mk kb nb sb]) :
  Calls prog 120 #[.slice C ctx.length cc,.agg (Ro k n A 2 c)] w (oH w r):=by
 have hszb:=aJ hvb;obtain ⟨bk,ok,Aa,ca,rfl,a1,a2,a3,hla,ra⟩:=kZ hr;obtain ⟨Ab,cb,b1,b2,b3,hlb,rb⟩:=tI hr;simp only [Nat.zero_mul,Nat.add_zero,Nat.one_mul,Nat.reduceMul] at a1 a2 a3 b1 b2 b3
 have lbp:=kY _ _ a1;rcases aO hs with ⟨b,h1,rfl⟩|⟨⟨k3,n3,s3⟩,h1,hs⟩
 ·have hS1:=aD (fun (w:World) (hrc:Rd w C 0 ctx) (hra:Rd w Aa 0 sa)=>fY ih ctx C cc ka na sa Aa ca 3 _ w h1 hva hvc (by omega) hrc hra);have qb:=fF b;clear hs h1 hva hvb hvc ih;go_enter func120,ntmps120;go_wp2_with (go_at_call 139;refine (hS1.out _ ((hrc.alloc _).alloc _) ((ra.alloc _).alloc _)).mono ?_;rintro e w1 ⟨k3,n3,A3,l3,c3,rfl,hb1⟩;have hZ1:=bH hb1;have g1:Bw w w1:=bQ bw2 hb1;have g2:=g1.alloc g1.size (.cells (Ro k3 n3 A3 l3 c3) 25);have hZ2:=hZ1.alloc (.cells (Ro k3 n3 A3 l3 c3) 25);obtain ⟨d0,d1,d2,e0,e1,e2,lz⟩:=dA hZ2)
  refine bodyPost_ret (v:=.tuple #[.agg Zr,.int .i64 (dL b)]) (by simp [results,results120,go_sem,d0,d1,d2]) rfl ⟨0,0,none,0,0,rfl,?_⟩;exact bT g2
 ·obtain ⟨hk3,hv3⟩:=nR h1;obtain rfl:k3=3:=hk3;obtain ⟨kha,nha,sha,khb,nhb,shb,rfl⟩:=zY (k:=3) rfl hv3;have hvha:=aV (i:=0) hv3 (by simp);have hvhb:=aD (show aE (.mk khb nhb shb)=true from aV (i:=1) hv3 (by simp));have hszha:aH sha≤400:=aJ (show aE (.mk kha nha sha)=true from hvha);have hS1:=aD (fun (w:World) (hrc:Rd w C 0 ctx) (hra:Rd w Aa 0 sa)=>fY ih ctx C cc ka na sa Aa ca 3 _ w h1 hva hvc (by omega) hrc hra);rcases aO hs with ⟨b,h2,rfl⟩|⟨lj,h2,hs⟩
  ·replace h2:iL (bJ N) ctx (.mk kb nb sb) (.mk kha nha sha)=_:=h2;have hS2:=aD (fun (A2:Option Addr) (c2:Nat) (w:World) (hrc:Rd w C 0 ctx) (hrb:Rd w Ab 0 sb) (hr2:Rd w A2 0 sha)=>cC ih ctx C cc kb nb sb Ab cb kha nha sha A2 c2 _ w h2 hvb hvc (by omega) hrc hrb (by omega) hr2);have qb:=fF b;clear hs h1 h2 hva hvb hvc ih hv3 hvha;go_enter func120,ntmps120;go_upto_region 4 with (go_at_call 139;refine (hS1.out _ ((hrc.alloc _).alloc _) ((ra.alloc _).alloc _)).mono ?_;rintro e w1 ⟨A3,c3,rfl,hl3,r3,hb1⟩;have hT1:=cV hb1;have hZ1:=bH hb1;have g1:Bw w w1:=bQ bw2 hb1)
   refine rL (hT1.alloc _) (hZ1.alloc _) (show Blk _ w1.heap.size (Ro 3 n3 A3 2 c3) from (aC _ 25 _ rfl)) (g1.alloc g1.size _) ?_;intro wx hTx hZx hKx0 gx hwx;have r3x:Rd wx A3 0 [.mk kha nha sha,.mk khb nhb shb]:=by rw [hwx];exact r3.alloc _
   clear hwx;obtain ⟨bh,oh,Aha,cha,rfl,ha1,ha2,ha3,hlha,rha⟩:=kZ r3x;obtain ⟨Ahb,chb,hb1,hb2,hb3,hlhb,rhb⟩:=tI r3x;simp only [Nat.zero_mul,Nat.add_zero,Nat.one_mul,Nat.reduceMul] at ha1 ha2 ha3 hb1 hb2 hb3
   have hKx:Blk wx w1.heap.size (Ro 3 n3 (some ⟨bh,oh,none⟩) 2 c3):=hKx0;have v2:=aF hTx.three.2.2;have q2:=aF hKx.three.2.2;obtain ⟨ub1,ub2,ub3⟩:=iI gx b1 b2 b3;obtain ⟨uha1,uha2,uha3⟩:=rN ha1 ha2 ha3;refine dX wx [10] [0,1,2,3,4,5,6,7,8] 11 2 (lT:=[_,_,_,_,_,_,_,_,_]) ?_;intro q0 bq0;refine bV (aD ?_);refine bG 9 ?_
   ·go_wp2_with (go_at_call 46;refine (hS2.out _ _ _ ((hrc.below gx).below bq0) ((rb.below gx).below bq0) (rha.below bq0)).mono ?_;rintro e q1 ⟨he,hbq1⟩;obtain rfl:e = .returned (.int .i64 (dL b)):=he)
    refine aY bq0 hbq1 ?_;intro bq1 lq1;refine cD [10] (lB:=[_]) ?_;refine gS (aD ?_);have hT3:=hTx.keep bq1;have hZ3:=hZx.keep bq1;have hK3:=hKx.keep bq1;have g3:=gx.trans (bq1.mono gx.size);obtain ⟨d0,d1,d2,e0,e1,e2,lz⟩:=dA hZ3;go_wp2_with fail
    refine bodyPost_ret (v:=.tuple #[.agg Zr,.int .i64 (dL b)]) (by simp [results,results120,go_sem,d0,d1,d2]) rfl ⟨0,0,none,0,0,rfl,?_⟩;exact bT g3
  ·replace h2:iL (bJ N) ctx (.mk kb nb sb) (.mk kha nha sha)=_:=h2;have hS2:=aD (fun (A2:Option Addr) (c2:Nat) (w:World) (hrc:Rd w C 0 ctx) (hrb:Rd w Ab 0 sb) (hr2:Rd w A2 0 sha)=>cC ih ctx C cc kb nb sb Ab cb kha nha sha A2 c2 _ w h2 hvb hvc (by omega) hrc hrb (by omega) hr2);injection hs with hs;subst hs;obtain ⟨k5,n5,s5,h5⟩:=jF (dC (.mk kb nb sb) 0 0 (aI (Tm.mk 3 n3 [.mk kha nha sha,.mk khb nhb shb]).ks 1));rw [h5];have hS3:=aD (fun (A2:Option Addr) (c2:Nat) (w:World) (hr2:Rd w A2 0 shb) (hrb:Rd w Ab 0 sb)=>aAf khb nhb shb A2 c2 kb nb sb Ab cb w hvhb.out (aW hvb) (by omega) hr2 hrb k5 n5 s5 h5);clear h1 h2 hva hvb hvc ih hv3 hvha h5;go_enter func120,ntmps120;go_upto_region 4 with (go_at_call 139;refine (hS1.out _ ((hrc.alloc _).alloc _) ((ra.alloc _).alloc _)).mono ?_;rintro e w1 ⟨A3,c3,rfl,hl3,r3,hb1⟩;have hT1:=cV hb1;have hZ1:=bH hb1;have g1:Bw w w1:=bQ bw2 hb1)
   refine rL (hT1.alloc _) (hZ1.alloc _) (show Blk _ w1.heap.size (Ro 3 n3 A3 2 c3) from (aC _ 25 _ rfl)) (g1.alloc g1.size _) ?_;intro wx hTx hZx hKx0 gx hwx;have r3x:Rd wx A3 0 [.mk kha nha sha,.mk khb nhb shb]:=by rw [hwx];exact r3.alloc _
   clear hwx;obtain ⟨bh,oh,Aha,cha,rfl,ha1,ha2,ha3,hlha,rha⟩:=kZ r3x;obtain ⟨Ahb,chb,hb1,hb2,hb3,hlhb,rhb⟩:=tI r3x;simp only [Nat.zero_mul,Nat.add_zero,Nat.one_mul,Nat.reduceMul] at ha1 ha2 ha3 hb1 hb2 hb3
   have hKx:Blk wx w1.heap.size (Ro 3 n3 (some ⟨bh,oh,none⟩) 2 c3):=hKx0;have v2:=aF hTx.three.2.2;have q2:=aF hKx.three.2.2;obtain ⟨ub1,ub2,ub3⟩:=iI gx b1 b2 b3;obtain ⟨uha1,uha2,uha3⟩:=rN ha1 ha2 ha3;refine dX wx [10] [0,1,2,3,4,5,6,7,8] 11 2 (lT:=[_,_,_,_,_,_,_,_,_]) ?_;intro q0 bq0;refine bV (aD ?_);refine bG 9 ?_
   ·go_wp2_with (go_at_call 46;refine (hS2.out _ _ _ ((hrc.below gx).below bq0) ((rb.below gx).below bq0) (rha.below bq0)).mono ?_;rintro e q1 ⟨he,hbq1⟩;obtain rfl:e = .returned (.int .i64 0):=he)
    refine aY bq0 hbq1 ?_;intro bq1 lq1;refine cD [10] (lB:=[_]) ?_;refine gS (aD ?_);have hT3:=hTx.keep bq1;have hZ3:=hZx.keep bq1;have hK3:=hKx.keep bq1;have g3:=gx.trans (bq1.mono gx.size);go_upto_region 7 with fail
    refine aJh hT3 hZ3 hK3 g3 bq1 ?_;intro wu hTu hZu hKu gu hxu;have rbu:=rb.below gu;have rhbu:=rhb.below hxu;have lzu:=hZu.lt;clear v2 q2 ub1 ub2 ub3 uha1 uha2 uha3;have v2:=aF hTu.three.2.2;have q2:=aF hKu.three.2.2;obtain ⟨ub1,ub2,ub3⟩:=iI gu b1 b2 b3;obtain ⟨uhb1,uhb2,uhb3⟩:=iI hxu hb1 hb2 hb3;refine dX wu [9,10] [0,1,2,3,4,5,6,7] 11 3 (lT:=[_,_,_,_,_,_,_,_]) ?_;intro q0 bq0;refine bV (aD ?_);refine bG 8 ?_
    ·go_wp2_with (go_at_call 127;refine (hS3.out _ _ _ (rhbu.below bq0) (rbu.below bq0)).mono ?_;rintro e q1 ⟨A5,c5,rfl,hl5,hf5,hbq1⟩)
     refine aY bq0 hbq1 ?_;intro bq1 lq1;refine cD [9,10] (lB:=[_,_]) ?_;refine gS (aD ?_);have hZ5:=hZu.keep bq1;obtain ⟨d0,d1,d2,e0,e1,e2,lz⟩:=dA hZ5;have g5:=gu.trans (bq1.mono gu.size);have bq0s:=bq0.size;go_wp2_with fail
     refine bodyPost_ret (v:=.tuple #[.agg (Ro k5 n5 A5 s5.length c5),.int .i64 0]) (by simp [results,results120,go_sem,d0,d1,d2]) rfl ⟨A5,c5,rfl,hl5,?_,?_⟩
     ·exact (mU hf5).rd
     ·exact bT g5
theorem lL {N:Nat}(ih:nW N)(ctx:List Tm)(C:Option Addr)(cc:Nat)(kp np:Int)(sp:List Tm)(Ap:Option Addr)(cp:Nat)(kq nq:Int)(sq:List Tm)(Aq:Option Addr)(cq:Nat)(r:Rs Unit)(w:World)(hs:aFk (bJ N) ctx (.mk kp np sp) (.mk kq nq sq)=some r)(hvp:aE (.mk kp np sp)=true)(hszq:aH sq≤1000000)(hvc:∀u,u∈ctx→aE u=true)(hm:ctx.length≤20)(hrc:Rd w C 0 ctx)(rp:Rd w Ap 0 sp)(rq:Rd w Aq 0 sq) :
  Calls prog 140 #[.slice C ctx.length cc,.agg (Ro kp np Ap sp.length cp),.agg (Ro kq nq Aq sq.length cq)] w fun e w'=>e = .returned (.int .i64 r.cd)∧Bw w w':=by
 rcases aO hs with ⟨b,h1,rfl⟩|⟨⟨k3,n3,s3⟩,h1,hs⟩
 ·have hS1:=aD (fun (w:World) (hrc:Rd w C 0 ctx) (rp:Rd w Ap 0 sp)=>fY ih ctx C cc kp np sp Ap cp 3 _ w h1 hvp hvc (by omega) hrc rp);have qb:=fF b;clear hs h1 hvp hvc ih;go_enter func140,ntmps140;go_wp2_with (go_at_call 139;refine (hS1.out _ ((hrc.alloc _).alloc _) ((rp.alloc _).alloc _)).mono ?_;rintro e w1 ⟨k3,n3,A3,l3,c3,rfl,hb1⟩;have g1:Bw w w1:=bQ bw2 hb1;have g2:=g1.alloc g1.size (.cells (Ro k3 n3 A3 l3 c3) 25))
  go_ret
  exact ⟨rfl,g2⟩
 ·obtain ⟨hk3,hv3⟩:=nR h1;obtain rfl:k3=3:=hk3;obtain ⟨kha,nha,sha,khb,nhb,shb,rfl⟩:=zY (k:=3) rfl hv3;have hvha:aE (.mk kha nha sha)=true:=aV (i:=0) hv3 (by simp);have hvhb:aE (.mk khb nhb shb)=true:=aV (i:=1) hv3 (by simp);have hS1:=aD (fun (w:World) (hrc:Rd w C 0 ctx) (rp:Rd w Ap 0 sp)=>fY ih ctx C cc kp np sp Ap cp 3 _ w h1 hvp hvc (by omega) hrc rp);rcases aO hs with ⟨b,h2,rfl⟩|⟨u2,h2,hs⟩
  ·injection h2 with h2;replace h2:smR (.mk kha nha sha) (.mk kq nq sq)=_:=h2;have hS2:=aD (fun (A:Option Addr) (c:Nat) (w:World) (hr:Rd w A 0 sha) (rq:Rd w Aq 0 sq)=>qU kha nha sha A c kq nq sq Aq cq w hvha hszq hr rq);rw [h2] at hS2;have qb:=fF b;clear hs h1 h2 hvp hvc ih hv3 hvha hvhb;go_enter func140,ntmps140;go_upto_region 4 with (go_at_call 139;refine (hS1.out _ ((hrc.alloc _).alloc _) ((rp.alloc _).alloc _)).mono ?_;rintro e w1 ⟨A3,c3,rfl,hl3,r3,hb1⟩;have hQw1:=bH hb1;have kww1:Bw w w1:=bQ bw2 hb1)
   refine aLt (hQw1.alloc _) (show Blk _ w1.heap.size (Ro 3 n3 A3 2 c3) from (aC _ 25 _ (by simp))) (kww1.alloc (by have:=kww1.size;simp<;>omega) _) ?_;intro wx hQwx hKwx kwwx hwwx;have r3x:Rd wx A3 0 [.mk kha nha sha,.mk khb nhb shb]:=by rw [hwwx];exact r3.alloc _
   clear hwwx;obtain ⟨bh,oh,Aha,cha,rfl,ha1,ha2,ha3,hlha,rha⟩:=kZ r3x;obtain ⟨Ahb,chb,hb1,hb2,hb3,hlhb,rhb⟩:=tI r3x;simp only [Nat.zero_mul,Nat.add_zero,Nat.one_mul,Nat.reduceMul] at ha1 ha2 ha3 hb1 hb2 hb3
   replace hKwx:Blk wx w1.heap.size (Ro 3 n3 (some ⟨bh,oh,none⟩) 2 c3):=hKwx;have v2:=aF hKwx.three.2.2;obtain ⟨z0,z1,z2⟩:=iD hQwx;obtain ⟨uha1,uha2,uha3⟩:=rN ha1 ha2 ha3;refine dX wx [6] [0,1,2,3,4] 7 2 (lT:=[_,_,_,_,_]) ?_;intro q0 bq0;refine bV (aD ?_);refine bG 5 ?_
   ·go_wp2_with (go_at_call 69;refine (hS2.out _ _ _ (rha.below bq0) ((rq.below kwwx).below bq0)).mono ?_;rintro e q1 ⟨he,hbq1⟩;obtain rfl:e = .returned (.int .i64 (dL b)):=he)
    refine aY bq0 hbq1 ?_;intro bq1 lq1;refine cD [6] (lB:=[_]) ?_;refine gS (aD ?_);have hQq1:=hQwx.keep bq1;have hKq1:=hKwx.keep bq1;have kwq1:=kwwx.trans (bq1.mono kwwx.size);have kwxq1:=bq1;go_wp2_with fail
    go_ret
    exact ⟨rfl,kwq1⟩
  ·injection h2 with h2;replace h2:smR (.mk kha nha sha) (.mk kq nq sq)=_:=h2;have hS2:=aD (fun (A:Option Addr) (c:Nat) (w:World) (hr:Rd w A 0 sha) (rq:Rd w Aq 0 sq)=>qU kha nha sha A c kq nq sq Aq cq w hvha hszq hr rq);rw [h2] at hS2;rcases aO hs with ⟨b,h4,rfl⟩|⟨⟨k6,n6,s6⟩,h4,hs⟩
   ·injection h4 with h4;replace h4:lU (.mk khb nhb shb)=_:=h4;have hH:=aD (fun (A:Option Addr) (c:Nat) (w:World) (hr:Rd w A 0 shb)=>sI khb nhb shb A c w hvhb hr);rw [h4] at hH;have qb:=fF b;clear hs h1 h2 h4 hvp hvc ih hv3 hvha hvhb;go_enter func140,ntmps140;go_upto_region 4 with (go_at_call 139;refine (hS1.out _ ((hrc.alloc _).alloc _) ((rp.alloc _).alloc _)).mono ?_;rintro e w1 ⟨A3,c3,rfl,hl3,r3,hb1⟩;have hQw1:=bH hb1;have kww1:Bw w w1:=bQ bw2 hb1)
    refine aLt (hQw1.alloc _) (show Blk _ w1.heap.size (Ro 3 n3 A3 2 c3) from (aC _ 25 _ (by simp))) (kww1.alloc (by have:=kww1.size;simp<;>omega) _) ?_;intro wx hQwx hKwx kwwx hwwx;have r3x:Rd wx A3 0 [.mk kha nha sha,.mk khb nhb shb]:=by rw [hwwx];exact r3.alloc _
    clear hwwx;obtain ⟨bh,oh,Aha,cha,rfl,ha1,ha2,ha3,hlha,rha⟩:=kZ r3x;obtain ⟨Ahb,chb,hb1,hb2,hb3,hlhb,rhb⟩:=tI r3x;simp only [Nat.zero_mul,Nat.add_zero,Nat.one_mul,Nat.reduceMul] at ha1 ha2 ha3 hb1 hb2 hb3
    replace hKwx:Blk wx w1.heap.size (Ro 3 n3 (some ⟨bh,oh,none⟩) 2 c3):=hKwx;have v2:=aF hKwx.three.2.2;obtain ⟨z0,z1,z2⟩:=iD hQwx;obtain ⟨uha1,uha2,uha3⟩:=rN ha1 ha2 ha3;refine dX wx [6] [0,1,2,3,4] 7 2 (lT:=[_,_,_,_,_]) ?_;intro q0 bq0;refine bV (aD ?_);refine bG 5 ?_
    ·go_wp2_with (go_at_call 69;refine (hS2.out _ _ _ (rha.below bq0) ((rq.below kwwx).below bq0)).mono ?_;rintro e q1 ⟨he,hbq1⟩;obtain rfl:e = .returned (.int .i64 0):=he)
     refine aY bq0 hbq1 ?_;intro bq1 lq1;refine cD [6] (lB:=[_]) ?_;refine gS (aD ?_);have hQq1:=hQwx.keep bq1;have hKq1:=hKwx.keep bq1;have kwq1:=kwwx.trans (bq1.mono kwwx.size);have kwxq1:=bq1;have m2:=hKq1.three.2.2;obtain ⟨mhb1,mhb2,mhb3⟩:=xY kwxq1 hb1 hb2 hb3;go_wp2_with (go_at_call 88;refine (hH.out _ _ _ (rhb.below kwxq1)).mono ?_;rintro e w5 ⟨k6,n6,A6,l6,c6,rfl,hb5⟩;have g5:=(kwq1.trans (hb5.mono kwq1.size)).alloc (by have:=kwq1.size;have:=hb5.size;omega) (.cells (Ro k6 n6 A6 l6 c6) 25))
     go_ret
     exact ⟨rfl,g5⟩
   ·injection h4 with h4;replace h4:lU (.mk khb nhb shb)=_:=h4;have hH:=aD (fun (A:Option Addr) (c:Nat) (w:World) (hr:Rd w A 0 shb)=>sI khb nhb shb A c w hvhb hr);rw [h4] at hH;unfold aFt at hs
    by_cases hk:k6=2
    ·subst hk;rw [if_pos (show (Tm.mk 2 n6 s6).k=2 from rfl)] at hs;injection hs with hs;subst hs;clear h1 h2 h4 hvp hvc ih hv3 hvha hvhb;go_enter func140,ntmps140;go_upto_region 4 with (go_at_call 139;refine (hS1.out _ ((hrc.alloc _).alloc _) ((rp.alloc _).alloc _)).mono ?_;rintro e w1 ⟨A3,c3,rfl,hl3,r3,hb1⟩;have hQw1:=bH hb1;have kww1:Bw w w1:=bQ bw2 hb1)
     refine aLt (hQw1.alloc _) (show Blk _ w1.heap.size (Ro 3 n3 A3 2 c3) from (aC _ 25 _ (by simp))) (kww1.alloc (by have:=kww1.size;simp<;>omega) _) ?_;intro wx hQwx hKwx kwwx hwwx;have r3x:Rd wx A3 0 [.mk kha nha sha,.mk khb nhb shb]:=by rw [hwwx];exact r3.alloc _
     clear hwwx;obtain ⟨bh,oh,Aha,cha,rfl,ha1,ha2,ha3,hlha,rha⟩:=kZ r3x;obtain ⟨Ahb,chb,hb1,hb2,hb3,hlhb,rhb⟩:=tI r3x;simp only [Nat.zero_mul,Nat.add_zero,Nat.one_mul,Nat.reduceMul] at ha1 ha2 ha3 hb1 hb2 hb3
     replace hKwx:Blk wx w1.heap.size (Ro 3 n3 (some ⟨bh,oh,none⟩) 2 c3):=hKwx;have v2:=aF hKwx.three.2.2;obtain ⟨z0,z1,z2⟩:=iD hQwx;obtain ⟨uha1,uha2,uha3⟩:=rN ha1 ha2 ha3;refine dX wx [6] [0,1,2,3,4] 7 2 (lT:=[_,_,_,_,_]) ?_;intro q0 bq0;refine bV (aD ?_);refine bG 5 ?_
     ·go_wp2_with (go_at_call 69;refine (hS2.out _ _ _ (rha.below bq0) ((rq.below kwwx).below bq0)).mono ?_;rintro e q1 ⟨he,hbq1⟩;obtain rfl:e = .returned (.int .i64 0):=he)
      refine aY bq0 hbq1 ?_;intro bq1 lq1;refine cD [6] (lB:=[_]) ?_;refine gS (aD ?_);have hQq1:=hQwx.keep bq1;have hKq1:=hKwx.keep bq1;have kwq1:=kwwx.trans (bq1.mono kwwx.size);have kwxq1:=bq1;have m2:=hKq1.three.2.2;obtain ⟨mhb1,mhb2,mhb3⟩:=xY kwxq1 hb1 hb2 hb3;go_wp2_with (go_at_call 88;refine (hH.out _ _ _ (rhb.below kwxq1)).mono ?_;rintro e w5 ⟨A6,c6,rfl,hl6,r6,hb5⟩;have hL5:=aC w5 25 (Ro 2 n6 A6 s6.length c6) rfl;obtain ⟨y0,y1,y2⟩:=hL5.three;have g5:=(kwq1.trans (hb5.mono kwq1.size)).alloc (by have:=kwq1.size;have:=hb5.size;omega) (.cells (Ro 2 n6 A6 s6.length c6) 25))
      go_ret
      exact ⟨rfl,g5⟩
    ·rw [if_neg (show ¬(Tm.mk k6 n6 s6).k=2 from hk)] at hs;injection hs with hs;subst hs;have qk:(k6 != 2)=true:=by simpa using hk
     clear h1 h2 h4 hvp hvc ih hv3 hvha hvhb hk;go_enter func140,ntmps140;go_upto_region 4 with (go_at_call 139;refine (hS1.out _ ((hrc.alloc _).alloc _) ((rp.alloc _).alloc _)).mono ?_;rintro e w1 ⟨A3,c3,rfl,hl3,r3,hb1⟩;have hQw1:=bH hb1;have kww1:Bw w w1:=bQ bw2 hb1)
     refine aLt (hQw1.alloc _) (show Blk _ w1.heap.size (Ro 3 n3 A3 2 c3) from (aC _ 25 _ (by simp))) (kww1.alloc (by have:=kww1.size;simp<;>omega) _) ?_;intro wx hQwx hKwx kwwx hwwx;have r3x:Rd wx A3 0 [.mk kha nha sha,.mk khb nhb shb]:=by rw [hwwx];exact r3.alloc _
     clear hwwx;obtain ⟨bh,oh,Aha,cha,rfl,ha1,ha2,ha3,hlha,rha⟩:=kZ r3x;obtain ⟨Ahb,chb,hb1,hb2,hb3,hlhb,rhb⟩:=tI r3x;simp only [Nat.zero_mul,Nat.add_zero,Nat.one_mul,Nat.reduceMul] at ha1 ha2 ha3 hb1 hb2 hb3
     replace hKwx:Blk wx w1.heap.size (Ro 3 n3 (some ⟨bh,oh,none⟩) 2 c3):=hKwx;have v2:=aF hKwx.three.2.2;obtain ⟨z0,z1,z2⟩:=iD hQwx;obtain ⟨uha1,uha2,uha3⟩:=rN ha1 ha2 ha3;refine dX wx [6] [0,1,2,3,4] 7 2 (lT:=[_,_,_,_,_]) ?_;intro q0 bq0;refine bV (aD ?_);refine bG 5 ?_
     ·go_wp2_with (go_at_call 69;refine (hS2.out _ _ _ (rha.below bq0) ((rq.below kwwx).below bq0)).mono ?_;rintro e q1 ⟨he,hbq1⟩;obtain rfl:e = .returned (.int .i64 0):=he)
      refine aY bq0 hbq1 ?_;intro bq1 lq1;refine cD [6] (lB:=[_]) ?_;refine gS (aD ?_);have hQq1:=hQwx.keep bq1;have hKq1:=hKwx.keep bq1;have kwq1:=kwwx.trans (bq1.mono kwwx.size);have kwxq1:=bq1;have m2:=hKq1.three.2.2;obtain ⟨mhb1,mhb2,mhb3⟩:=xY kwxq1 hb1 hb2 hb3;go_wp2_with (go_at_call 88;refine (hH.out _ _ _ (rhb.below kwxq1)).mono ?_;rintro e w5 ⟨A6,c6,rfl,hl6,r6,hb5⟩;have hL5:=aC w5 25 (Ro k6 n6 A6 s6.length c6) rfl;obtain ⟨y0,y1,y2⟩:=hL5.three;have g5:=(kwq1.trans (hb5.mono kwq1.size)).alloc (by have:=kwq1.size;have:=hb5.size;omega) (.cells (Ro k6 n6 A6 s6.length c6) 25))
      go_ret
      exact ⟨rfl,g5⟩
theorem aKn {N:Nat}(ih:nW N)(ctx:List Tm)(C:Option Addr)(cc:Nat)(k n:Int)(A:Option Addr)(c:Nat)(ka na:Int)(sa:List Tm)(r:Rs Tm)(w:World)(hs:aQx (bJ N) ctx k (.mk ka na sa)=some r)(hva:aE (.mk ka na sa)=true)(hvc:∀u,u∈ctx→aE u=true)(hm:ctx.length≤20)(hrc:Rd w C 0 ctx)(hr:Rd w A 0 [.mk ka na sa]) :
  Calls prog 143 #[.slice C ctx.length cc,.agg (Ro k n A 1 c)] w (oH w r):=by
 have hsza:=aJ hva;obtain ⟨bk,ok,Aa,ca,rfl,a1,a2,a3,hla,ra⟩:=kZ hr;simp only [Nat.zero_mul,Nat.add_zero,Nat.one_mul,Nat.reduceMul] at a1 a2 a3
 have lbp:=kY _ _ a1;rcases aO hs with ⟨b,h1,rfl⟩|⟨⟨k3,n3,s3⟩,h1,hs⟩
 ·have hS1:=aD (fun (w:World) (hrc:Rd w C 0 ctx) (ra:Rd w Aa 0 sa)=>fY ih ctx C cc ka na sa Aa ca 13 _ w h1 hva hvc (by omega) hrc ra);have qb:=fF b;clear hs h1 hva hvc ih;go_enter func143,ntmps143;go_wp2_with (go_at_call 139;refine (hS1.out _ ((hrc.alloc _).alloc _) ((ra.alloc _).alloc _)).mono ?_;rintro e w1 ⟨k3,n3,A3,l3,c3,rfl,hb1⟩;have hZ1:=bH hb1;have g1:Bw w w1:=bQ bw2 hb1;have g2:=g1.alloc g1.size (.cells (Ro k3 n3 A3 l3 c3) 25);have hZ2:=hZ1.alloc (.cells (Ro k3 n3 A3 l3 c3) 25);obtain ⟨d0,d1,d2,e0,e1,e2,lz⟩:=dA hZ2)
  refine bodyPost_ret (v:=.tuple #[.agg Zr,.int .i64 (dL b)]) (by simp [results,results143,go_sem,d0,d1,d2]) rfl ⟨0,0,none,0,0,rfl,?_⟩;exact bT g2
 ·obtain ⟨hk3,hv3⟩:=nR h1;obtain rfl:k3=13:=hk3;obtain ⟨kha,nha,sha,khb,nhb,shb,rfl⟩:=zY (k:=13) rfl hv3;have hvha:=aD (show aE (.mk kha nha sha)=true from aV (i:=0) hv3 (by simp));have hvhb:=aD (show aE (.mk khb nhb shb)=true from aV (i:=1) hv3 (by simp));have hS1:=aD (fun (w:World) (hrc:Rd w C 0 ctx) (ra:Rd w Aa 0 sa)=>fY ih ctx C cc ka na sa Aa ca 13 _ w h1 hva hvc (by omega) hrc ra);by_cases hk:k=15
  ·subst hk;rw [if_pos rfl] at hs;injection hs with hs;replace hs:Rs.ok (.mk kha nha sha)=r:=hs;subst hs;clear h1 hva hvc ih hv3;go_enter func143,ntmps143;go_upto_region 5 with (go_at_call 139;refine (hS1.out _ ((hrc.alloc _).alloc _) ((ra.alloc _).alloc _)).mono ?_;rintro e w1 ⟨A3,c3,rfl,hl3,r3,hb1⟩;have hTw1:=cV hb1;have hZw1:=bH hb1;have kww1:Bw w w1:=bQ bw2 hb1;have ltw:=hTw1.lt;obtain ⟨t0,t1,t2⟩:=hTw1.three)
   refine rL (hTw1.alloc _) (hZw1.alloc _) (show Blk _ w1.heap.size (Ro 13 n3 A3 2 c3) from (aC _ 25 _ (by simp))) (kww1.alloc (by have:=kww1.size;simp<;>omega) _) ?_;intro wx hTwx hZwx hKwx kwwx hwwx;have r3x:Rd wx A3 0 [.mk kha nha sha,.mk khb nhb shb]:=by rw [hwwx];exact r3.alloc _
   clear hwwx;obtain ⟨bh,oh,Aha,cha,rfl,ha1,ha2,ha3,hlha,rha⟩:=kZ r3x;obtain ⟨Ahb,chb,hb1,hb2,hb3,hlhb,rhb⟩:=tI r3x;simp only [Nat.zero_mul,Nat.add_zero,Nat.one_mul,Nat.reduceMul] at ha1 ha2 ha3 hb1 hb2 hb3
   replace hKwx:Blk wx w1.heap.size (Ro 13 n3 (some ⟨bh,oh,none⟩) 2 c3):=hKwx;clear t0 t1 t2;have m2:=hKwx.three.2.2;obtain ⟨d0,d1,d2,e0,e1,e2,lz⟩:=dA hZwx;go_wp2_with fail
   refine bodyPost_ret (v:=.tuple #[.agg (Ro kha nha Aha sha.length cha),.int .i64 0]) (by simp [results,results143,go_sem,d0,d1,d2]) rfl ⟨Aha,cha,rfl,hlha,iG hZwx hvha.out rha _ _ _,?_⟩;exact ((kwwx.setCell (by simp<;>omega) _).setCell (by simp<;>omega) _).setCell (by simp<;>omega) _
  ·rw [if_neg hk] at hs;injection hs with hs;replace hs:Rs.ok (dC (.mk 15 0 [.mk ka na sa]) 0 0 (.mk khb nhb shb))=r:=hs;subst hs;have qk:(k==15)=false:=by simpa using hk
   have h31:shape 31 (.mk 15 0 [.mk ka na sa])=true:=by
    have:=aW hva;rw [bA];exact ⟨rfl,by omega,by decide,fun t ht=>by rw [List.mem_singleton.1 ht];exact this⟩
   obtain ⟨k5,n5,s5,h5⟩:=jF (dC (.mk 15 0 [.mk ka na sa]) 0 0 (.mk khb nhb shb));rw [h5];have hS3:=aD (fun (A2:Option Addr) (c2:Nat) (U:Option Addr) (cu:Nat) (w:World) (hr2:Rd w A2 0 shb) (hru:Rd w U 0 [.mk ka na sa])=>aJz khb nhb shb A2 c2 15 0 [.mk ka na sa] U cu w hvhb.out h31 (by simp only [aH,Tm.size];omega) hr2 hru k5 n5 s5 h5);clear h1 hva hvc ih hv3 h5 hk h31;go_enter func143,ntmps143;go_upto_region 6 with (go_at_call 139;refine (hS1.out _ ((hrc.alloc _).alloc _) ((ra.alloc _).alloc _)).mono ?_;rintro e w1 ⟨A3,c3,rfl,hl3,r3,hb1⟩;have hTw1:=cV hb1;have hZw1:=bH hb1;have kww1:Bw w w1:=bQ bw2 hb1;have ltw:=hTw1.lt;obtain ⟨t0,t1,t2⟩:=hTw1.three)
   refine rL (hTw1.alloc _) (hZw1.alloc _) (show Blk _ w1.heap.size (Ro 13 n3 A3 2 c3) from (aC _ 25 _ (by simp))) (kww1.alloc (by have:=kww1.size;simp<;>omega) _) ?_;intro wx hTwx hZwx hKwx kwwx hwwx;have r3x:Rd wx A3 0 [.mk kha nha sha,.mk khb nhb shb]:=by rw [hwwx];exact r3.alloc _
   clear hwwx;obtain ⟨bh,oh,Aha,cha,rfl,ha1,ha2,ha3,hlha,rha⟩:=kZ r3x;obtain ⟨Ahb,chb,hb1,hb2,hb3,hlhb,rhb⟩:=tI r3x;simp only [Nat.zero_mul,Nat.add_zero,Nat.one_mul,Nat.reduceMul] at ha1 ha2 ha3 hb1 hb2 hb3
   replace hKwx:Blk wx w1.heap.size (Ro 13 n3 (some ⟨bh,oh,none⟩) 2 c3):=hKwx;clear t0 t1 t2;have v2:=aF hKwx.three.2.2;have z2:=aF hTwx.three.2.2;obtain ⟨uhb1,uhb2,uhb3⟩:=rN hb1 hb2 hb3;obtain ⟨ua1,ua2,ua3⟩:=iI kwwx a1 a2 a3;refine dX wx [11,12] [0,1,2,3,4,5,6,7] 13 5 (lT:=[_,_,_,_,_,_,_,_]) ?_;intro q0 bq0;refine bV (aD ?_);refine bG 8 ?_
   ·go_wp2_with fail
    refine dO ?_;intro q1 hbq1 zq1 seq1;refine aY bq0 hbq1 ?_;intro bq1 lq1;refine bG 9 ?_
    ·go_wp2_with (go_at_call 31;refine (bP 15 (aT hla ((ra.below kwwx).below bq1).rdp cB) 1 rfl (by omega) _ _ zq1).mono ?_;rintro e q2 ⟨A7,c7,rfl,r7,hbq2⟩)
     refine aY bq1 hbq2 ?_;intro bq2 lq2;refine bG 10 ?_
     ·go_wp2_with (go_at_call 127;refine (hS3.out _ _ _ _ _ (rhb.below bq2) r7).mono ?_;rintro e q3 ⟨A5,c5,rfl,hl5,hf5,hbq3⟩)
      refine aY bq2 hbq3 ?_;intro bq3 lq3;refine cD [11,12] (lB:=[_,_]) ?_;refine gS (aD ?_);have hTq3:=hTwx.keep bq3;have hZq3:=hZwx.keep bq3;have hKq3:=hKwx.keep bq3;have kwq3:=kwwx.trans (bq3.mono kwwx.size);have kwxq3:=bq3;obtain ⟨d0,d1,d2,e0,e1,e2,lz⟩:=dA hZq3;have hqs:wx.heap.size≤q0.heap.size:=bq0.size;go_wp2_with fail
      refine bodyPost_ret (v:=.tuple #[.agg (Ro k5 n5 A5 s5.length c5),.int .i64 0]) (by simp [results,results143,go_sem,d0,d1,d2]) rfl ⟨A5,c5,rfl,hl5,?_,?_⟩
      ·have hlz:=hZwx.lt;have hl2:=lq2;have hl1:=lq1;exact (mU hf5).rd
      ·exact ((kwq3.setCell (by simp<;>omega) _).setCell (by simp<;>omega) _).setCell (by simp<;>omega) _
end Go.Proofs.YtajjhldcjikkpaaGreat
