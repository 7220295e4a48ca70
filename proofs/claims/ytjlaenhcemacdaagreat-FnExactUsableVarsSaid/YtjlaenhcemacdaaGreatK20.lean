/- Parts of the proof. No condition. -/
import Derived.Test.YtjlaenhcemacdaaGreatK16
import Derived.Test.YtjlaenhcemacdaaGreatK19
open Go.Proofs.Tryz
namespace Go.Proofs.YtjlaenhcemacdaaGreat
open Go.RowKit
set_option maxHeartbeats 8000000
set_option maxRecDepth 100000
set_option linter.unusedSimpArgs false
set_option linter.unusedVariables false
mutual
def aQx (d:Int):Tm→Bool
 | .mk k n ks=>(!(k==1 && decide (d≤n))) && aSz d k 0 ks
def aSz (d k:Int)(i:Nat):List Tm→Bool
 | []=>true
 | t::ts=>aQx (d+aM k i) t && aSz d k (i+1) ts
end
theorem aQp {k:Int}(h:k≠3∧k≠4∧k≠13)(i:Int):aM k i=0:=by
 unfold aM binds
 split
 ·rename_i h2
  simp [h.1,h.2.1,h.2.2] at h2
 ·rfl
theorem sM {k n:Int}{ks:List Tm}(hv:aE (.mk k n ks)=true){j:Nat}(hj:j<ks.length):aE (aI ks j)=true:=by
 have:=aO hv (iC hj);simpa [aI,List.getD,qR hj] using this
def Le {α:Type}(o1 o2:Option α):Prop:=∀r,o1=some r→o2=some r
theorem Le.refl {α:Type}(o:Option α):Le o o:=fun _ h=>h
theorem cA {α β:Type}{o1 o2:Option (Rs α)}{f1 f2:α→Option (Rs β)}(h:Le o1 o2)(hf:∀a,Le (f1 a) (f2 a)):Le (bd o1 f1) (bd o2 f2):=by
 intro r hr;rcases aL hr with ⟨b,h1,rfl⟩|⟨a,h1,h2⟩
 ·rw [h _ h1];rfl
 ·rw [h _ h1,oO];exact hf a r h2
section
variable {r1 r2:aRi}(hr:∀c t,Le (r1 c t) (r2 c t))(ctx:List Tm)
include hr
theorem pH (t:Tm):Le (jA r1 ctx t) (jA r2 ctx t):=cA (hr _ _) fun _=>Le.refl _
theorem uJ (t:Tm)(k:Int):Le (wY r1 ctx t k) (wY r2 ctx t k):=cA (hr _ _) fun _=>Le.refl _
theorem jK (t u:Tm):Le (jU r1 ctx t u) (jU r2 ctx t u):=cA (hr _ _) fun _=>Le.refl _
theorem aGq (a b:Tm):Le (aAt r1 ctx a b) (aAt r2 ctx a b):=cA (pH hr _ _) fun _=>cA (pH hr _ _) fun _=>Le.refl _
theorem aGl (p f:Tm):Le (aBg r1 ctx p f) (aBg r2 ctx p f):=cA (uJ hr _ _ _) fun _=>Le.refl _
theorem aNq (t:Tm):Le (dQ r1 ctx t) (dQ r2 ctx t):=by
 obtain ⟨k,n,ks⟩:=t;rw [dQ,dQ];by_cases h3:k=3∨k=13
 ·rw [if_pos h3,if_pos h3];exact aGq hr _ _ _
 rw [if_neg h3,if_neg h3];by_cases h4:k=4
 ·rw [if_pos h4,if_pos h4];exact cA (pH hr _ _) fun _=>cA (hr _ _) fun _=>cA (aGq hr _ _ _) fun _=>Le.refl _
 rw [if_neg h4,if_neg h4];by_cases h5:k=5
 ·rw [if_pos h5,if_pos h5];exact cA (uJ hr _ _ _) fun _=>cA (jK hr _ _ _) fun _=>Le.refl _
 rw [if_neg h5,if_neg h5];by_cases h9:k=9
 ·rw [if_pos h9,if_pos h9];exact cA (aGl hr _ _ _) fun _=>cA (jK hr _ _ _) fun _=>cA (jK hr _ _ _) fun _=>cA (jK hr _ _ _) fun _=>Le.refl _
 rw [if_neg h9,if_neg h9];by_cases h10:k=10
 ·rw [if_pos h10,if_pos h10];exact cA (pH hr _ _) fun _=>cA (jK hr _ _ _) fun _=>cA (jK hr _ _ _) fun _=>Le.refl _
 rw [if_neg h10,if_neg h10];by_cases h12:k=12
 ·rw [if_pos h12,if_pos h12];exact cA (uJ hr _ _ _) fun _=>cA (aGl hr _ _ _) fun _=>cA (jK hr _ _ _) fun _=>Le.refl _
 rw [if_neg h12,if_neg h12];by_cases h14:k=14
 ·rw [if_pos h14,if_pos h14];exact cA (pH hr _ _) fun _=>cA (Le.refl _) fun _=>cA (Le.refl _) fun _=>cA (jK hr _ _ _) fun _=>cA (jK hr _ _ _) fun _=>Le.refl _
 rw [if_neg h14,if_neg h14];by_cases h1:k=1
 ·rw [if_pos h1,if_pos h1];exact Le.refl _
 rw [if_neg h1,if_neg h1];by_cases h2:k=2
 ·rw [if_pos h2,if_pos h2];exact Le.refl _
 rw [if_neg h2,if_neg h2];by_cases h6:k=6
 ·rw [if_pos h6,if_pos h6];exact Le.refl _
 rw [if_neg h6,if_neg h6];by_cases h7:k=7
 ·rw [if_pos h7,if_pos h7];exact Le.refl _
 rw [if_neg h7,if_neg h7];by_cases h8:k=8
 ·rw [if_pos h8,if_pos h8];exact cA (jK hr _ _ _) fun _=>Le.refl _
 rw [if_neg h8,if_neg h8];by_cases h11:k=11
 ·rw [if_pos h11,if_pos h11];exact cA (hr _ _) fun _=>cA (pH hr _ _) fun _=>Le.refl _
 rw [if_neg h11,if_neg h11];exact cA (uJ hr _ _ _) fun _=>Le.refl _
end
theorem aGn:∀(N:Nat) (ctx:List Tm) (t:Tm),Le (bH N ctx t) (bH (N+1) ctx t)
 | 0,_,_=>fun _ h=>by cases h
 | N+1,ctx,t=>by
  intro r h;rw [bH] at h⊢;split at h
  ·rename_i hv
   rw [if_pos hv];exact cA (aNq (aGn N) ctx t) (fun _=>Le.refl _) r h
  ·rename_i hv
   rw [if_neg hv];exact h
theorem jD {N M:Nat}(h:N≤M)(ctx:List Tm)(t:Tm):Le (bH N ctx t) (bH M ctx t):=by
 induction M with
 | zero=>rw [show N=0 by omega];exact Le.refl _
 | succ M ih=>
  by_cases hN:N=M+1
  ·rw [hN];exact Le.refl _
  ·exact fun r hr=>aGn M ctx t r (ih (by omega) r hr)
def Ends (ctx:List Tm)(t:Tm):Prop:=∃N r,bH N ctx t=some r
def Df {α:Type}(o:Option α):Prop:=∃r,o=some r
theorem cH {α:Type}(r:α):Df (some r):=⟨r,rfl⟩
theorem dU {α β:Type}{o:Option (Rs α)}{f:α→Option (Rs β)}(h:Df o)(hf:∀a,o=some (.ok a)→Df (f a)):Df (bd o f):=by
 obtain ⟨r,rfl⟩:=h;cases r with
 | no b=>exact ⟨_,rfl⟩
 | ok a=>exact hf a rfl
theorem rT {α:Type}{p:Prop}[Decidable p]{a b:Option α}(ha:Df a)(hb:Df b):Df (if p then a else b):=by
 split
 ·exact ha
 ·exact hb
section
variable {rc:aRi}{ctx:List Tm}
theorem pC {t:Tm}(h:Df (rc ctx t)):Df (jA rc ctx t):=dU h fun _ _=>dU (cH _) fun _ _=>rT (cH _) (cH _)
theorem tZ {t:Tm}{k:Int}(h:Df (rc ctx t)):Df (wY rc ctx t k):=dU h fun _ _=>dU (cH _) fun _ _=>rT (cH _) (cH _)
theorem jG {t u:Tm}(h:Df (rc ctx t)):Df (jU rc ctx t u):=dU h fun _ _=>cH _
theorem aFs {a b:Tm}(ha:Df (rc ctx a))(hb:Df (rc (ctx++[a]) b)):Df (aAt rc ctx a b):=dU (pC ha) fun _ _=>dU (pC hb) fun _ _=>cH _
theorem aGa {p f:Tm}(h:Df (rc ctx p)):Df (aBg rc ctx p f):=dU (tZ h) fun _ _=>dU (cH _) fun _ _=>dU (cH _) fun _ _=>rT (cH _) (cH _)
def cxo (ctx:List Tm)(k:Int)(ks:List Tm)(i:Nat):List Tm:=if i=1∧binds k=true then ctx++[aI ks 0] else ctx
theorem aNc {k n:Int}{ks:List Tm}(hk:∀i,i<4→Df (rc (cxo ctx k ks i) (aI ks i)))(h4:k=4→∀u,rc (ctx++[aI ks 0]) (aI ks 1)=some (.ok u)→Df (rc (ctx++[aI ks 0]) u))(h11:k=11→∀u,rc ctx (aI ks 0)=some (.ok u)→Df (rc ctx u)):Df (dQ rc ctx (.mk k n ks)):=by
 have k0:Df (rc ctx (aI ks 0)):=by have:=hk 0 (by omega);rwa [cxo,if_neg (by omega)] at this
 have k2:Df (rc ctx (aI ks 2)):=by have:=hk 2 (by omega);rwa [cxo,if_neg (by omega)] at this
 have k3:Df (rc ctx (aI ks 3)):=by have:=hk 3 (by omega);rwa [cxo,if_neg (by omega)] at this
 have kb:binds k=true→Df (rc (ctx++[aI ks 0]) (aI ks 1)):=fun h=>by have:=hk 1 (by omega);rwa [cxo,if_pos ⟨rfl,h⟩] at this
 have k1:¬binds k=true→Df (rc ctx (aI ks 1)):=fun h=>by have:=hk 1 (by omega);rwa [cxo,if_neg (fun h'=>h h'.2)] at this
 rw [dQ];by_cases e3:k=3∨k=13
 ·rw [if_pos e3];exact aFs k0 (kb (by rcases e3 with rfl|rfl<;>rfl))
 rw [if_neg e3];by_cases e4:k=4
 ·rw [if_pos e4];have hb:=kb (by rw [e4];rfl);exact dU (pC k0) fun _ _=>dU hb fun u hu=>dU (aFs k0 (h4 e4 u hu)) fun _ _=>cH _
 rw [if_neg e4];have k1':=k1 (by unfold binds;simp only [Bool.or_eq_true,beq_iff_eq];omega);by_cases e5:k=5
 ·rw [if_pos e5];exact dU (tZ k0) fun _ _=>dU (jG k1') fun _ _=>cH _
 rw [if_neg e5];by_cases e9:k=9
 ·rw [if_pos e9];exact dU (aGa k0) fun _ _=>dU (jG k1') fun _ _=>dU (jG k2) fun _ _=>dU (jG k3) fun _ _=>cH _
 rw [if_neg e9];by_cases e10:k=10
 ·rw [if_pos e10];exact dU (pC k0) fun _ _=>dU (jG k1') fun _ _=>dU (jG k2) fun _ _=>cH _
 rw [if_neg e10];by_cases e12:k=12
 ·rw [if_pos e12];exact dU (tZ k1') fun _ _=>dU (aGa k0) fun _ _=>dU (jG k2) fun _ _=>cH _
 rw [if_neg e12];by_cases e14:k=14
 ·rw [if_pos e14];exact dU (pC k0) fun _ _=>dU (cH _) fun _ _=>dU (rT (cH _) (cH _)) fun _ _=>dU (jG k1') fun _ _=>dU (jG k2) fun _ _=>cH _
 rw [if_neg e14];by_cases e1:k=1
 ·rw [if_pos e1];exact rT (cH _) (cH _)
 rw [if_neg e1];by_cases e2:k=2
 ·rw [if_pos e2];exact rT (cH _) (cH _)
 rw [if_neg e2];by_cases e6:k=6
 ·rw [if_pos e6];exact cH _
 rw [if_neg e6];by_cases e7:k=7
 ·rw [if_pos e7];exact cH _
 rw [if_neg e7];by_cases e8:k=8
 ·rw [if_pos e8];exact dU (jG k0) fun _ _=>cH _
 rw [if_neg e8];by_cases e11:k=11
 ·rw [if_pos e11];exact dU k0 fun u hu=>dU (pC (h11 e11 u hu)) fun _ _=>cH _
 rw [if_neg e11];exact dU (tZ k0) fun _ _=>rT (cH _) (cH _)
end
theorem Ends.at_ {ctx:List Tm}{t:Tm}(h:Ends ctx t):∃N,∀M,N≤M→Df (bH M ctx t):=by
 obtain ⟨N,r,h⟩:=h;exact ⟨N,fun M hM=>⟨r,jD hM _ _ _ h⟩⟩
theorem aCy {N M:Nat}{ctx:List Tm}{t:Tm}{r s:Rs Tm}(h1:bH N ctx t=some r)(h2:bH M ctx t=some s):r=s:=by
 have e1:=jD (Nat.le_max_left N M) ctx t _ h1;have e2:=jD (Nat.le_max_right N M) ctx t _ h2;rw [e1] at e2;injection e2
theorem kG {ctx:List Tm}{k n:Int}{ks:List Tm}(hk:∀i,i<4→Ends (cxo ctx k ks i) (aI ks i))(h4:k=4→∀N u,bH N (ctx++[aI ks 0]) (aI ks 1)=some (.ok u)→Ends (ctx++[aI ks 0]) u)(h11:k=11→∀N u,bH N ctx (aI ks 0)=some (.ok u)→Ends ctx u):Ends ctx (.mk k n ks):=by
 obtain ⟨N0,g0⟩:=(hk 0 (by omega)).at_;obtain ⟨N1,g1⟩:=(hk 1 (by omega)).at_;obtain ⟨N2,g2⟩:=(hk 2 (by omega)).at_;obtain ⟨N3,g3⟩:=(hk 3 (by omega)).at_;have e4:∃N,k=4→∀M u,bH M (ctx++[aI ks 0]) (aI ks 1)=some (.ok u)→∀L,N≤L→Df (bH L (ctx++[aI ks 0]) u):=by
  by_cases h:∃M u,bH M (ctx++[aI ks 0]) (aI ks 1)=some (.ok u)
  ·obtain ⟨M,u,hu⟩:=h;by_cases hk4:k=4
   ·obtain ⟨N,hN⟩:=(h4 hk4 M u hu).at_;refine ⟨N,fun _ M' u' hu'=>?_⟩;have:=aCy hu hu';injection this with this;subst this;exact hN
   ·exact ⟨0,fun h=>absurd h hk4⟩
  ·exact ⟨0,fun _ M u hu=>absurd ⟨M,u,hu⟩ h⟩
 have e11:∃N,k=11→∀M u,bH M ctx (aI ks 0)=some (.ok u)→∀L,N≤L→Df (bH L ctx u):=by
  by_cases h:∃M u,bH M ctx (aI ks 0)=some (.ok u)
  ·obtain ⟨M,u,hu⟩:=h;by_cases hk4:k=11
   ·obtain ⟨N,hN⟩:=(h11 hk4 M u hu).at_;refine ⟨N,fun _ M' u' hu'=>?_⟩;have:=aCy hu hu';injection this with this;subst this;exact hN
   ·exact ⟨0,fun h=>absurd h hk4⟩
  ·exact ⟨0,fun _ M u hu=>absurd ⟨M,u,hu⟩ h⟩
 obtain ⟨N4,g4⟩:=e4;obtain ⟨N5,g5⟩:=e11;obtain ⟨M,hM⟩:∃M,M=N0+N1+N2+N3+N4+N5:=⟨_,rfl⟩;have hd:Df (dQ (bH M) ctx (.mk k n ks)):=by
  refine aNc (fun i hi=>?_) (fun e u hu=>g4 e M u hu M (by omega)) (fun e u hu=>g5 e M u hu M (by omega));rcases (show i=0∨i=1∨i=2∨i=3 by omega) with rfl|rfl|rfl|rfl
  ·exact g0 M (by omega)
  ·exact g1 M (by omega)
  ·exact g2 M (by omega)
  ·exact g3 M (by omega)
 have:Df (bH (M+1) ctx (.mk k n ks)):=by
  rw [bH];exact rT (dU hd fun _ _=>rT (cH _) (cH _)) (cH _)
 obtain ⟨r,hr⟩:=this;exact ⟨M+1,r,hr⟩
theorem aGo {a b:Tm}(h:wR a b = .ok ()):aBs a b=true∧aE b=true:=by
 unfold wR at h
 split at h
 ·rename_i hv
  split at h
  ·rename_i hc
   simp [aBs,hv.1,hv.2,hc]
  ·split at h<;>cases h
 ·cases h
theorem nB {b:Int}{t:Tm}(hb:0≤b)(ht:aE t=true)(hv:aE (bT b 0 t)=true):bD b 0 t=some (bT b 0 t):=by
 have h1:=xS hb (aZ ht) hv;have h2:=fS (aZ ht) h1;obtain ⟨v,h3⟩:=Option.isSome_iff_exists.1 h1;rw [h3] at h2⊢;exact congrArg some h2
def Tele (ctx:List Tm):Prop:=∀(i:Nat) (h:i<ctx.length),aQx (i:Int) ctx[i]=true∧aE ctx[i]=true
theorem Tele.push {ctx:List Tm}{a:Tm}(h:Tele ctx)(hc:aQx (ctx.length:Int) a=true)(hv:aE a=true):Tele (ctx++[a]):=by
 intro i hi;by_cases hlt:i<ctx.length
 ·rw [List.getElem_append_left hlt];exact h i hlt
 ·have:i=ctx.length:=by simp at hi;omega
  subst this;simpa using ⟨hc,hv⟩
theorem sV {k:Int}(h:0≤aU k)(e3:¬(k=3∨k=13))(e4:¬k=4)(e5:¬k=5)(e9:¬k=9)(e10:¬k=10)(e12:¬k=12)(e14:¬k=14)(e1:¬k=1)(e2:¬k=2)(e6:¬k=6)(e7:¬k=7)(e8:¬k=8)(e11:¬k=11):k=15∨k=16:=by
 by_cases h15:k=15
 ·exact .inl h15
 by_cases h16:k=16
 ·exact .inr h16
 unfold aU at h
 rw [if_neg e1,if_neg e2,if_neg e6,if_neg e7,if_neg e8,if_neg e11,if_neg h15,if_neg h16,if_neg (fun h=>e3 (.inl h)),if_neg e4,if_neg e5,if_neg (fun h=>e3 (.inr h)),if_neg e10,if_neg e12,if_neg e14,if_neg e9] at h;omega
def pK (w:World):Rs Tm→Ending→World→Prop
 | .ok (.mk k n ks)=>iO w k n ks
 | .no b=>fun e w'=>e = .returned (.tuple #[.agg Zr,.int .i64 (cX b)])∧Bw w w'
def GtC (w:World)(r:Rs Unit)(e:Ending)(w':World):Prop:=e = .returned (.int .i64 r.cd)∧Bw w w'
theorem dO (b:Bool):(cX b != 0)=true:=by cases b<;>decide
theorem yK:∀(f:Nat) (t:Tm),(redI bV f t).1=none→(redI bV f t).2≠0
 | f,t,h=>by
  rw [redI] at h⊢;cases hp:bV t with
  | none=>rw [hp] at h;cases h
  | some p=>
   rw [hp] at h;cases f with
   | zero=>simp
   | succ f=>
    simp only at h⊢
    cases hc:mS t p with
    | none=>simp
    | some u=>rw [hc] at h;exact yK f u h
theorem aFt {s:Tm}{b:Bool}(hv:aE s=true)(h:lD s = .no b):b=false∧∃c,redI bV 200 s=(none,c)∧c≠0:=by
 unfold lD at h
 rw [if_pos hv] at h;have hc:=yK 200 s;cases hh:redI bV 200 s with
 | mk o c=>
  rw [hh] at h hc;cases o with
  | some o=>cases h
  | none=>injection h with h;exact ⟨h.symm,c,rfl,hc rfl⟩
theorem aBb {s o:Tm}{kind:Int}(h:lD s = .ok o)(hk:o.k=kind):rF s kind=some o:=by
 have:=dC h;unfold rF
 rw [if_pos this.1,this.2.2];simp [hk]
theorem iA (k1 n1:Int)(s1:List Tm)(A1:Option Addr)(c1:Nat)(kind:Int)(r:Rs Tm)(w:World)(hv:aE (.mk k1 n1 s1)=true)(hs:bd (some (lD (.mk k1 n1 s1))) (kN kind)=some r)(hr:Rd w A1 0 s1) :
  Calls prog 107 #[.agg (Ro k1 n1 A1 s1.length c1),.int .i64 kind] w (pK w r):=by
 rcases aL hs with ⟨b,h1,rfl⟩|⟨o,h1,h2⟩
 ·obtain ⟨rfl,cc,hh,hc⟩:=aFt hv (Option.some.inj h1);have hH:=aD (fun (w:World) (hr:Rd w A1 0 s1)=>(kJ k1 n1 s1 A1 c1 200 w hv (by omega) hr).mono fun e w' h=>qX h (k:=0) (n:=0) (ks:=[]) (c:=cc) (by rw [hh];rfl) (by rw [hh]));have qc:(cc != 0)=true:=by simpa using hc
  clear hs h1 hh hc hv;go_enter func107,ntmps107;go_wp2_with (go_at_call 51;refine (hH.out _ ((hr.alloc _).alloc _)).mono ?_;rintro e w1 ⟨A3,c3,rfl,hl3,r3,hb1⟩;have hZ:=iU hb1;have g1:Bw w w1:=bU bw2 hb1;obtain ⟨d0,d1,d2,e0,e1,e2⟩:=bW hZ;have lz:=hZ.lt;have n1':w.heap.size+1≠w1.heap.size:=(by omega))
  have y:=fun (o:Obj)=>(((((hZ.set_ 0 (.int .i64 0)).set_ 1 (.int .i64 0)).set_ 2 (.slice none 0 0)).alloc o:Blk _ _ Zr)).three
  refine bodyPost_ret (v:=.tuple #[.agg Zr,.int .i64 2]) (by simp [results,results107,go_sem,y,d0,d1,d2]) rfl ⟨rfl,?_⟩;exact (bP g1).alloc (by simp [World.setCell];exact g1.size) _
 ·obtain ⟨ko,no,os⟩:=o;by_cases hk:ko=kind
  ·subst hk;have h3:r = .ok (.mk ko no os):=by simpa [kN,Tm.k] using h2.symm
   subst h3;exact lF k1 n1 s1 A1 c1 ko no os w (aBb (Option.some.inj h1) rfl) hr
  ·have h3:r = .no true:=by simpa [kN,Tm.k,hk] using h2.symm
   subst h3;have hh:=(dC (Option.some.inj h1)).2.2;have hH:=aD (fun (w:World) (hr:Rd w A1 0 s1)=>(kJ k1 n1 s1 A1 c1 200 w hv (by omega) hr).mono fun e w' h=>qX h (k:=ko) (n:=no) (ks:=os) (c:=0) (by rw [hh];rfl) (by rw [hh]));have qc:(ko != kind)=true:=by simpa using hk
   clear hs h1 hh hk hv h2;go_enter func107,ntmps107;go_wp2_with (go_at_call 51;refine (hH.out _ ((hr.alloc _).alloc _)).mono ?_;rintro e w1 ⟨A3,c3,rfl,hl3,r3,hb1⟩;have hZ:=iU hb1;have g1:Bw w w1:=bU bw2 hb1;obtain ⟨d0,d1,d2,e0,e1,e2⟩:=bW hZ;have lz:=hZ.lt;have n1':w.heap.size+1≠w1.heap.size:=(by omega))
   have y:=fun (o:Obj)=>(((((hZ.set_ 0 (.int .i64 0)).set_ 1 (.int .i64 0)).set_ 2 (.slice none 0 0)).alloc o:Blk _ _ Zr)).three
   refine bodyPost_ret (v:=.tuple #[.agg Zr,.int .i64 1]) (by simp [results,results107,go_sem,y,d0,d1,d2]) rfl ⟨rfl,?_⟩;exact (bP g1).alloc (by simp [World.setCell];exact g1.size) _
theorem lR (k1 n1:Int)(s1:List Tm)(A1:Option Addr)(c1:Nat)(k2 n2:Int)(s2:List Tm)(A2:Option Addr)(c2:Nat)(w:World)(hv1:aE (.mk k1 n1 s1)=true)(hv2:aE (.mk k2 n2 s2)=true)(hr1:Rd w A1 0 s1)(hr2:Rd w A2 0 s2) :
  Calls prog 97 #[.agg (Ro k1 n1 A1 s1.length c1),.agg (Ro k2 n2 A2 s2.length c2)] w (GtC w (wR (.mk k1 n1 s1) (.mk k2 n2 s2))):=by
 have hC:=aD (fun (w:World) (hr1:Rd w A1 0 s1) (hr2:Rd w A2 0 s2)=>sI k1 n1 s1 A1 c1 k2 n2 s2 A2 c2 200 w (by omega) hv1 hv2 hr1 hr2);unfold wR
 rw [if_pos ⟨hv1,hv2⟩];by_cases h1:eP 200 (.mk k1 n1 s1) (.mk k2 n2 s2)=1
 ·rw [if_pos h1];rw [h1] at hC;clear hv1 hv2 h1;go_enter func97,ntmps97;go_wp2_with (go_at_call 52;refine (hC.out _ ((hr1.alloc _).alloc _) ((hr2.alloc _).alloc _)).mono ?_;rintro e w1 ⟨rfl,hb1⟩)
  go_ret
  exact ⟨rfl,bw2.trans (hb1.mono (by simp;omega))⟩
 rw [if_neg h1];by_cases h2:eP 200 (.mk k1 n1 s1) (.mk k2 n2 s2)=2
 ·rw [if_pos h2];rw [h2] at hC;clear hv1 hv2 h1 h2;go_enter func97,ntmps97;go_wp2_with (go_at_call 52;refine (hC.out _ ((hr1.alloc _).alloc _) ((hr2.alloc _).alloc _)).mono ?_;rintro e w1 ⟨rfl,hb1⟩)
  go_ret
  exact ⟨rfl,bw2.trans (hb1.mono (by simp;omega))⟩
 rw [if_neg h2];generalize eP 200 (.mk k1 n1 s1) (.mk k2 n2 s2)=x at *
 have q1:(x==1)=false:=by simpa using h1
 have q2:(x==2)=false:=by simpa using h2
 clear hv1 hv2 h1 h2;go_enter func97,ntmps97;go_wp2_with (go_at_call 52;refine (hC.out _ ((hr1.alloc _).alloc _) ((hr2.alloc _).alloc _)).mono ?_;rintro e w1 ⟨rfl,hb1⟩)
 go_ret
 exact ⟨rfl,bw2.trans (hb1.mono (by simp;omega))⟩
theorem dB (k1 n1:Int)(s1:List Tm)(A1:Option Addr)(c1:Nat)(w:World)(hM:aG s1≤1000000)(hv:aE (.mk k1 n1 s1)=false)(hr:Rd w A1 0 s1) :
  Calls prog 99 #[.agg (Ro k1 n1 A1 s1.length c1),.bool true] w fun e w'=>e = .returned (.tuple #[.agg Zr,.int .i64 2])∧Bw w w':=by
 have hv':=aD hv;clear hv;go_enter func99,ntmps99;go_wp2_with (go_at_call 58;refine (bI k1 n1 s1 A1 c1 _ (by omega) ((hr.alloc _).alloc _)).mono ?_;rw [hv'.out];rintro e w1 ⟨rfl,hb1⟩;have hZ:=iU hb1;have g1:Bw w w1:=bU bw2 hb1;obtain ⟨d0,d1,d2,e0,e1,e2⟩:=bW hZ)
 refine bodyPost_ret (v:=.tuple #[.agg Zr,.int .i64 2]) (by simp [results,results99,go_sem,d0,d1,d2]) rfl ⟨rfl,?_⟩;exact bP g1
theorem gX (w:World):Calls prog 99 #[.agg Zr,.bool false] w fun e w'=>e = .returned (.tuple #[.agg Zr,.int .i64 2])∧Bw w w':=by
 go_enter func99,ntmps99;go_wp2_with fail
 refine bodyPost_ret (v:=.tuple #[.agg Zr,.int .i64 2]) (by simp [results,results99,go_sem]) rfl ⟨rfl,?_⟩;exact bw2
def TyX (fc:Nat)(ev:Array Value)(w:World)(ty:Nat→Option (Rs Tm)):Prop:=Clo fc ev∧∀(i:Nat) (r:Rs Tm),i<4→ty i=some r→∀w',Bw w w'→∀args,args=#[.int .i64 i]++ev→Calls prog fc args w' (pK w' r)
def okO (ty:Nat→Option (Rs Tm))(i:Nat):Option Tm:=match ty i with|some (.ok t)=>some t|_=>none
theorem uV {ty:Nat→Option (Rs Tm)}{i:Nat}{t:Tm}(h:ty i=some (.ok t)):okO ty i=some t:=by simp [okO,h]
theorem aNz {ty:Nat→Option (Rs Tm)}{i:Nat}{t:Tm}(h:okO ty i=some t):ty i=some (.ok t):=by
 unfold okO at h
 split at h
 ·injection h with h;subst h;assumption
 ·cases h
theorem TyX.ok {fc:Nat}{ev:Array Value}{w:World}{ty:Nat→Option (Rs Tm)}(h:TyX fc ev w ty):TyOk fc ev w (okO ty):=
 ⟨h.1,fun i k n ks hi ht w' hw args ha=>h.2 i _ hi (aNz ht) w' hw args ha⟩
theorem TyX.below {fc:Nat}{ev:Array Value}{w w':World}{ty:Nat→Option (Rs Tm)}(h:TyX fc ev w ty)(hb:Bw w w'):TyX fc ev w' ty:=⟨h.1,fun i r hi ht w2 hw2=>h.2 i r hi ht w2 (hb.trans (hw2.mono hb.size))⟩
def TyV (ty:Nat→Option (Rs Tm)):Prop:=∀i s,ty i=some (.ok s)→aE s=true
theorem aAz {o:Option (Rs Tm)}{kind:Int}{r:Rs Tm}(h:qT o kind=some r):(∃b,o=some (.no b)∧r = .no b)∨∃s,o=some (.ok s)∧bd (some (lD s)) (kN kind)=some r:=aL h
theorem aMk {s t:Tm}{kind:Int}(h:bd (some (lD s)) (kN kind)=some (.ok t)):rF s kind=some t:=by
 rcases aL h with ⟨b,_,h2⟩|⟨o,h1,h2⟩
 ·cases h2
 ·unfold kN at h2
  split at h2
  ·injection h2 with h2;injection h2 with h2;subst h2;exact aBb (Option.some.inj h1) ‹_›
  ·injection h2 with h2;cases h2
theorem oX {ty:Nat→Option (Rs Tm)}{i:Nat}{kind:Int}{t:Tm}(h:qT (ty i) kind=some (.ok t)):fmS (okO ty i) kind=some t:=by
 rcases aAz h with ⟨b,_,h2⟩|⟨s,h1,h2⟩
 ·cases h2
 ·rw [uV h1];exact aMk h2
theorem aKm (C:Option Addr)(m cc:Nat)(k n:Int)(A:Option Addr)(la c fc:Nat)(ev:Array Value)(i:Nat)(hi:i<4)(kind:Int)(b:Bool)(ty:Nat→Option (Rs Tm))(w:World)(hs:qT (ty i) kind=some (.no b))(hT:TyX fc ev w ty)(hv:TyV ty) :
  Calls prog 141 #[.agg #[.slice C m cc,.int .i64 k,.int .i64 n,.slice A la c,.func (.func fc) #[] ev],.int .i64 i,.int .i64 kind] w (pK w (.no b)):=by
 have qb:=dO b;obtain ⟨b2,b3,rfl,rfl⟩:=hT.1;all_goals
  rcases aAz hs with ⟨b',h1,h2⟩|⟨s,h1,h2⟩
  ·injection h2 with h2;subst h2;have h1':=aD h1;clear hs h1;go_enter func141,ntmps141;go_wp2_with (go_at_call 116;refine (hT.2 i _ hi h1'.out _ bw2 _ (by rfl)).mono ?_;rintro e w1 ⟨rfl,hb1⟩;have hZ:=iU hb1;have g1:Bw w w1:=bU bw2 hb1;obtain ⟨d0,d1,d2,e0,e1,e2⟩:=bW hZ;have lz:=hZ.lt;have n1':w.heap.size+1≠w1.heap.size:=(by omega))
   have y:=fun (o:Obj)=>(((((hZ.set_ 0 (.int .i64 0)).set_ 1 (.int .i64 0)).set_ 2 (.slice none 0 0)).alloc o:Blk _ _ Zr)).three
   refine bodyPost_ret (v:=.tuple #[.agg Zr,.int .i64 (cX b)]) (by simp [results,results141,go_sem,y,d0,d1,d2]) rfl ⟨rfl,?_⟩;exact (bP g1).alloc (by simp [World.setCell];exact g1.size) _
  ·obtain ⟨k1,n1,s1⟩:=s;have hv1:=aD (hv _ _ h1);have h1':=aD h1;have h2':=aD h2;clear hs h1 h2;go_enter func141,ntmps141;go_wp2_with (first
    | (go_at_call 107;have _t:=tok1;refine (iA k1 n1 s1 A1 c1 kind (.no b) _ hv1.out h2'.out (r1.alloc _)).mono ?_;rintro e w2 ⟨rfl,hb2⟩;have hZ2:=(hZ.alloc (.cells (Ro k1 n1 A1 s1.length c1) 32)).keep hb2;have g2:=(g1.alloc g1.size (.cells (Ro k1 n1 A1 s1.length c1) 32)).trans (hb2.mono (by have:=g1.size;simp;omega));obtain ⟨d0,d1,d2,e0,e1,e2⟩:=bW hZ2)
    | (go_at_call 116;refine (hT.2 i _ hi h1'.out _ bw2 _ (by rfl)).mono ?_;rintro e w1 ⟨A1,c1,rfl,hl1,r1,hb1⟩;have hZ:=iU hb1;have g1:Bw w w1:=bU bw2 hb1;have lz:=hZ.lt;have tok1:=trivial))
   refine bodyPost_ret (v:=.tuple #[.agg Zr,.int .i64 (cX b)]) (by simp [results,results141,go_sem,d0,d1,d2]) rfl ⟨rfl,?_⟩;exact bP g2
theorem iT (C:Option Addr)(m cc:Nat)(k n:Int)(A:Option Addr)(la c fc:Nat)(ev:Array Value)(i:Nat)(hi:i<4)(kind:Int)(r:Rs Tm)(ty:Nat→Option (Rs Tm))(w:World)(hs:qT (ty i) kind=some r)(hT:TyX fc ev w ty)(hv:TyV ty) :
  Calls prog 141 #[.agg #[.slice C m cc,.int .i64 k,.int .i64 n,.slice A la c,.func (.func fc) #[] ev],.int .i64 i,.int .i64 kind] w (pK w r):=by
 cases r with
 | no b=>exact aKm C m cc k n A la c fc ev i hi kind b ty w hs hT hv
 | ok t=>
  have h:=oX hs;obtain ⟨n3,s3,rfl,_⟩:=nE h;exact hE C m cc k n A la c fc ev i hi kind n3 s3 _ w h hT.ok
def GtI (w:World):Rs Int→Ending→World→Prop
 | .ok l=>fun e w'=>e = .returned (.tuple #[.int .i64 l,.int .i64 0])∧Bw w w'
 | .no b=>fun e w'=>e = .returned (.tuple #[.int .i64 0,.int .i64 (cX b)])∧Bw w w'
theorem zN {o:Option (Rs Tm)}{r:Rs Int}(h:pJ o=some r):(∃b,qT o 2=some (.no b)∧r = .no b)∨∃s3 l,qT o 2=some (.ok (.mk 2 l s3))∧r = .ok l:=by
 rcases aL h with ⟨b,h1,rfl⟩|⟨s,h1,h2⟩
 ·exact .inl ⟨b,by rw [qT,h1];rfl,rfl⟩
 ·rcases aL h2 with ⟨b,h3,rfl⟩|⟨t,h3,h4⟩
  ·exact .inl ⟨b,by rw [qT,h1,oO,h3];rfl,rfl⟩
  ·obtain ⟨kt,nt,st⟩:=t;unfold vE at h4
   split at h4
   ·rename_i hk
    injection h4 with h4;obtain rfl:kt=2:=hk;exact .inr ⟨st,nt,by rw [qT,h1,oO,h3];rfl,h4.symm⟩
   ·rename_i hk
    injection h4 with h4;exact .inl ⟨true,by rw [qT,h1,oO,h3,oO,kN,if_neg hk],h4.symm⟩
theorem fU (C:Option Addr)(m cc:Nat)(k n:Int)(A:Option Addr)(la c fc:Nat)(ev:Array Value)(i:Nat)(hi:i<4)(r:Rs Int)(ty:Nat→Option (Rs Tm))(w:World)(hs:pJ (ty i)=some r)(hT:TyX fc ev w ty)(hv:TyV ty) :
  Calls prog 155 #[.agg #[.slice C m cc,.int .i64 k,.int .i64 n,.slice A la c,.func (.func fc) #[] ev],.int .i64 i] w (GtI w r):=by
 rcases zN hs with ⟨b,h1,rfl⟩|⟨s3,l,h1,rfl⟩
 all_goals
  have h1':=aD h1;clear hs h1;go_enter func155,ntmps155
 ·go_wp2_with (go_at_call 141;refine (iT C m cc k n A la c fc ev i hi 2 _ ty _ h1'.out (hT.below bw1) hv).mono ?_;rintro e w1 ⟨rfl,hb1⟩;have g1:Bw w w1:=bU bw1 hb1)
  go_ret2
  exact ⟨rfl,g1.alloc g1.size _⟩
 ·go_wp2_with (go_at_call 141;refine (iT C m cc k n A la c fc ev i hi 2 _ ty _ h1'.out (hT.below bw1) hv).mono ?_;rintro e w1 ⟨A3,c3,rfl,hl3,r3,hb1⟩;have g1:Bw w w1:=bU bw1 hb1)
  go_ret2
  exact ⟨rfl,g1.alloc g1.size _⟩
theorem gP (C:Option Addr)(m cc:Nat)(k n:Int)(A:Option Addr)(la c fc:Nat)(ev:Array Value)(i:Nat)(hi:i<4)(k2 n2:Int)(s2:List Tm)(A2:Option Addr)(c2:Nat)(r:Rs Unit)(ty:Nat→Option (Rs Tm))(w:World)(hs:kF (ty i) (.mk k2 n2 s2)=some r)(hT:TyX fc ev w ty)(hv:TyV ty)(hv2:aE (.mk k2 n2 s2)=true)(hr2:Rd w A2 0 s2) :
  Calls prog 138 #[.agg #[.slice C m cc,.int .i64 k,.int .i64 n,.slice A la c,.func (.func fc) #[] ev],.int .i64 i,.agg (Ro k2 n2 A2 s2.length c2)] w (GtC w r):=by
 obtain ⟨b2,b3,rfl,rfl⟩:=hT.1;all_goals
  rcases aL hs with ⟨b,h1,rfl⟩|⟨s,h1,h2⟩
  ·have qb:=dO b;have h1':=aD h1;clear hs h1;go_enter func138,ntmps138;go_wp2_with (go_at_call 116;refine (hT.2 i _ hi h1'.out _ bw2 _ (by rfl)).mono ?_;rintro e w1 ⟨rfl,hb1⟩;have g1:Bw w w1:=bU bw2 hb1)
   go_ret
   exact ⟨rfl,g1.alloc g1.size _⟩
  ·obtain ⟨k1,n1,s1⟩:=s;have hv1:=aD (hv _ _ h1);have h1':=aD h1;obtain rfl:=Option.some.inj h2;have hv2':=aD hv2;clear hs h1 h2 hv2;go_enter func138,ntmps138;go_wp2_with (first
    | (go_at_call 97;have _t:=tok1;refine (lR k1 n1 s1 A1 c1 k2 n2 s2 A2 c2 _ hv1.out hv2'.out (r1.alloc _) ((hr2.below g1).alloc _)).mono ?_;rintro e w2 ⟨rfl,hb2⟩;have g2:=(g1.alloc g1.size (.cells (Ro k1 n1 A1 s1.length c1) 32)).trans (hb2.mono (by have:=g1.size;simp;omega)))
    | (go_at_call 116;refine (hT.2 i _ hi h1'.out _ bw2 _ (by rfl)).mono ?_;rintro e w1 ⟨A1,c1,rfl,hl1,r1,hb1⟩;have hZ:=iU hb1;have g1:Bw w w1:=bU bw2 hb1;have lz:=hZ.lt;obtain ⟨d0,d1,d2⟩:=hZ.three;have tok1:=trivial))
   go_ret
   exact ⟨rfl,g2⟩
theorem lV (C:Option Addr)(m cc:Nat)(k n:Int)(A:Option Addr)(la c fc:Nat)(ev:Array Value)(i:Nat)(hi:i<4)(k2 n2:Int)(s2:List Tm)(A2:Option Addr)(c2:Nat)(r:Rs Unit)(ty:Nat→Option (Rs Tm))(w:World)(hs:kF (ty i) (.mk k2 n2 s2)=some r)(hT:TyX fc ev w ty)(hv:TyV ty)(hv2:aE (.mk k2 n2 s2)=true)(hr2:Rd w A2 0 s2) :
  Calls prog 142 #[.agg #[.slice C m cc,.int .i64 k,.int .i64 n,.slice A la c,.func (.func fc) #[] ev],.int .i64 i,.agg (Ro k2 n2 A2 s2.length c2),.int .i64 0] w (GtC w r):=by
 have hs':=aD hs;have hv':=aD hv2;clear hs hv2;go_enter func142,ntmps142;go_wp2_with (go_at_call 138;refine (gP C m cc k n A la c fc ev i hi k2 n2 s2 A2 c2 r ty _ hs'.out (hT.below bw2) hv hv'.out ((hr2.alloc _).alloc _)).mono ?_;rintro e w1 ⟨rfl,hb1⟩;have g1:Bw w w1:=bU bw2 hb1)
 go_ret
 exact ⟨rfl,g1⟩
theorem kI (C:Option Addr)(m cc:Nat)(k n:Int)(A:Option Addr)(la c fc:Nat)(ev:Array Value)(i:Nat)(hi:i<4)(b:Bool)(k2 n2:Int)(A2:Option Addr)(l2 c2:Nat)(w:World) :
  Calls prog 142 #[.agg #[.slice C m cc,.int .i64 k,.int .i64 n,.slice A la c,.func (.func fc) #[] ev],.int .i64 i,.agg (Ro k2 n2 A2 l2 c2),.int .i64 (cX b)] w (GtC w (.no b)):=by
 have qb:=dO b;go_enter func142,ntmps142;go_wp2_with fail
 go_ret
 exact ⟨rfl,bw2⟩
theorem nJ {o:Option (Rs Tm)}{t:Tm}{k:Int}(h:qT o k=some (.ok t)):aE t=true∧t.k=k:=by
 rcases aAz h with ⟨b,_,h2⟩|⟨s,h1,h2⟩
 ·cases h2
 ·rcases aL h2 with ⟨b,_,h3⟩|⟨o,h3,h4⟩
  ·cases ‹Rs.ok _=Rs.no _›
  ·unfold kN at h4
   split at h4
   ·injection h4 with h4;injection h4 with h4;subst h4;exact ⟨(dC (Option.some.inj h3)).2.1,‹_›⟩
   ·injection h4 with h4;cases h4
theorem vZ {k n:Int}{ks:List Tm}(h:aE (.mk k n ks)=true)(hk:aU k=2):∃ka na sa kb nb sb,ks=[.mk ka na sa,.mk kb nb sb]:=by
 obtain ⟨⟨ka,na,sa⟩,⟨kb,nb,sb⟩,rfl⟩:=jY (l:=ks) (by have:=(bG h).1;omega);exact ⟨ka,na,sa,kb,nb,sb,rfl⟩
theorem tK (C:Option Addr)(m cc:Nat)(k n:Int)(A:Option Addr)(la c fc:Nat)(ev:Array Value)(i:Nat)(hi:i<4)(k2 n2:Int)(s2:List Tm)(A2:Option Addr)(c2:Nat)(r:Rs Unit)(ty:Nat→Option (Rs Tm))(w:World)(hs:faV (ty i) (.mk k2 n2 s2)=some r)(hT:TyX fc ev w ty)(hv:TyV ty)(hv2:aE (.mk k2 n2 s2)=true)(hr2:Rd w A2 0 s2) :
  Calls prog 156 #[.agg #[.slice C m cc,.int .i64 k,.int .i64 n,.slice A la c,.func (.func fc) #[] ev],.int .i64 i,.agg (Ro k2 n2 A2 s2.length c2)] w (GtC w r):=by
 rcases aL hs with ⟨b,h1,rfl⟩|⟨t,h1,hs⟩
 ·have qb:=dO b;have h1':=aD h1;clear hs h1 hv2;go_enter func156,ntmps156;go_wp2_with (go_at_call 141;refine (iT C m cc k n A la c fc ev i hi 3 _ ty _ h1'.out (hT.below bw2) hv).mono ?_;rintro e w1 ⟨rfl,hb1⟩;have g1:Bw w w1:=bU bw2 hb1)
  go_ret
  exact ⟨rfl,g1.alloc g1.size _⟩
 obtain ⟨hvt,hk⟩:=nJ h1;obtain ⟨kt,n3,st⟩:=t;obtain rfl:kt=3:=hk;obtain ⟨ka,na,sa,kb,nb,sb,rfl⟩:=vZ hvt rfl;have hva:=aD (aO hvt (t:=.mk ka na sa) (by simp));have hvb:=aD (aO hvt (t:=.mk kb nb sb) (by simp));have hv2':=aD hv2;have h1':=aD h1;have hk0:aI [Tm.mk ka na sa,.mk kb nb sb] 0 = .mk ka na sa:=rfl;have hk1:aI [Tm.mk ka na sa,.mk kb nb sb] 1 = .mk kb nb sb:=rfl;simp only [Tm.ks,hk0,hk1] at hs
 have hcases:(∃b,wR (.mk ka na sa) (.mk k2 n2 s2) = .no b∧r = .no b)∨∃r',wR (.mk ka na sa) (.mk k2 n2 s2) = .ok ()∧bd (some (lD (.mk kb nb sb))) (kN 2)=some r'∧r.cd=r'.cd:=by
  rcases aL hs with ⟨b,h2,rfl⟩|⟨u,h2,h3⟩
  ·exact .inl ⟨b,Option.some.inj h2,rfl⟩
  ·refine .inr ?_;rcases aL h3 with ⟨b,h4,rfl⟩|⟨o,h4,h5⟩
   ·exact ⟨.no b,Option.some.inj h2,by rw [h4];rfl,rfl⟩
   ·unfold aHj at h5
    split at h5
    ·rename_i ho
     exact ⟨.ok o,Option.some.inj h2,by rw [h4,oO,kN,if_pos ho],by injection h5 with h5;subst h5;rfl⟩
    ·rename_i ho
     exact ⟨.no true,Option.some.inj h2,by rw [h4,oO,kN,if_neg ho],by injection h5 with h5;subst h5;rfl⟩
 clear hs h1 hv2 hvt hk0 hk1;rcases hcases with ⟨b,hsm,rfl⟩|⟨r',hsm,hsh,hcd⟩
 all_goals
  replace hsm:=aD hsm;go_enter func156,ntmps156;go_upto_region 4 with (go_at_call 141;refine (iT C m cc k n A la c fc ev i hi 3 _ ty _ h1'.out (hT.below bw2) hv).mono ?_;rintro e w1 ⟨A3,c3,rfl,hl3,r3,hb1⟩;have hY:Blk w1 (w.heap.size+1) (Ro k2 n2 A2 s2.length c2):=iU hb1;have g1:Bw w w1:=bU bw2 hb1;have r2:=hr2.below g1)
  refine aW ?_;intro wx hwx;have hT7x:Blk wx w1.heap.size (Ro 3 n3 A3 2 c3):=by rw [hwx];exact aC _ 32 _ rfl
  have hYx:Blk wx (w.heap.size+1) (Ro k2 n2 A2 s2.length c2):=by rw [hwx];exact hY.alloc _
  have gx:Bw w wx:=by rw [hwx];exact g1.alloc g1.size _
  have r3x:Rd wx A3 0 [.mk ka na sa,.mk kb nb sb]:=by rw [hwx];exact r3.alloc _
  have r2x:Rd wx A2 0 s2:=by rw [hwx];exact r2.alloc _
  clear hwx;obtain ⟨ba,oa,Aa,ca,rfl,i1,i2,i3,hla,ra⟩:=oJ r3x;obtain ⟨Ab,cb,j1,j2,j3,hlb,rb⟩:=tV r3x;simp only [Nat.zero_mul,Nat.add_zero,Nat.one_mul,Nat.reduceMul] at i1 i2 i3 j1 j2 j3
  obtain ⟨u0,u1,u2⟩:=jR hT7x;obtain ⟨v0,v1,v2⟩:=jR hYx;obtain ⟨y0,y1,y2⟩:=qD i1 i2 i3;refine eT wx [6] [0,1,2,3,4] 7 2 (lT:=[_,_,_,_,_]) ?_;intro q0 bq0;refine bZ (aD ?_);refine bB 5 ?_
 ·have qb:=dO b;go_wp2_with (go_at_call 97;refine (lR ka na sa Aa ca k2 n2 s2 A2 c2 _ hva.out hv2'.out (ra.below bq0) (r2x.below bq0)).mono ?_;rw [hsm.out];rintro e q1 ⟨he,hbq1⟩;obtain rfl:e = .returned (.int .i64 (cX b)):=he)
  refine aX bq0 hbq1 ?_;intro bq1 lq1;refine cP [6] (lB:=[_]) ?_;have gz:=gx.trans (bq1.mono gx.size);go_wp2_with fail
  go_ret
  exact ⟨rfl,gz⟩
 ·go_wp2_with (go_at_call 97;refine (lR ka na sa Aa ca k2 n2 s2 A2 c2 _ hva.out hv2'.out (ra.below bq0) (r2x.below bq0)).mono ?_;rw [hsm.out];rintro e q1 ⟨he,hbq1⟩;obtain rfl:e = .returned (.int .i64 0):=he)
  refine aX bq0 hbq1 ?_;intro bq1 lq1;refine cP [6] (lB:=[_]) ?_;have hT7:=hT7x.keep bq1;have gz:=gx.trans (bq1.mono gx.size);have rbz:=rb.below bq1;obtain ⟨p0,p1,p2⟩:=hT7.three;have lp:=hT7.lt;obtain ⟨z0,z1,z2⟩:=wT bq1 j1 j2 j3;obtain ⟨kr,hkr⟩:∃x,x=r.cd:=⟨_,rfl⟩;rw [← hkr] at hcd;cases r' with
  | no b=>
   go_wp2_with (go_at_call 107;refine (iA kb nb sb Ab cb 2 _ _ hvb.out hsh rbz).mono ?_;rintro e w9 ⟨rfl,hb9⟩)
   go_ret
   exact ⟨by rw [← hkr,hcd];rfl,gz.trans (hb9.mono gz.size)⟩
  | ok o=>
   obtain ⟨ko,no,so⟩:=o;go_wp2_with (go_at_call 107;refine (iA kb nb sb Ab cb 2 _ _ hvb.out hsh rbz).mono ?_;rintro e w9 ⟨A9,c9,rfl,hl9,r9,hb9⟩)
   go_ret
   exact ⟨by rw [← hkr,hcd];rfl,gz.trans (hb9.mono gz.size)⟩
theorem wH {ty:Nat→Option (Rs Tm)}{i:Nat}{l:Int}(h:pJ (ty i)=some (.ok l)):lvS (okO ty i)=some l:=by
 rcases zN h with ⟨b,_,h2⟩|⟨s3,l',h1,h2⟩
 ·cases h2
 ·injection h2 with h2;subst h2;have h3:=oX h1;cases hs:okO ty i with
  | none=>rw [hs] at h3;cases h3
  | some s=>rw [hs] at h3;show (rF s 2).map (fun h=>h.n)=some l;rw [show rF s 2=some (.mk 2 l s3) from h3];rfl
theorem vN (C:Option Addr)(m cc:Nat)(k n:Int)(A:Option Addr)(c fc:Nat)(ev:Array Value)(la:Nat)(r:Rs Tm)(ty:Nat→Option (Rs Tm))(w:World)(hs:(bd (pJ (ty 0)) fun i=>bd (pJ (ty 1)) fun j=>some (.ok (.mk 2 (if j<i then i else j) [])))=some r)(hT:TyX fc ev w ty)(hv:TyV ty) :
  Calls prog 139 #[.agg #[.slice C m cc,.int .i64 k,.int .i64 n,.slice A la c,.func (.func fc) #[] ev]] w (pK w r):=by
 rcases aL hs with ⟨b,h1,rfl⟩|⟨i,h1,hs⟩
 ·have qb:=dO b;replace h1:=aD h1;clear hs;go_enter func139,ntmps139;go_wp2_with (go_at_call 155;refine (fU C m cc k n A la c fc ev 0 (by omega) _ ty _ h1.out (hT.below bw2) hv).mono ?_;rintro e w1 ⟨rfl,hb1⟩;have hZ1:=iU hb1;have g1:Bw w w1:=bU bw2 hb1;obtain ⟨d0,d1,d2,e0,e1,e2⟩:=bW hZ1)
  refine bodyPost_ret (v:=.tuple #[.agg Zr,.int .i64 (cX b)]) (by simp [results,results139,go_sem,d0,d1,d2]) rfl ⟨rfl,?_⟩;exact bP g1
 rcases aL hs with ⟨b,h2,rfl⟩|⟨j,h2,hs⟩
 ·have qb:=dO b;replace h1:=aD h1;replace h2:=aD h2;clear hs;go_enter func139,ntmps139;go_wp2_with (first
   | (go_at_call 155;have _t:=tok1;refine (fU C m cc k n A la c fc ev 1 (by omega) _ ty _ h2.out (hT.below g1) hv).mono ?_;rintro e w2 ⟨rfl,hb2⟩;have hZ2:=hZ1.keep hb2;have g2:=g1.trans (hb2.mono g1.size);obtain ⟨d0,d1,d2,e0,e1,e2⟩:=bW hZ2)
   | (go_at_call 155;refine (fU C m cc k n A la c fc ev 0 (by omega) _ ty _ h1.out (hT.below bw2) hv).mono ?_;rintro e w1 ⟨rfl,hb1⟩;have hZ1:=iU hb1;have hJ1:=((aC w 105 #[.slice C m cc,.int .i64 k,.int .i64 n,.slice A la c,.func (.func fc) #[] ev] rfl).alloc (.cells Zr 32)).keep hb1;have g1:Bw w w1:=bU bw2 hb1;have j0:=hJ1.at_ (i:=0) rfl;have j1:=hJ1.at_ (i:=1) rfl;have j2:=hJ1.at_ (i:=2) rfl;have j3:=hJ1.at_ (i:=3) rfl;have j4:=hJ1.at_ (i:=4) rfl;have tok1:=trivial))
  refine bodyPost_ret (v:=.tuple #[.agg Zr,.int .i64 (cX b)]) (by simp [results,results139,go_sem,d0,d1,d2]) rfl ⟨rfl,?_⟩;exact bP g2
 obtain rfl:=(Option.some.inj hs).symm;have hmx:(if j<i then i else j)=(if i<j then j else i):=by split<;>split<;>omega
 rw [hmx];exact aFc C m cc k n A c fc ev la i j _ w (wH h1) (wH h2) hT.ok
theorem xC (C:Option Addr)(m cc:Nat)(k n:Int)(A:Option Addr)(c fc:Nat)(ev:Array Value)(l ka na:Int)(sa:List Tm)(a1:Tm)(kb nb:Int)(sb:List Tm)(ty:Nat→Option Tm)(w:World)(h1:lvS (ty 0)=some l)(h2:ty 1=some (.mk kb nb sb))(hv:aE (.mk 3 0 [.mk ka na sa,.mk kb nb sb])=false)(hva:aE (.mk ka na sa)=true)(hvb:aE (.mk kb nb sb)=true)(hT:TyOk fc ev w ty)(hr:Rd w A 0 [.mk ka na sa,a1]) :
  Calls prog 140 #[.agg #[.slice C m cc,.int .i64 k,.int .i64 n,.slice A 2 c,.func (.func fc) #[] ev]] w (pK w (.no false)):=by
 obtain ⟨b2,b3,rfl,rfl⟩:=hT.1;all_goals
  have hv':=aD hv;have hsz:Hid (aG [Tm.mk ka na sa,.mk kb nb sb]≤1000000):=aD (by have z1:=aH  hva;have z2:=aH  hvb;simp only [aG,Tm.size];omega);replace h1:=aD h1;replace h2:=aD h2;clear hv hva hvb;obtain ⟨ba,oa,Aa,ca,rfl,i1,i2,i3,hla,ra0⟩:=oJ hr;simp only [Nat.zero_mul,Nat.add_zero,Nat.one_mul,Nat.reduceMul] at i1 i2 i3
  go_enter func140,ntmps140;go_upto_region 7 with (first
   | (go_at_call 116;have _t:=tok1;refine (hT.2 1 kb nb sb (by omega) h2.out _ g1 _ (by rfl)).mono ?_;rintro e w2 ⟨Ab,cb,rfl,hlb,rb1,hb2⟩;have hZ2:=hZ1.keep hb2;have hJ2:=hJ1.keep hb2;have g2:=g1.trans (hb2.mono g1.size))
   | (go_at_call 155;refine (iX C m cc k n _ 2 c 116 #[.pointer (some ⟨b2,0,none⟩),.pointer (some ⟨b3,0,none⟩)] 0 (by omega) l ty _ h1.out (hT.below bw2)).mono ?_;rintro e w1 ⟨rfl,hb1⟩;have hZ1:=iU hb1;have hJ1:=((aC w 105 #[.slice C m cc,.int .i64 k,.int .i64 n,.slice (some ⟨ba,oa,none⟩) 2 c,.func (.func 116) #[] #[.pointer (some ⟨b2,0,none⟩),.pointer (some ⟨b3,0,none⟩)]] rfl).alloc (.cells Zr 32)).keep hb1;have g1:Bw w w1:=bU bw2 hb1;have j0:=hJ1.at_ (i:=0) rfl;have j1:=hJ1.at_ (i:=1) rfl;have j2:=hJ1.at_ (i:=2) rfl;have j3:=hJ1.at_ (i:=3) rfl;have j4:=hJ1.at_ (i:=4) rfl;have tok1:=trivial))
  refine aW ?_;intro wx hwx;have hT6:Blk wx w2.heap.size (Ro kb nb Ab sb.length cb):=by rw [hwx];exact aC _ 32 _ rfl
  have hZx:=(show Blk wx (w.heap.size+1) _ by rw [hwx];exact hZ2.alloc _);have hJx:=(show Blk wx w.heap.size _ by rw [hwx];exact hJ2.alloc _);have gx:Bw w wx:=by rw [hwx];exact g2.alloc g2.size _
  have rb:Rd wx Ab 0 sb:=by rw [hwx];exact rb1.alloc _
  clear hwx;have ra:=ra0.below gx;have u3:=aF (hJx.at_ (i:=3) rfl);obtain ⟨v0,v1,v2⟩:=jR hT6;have y0:=aF ((cM gx) _ _ i1);have y1:=aF ((cM gx) _ _ i2);have y2:=aF ((cM gx) _ _ i3);go_cut [7,8] (fun vc vp wy=>∃gz:Nat,vp = .pointer (some ⟨gz,0,none⟩)∧vc = .int .i64 2∧Blk wy gz Zr∧Bw wx wy∧wx.heap.size≤gz)
  case first=>
   refine eT wx [9,10,11,13,14] [0,1,2,3,4,5] 15 9 (lT:=[_,_,_,_,_,_]) ?_;intro q0 bq0;refine bZ (aD ?_);refine nK 6 12 ?_ ?_
   ·go_wp2_with fail
    refine iD ?_;intro q1 hbq1 zq1 seq1;have rq1:Rd q1 (some ⟨q0.heap.size,0,none⟩) 0 [.mk ka na sa,.mk kb nb sb]:=dP (s0:=sa) (s1:=sb) zq1 hla hlb ((ra.below bq0).below hbq1) ((rb.below bq0).below hbq1);refine aX bq0 hbq1 ?_;intro bq1 lq1;refine nK 7 12 ?_ ?_
    ·go_wp2_with (go_at_call 71;refine (aP 3 _ ⟨_,_,_,rfl⟩ _).mono ?_;rintro e q2 ⟨rfl,hbq2⟩)
     have Pq2:=rq1.below hbq2;refine aX bq1 hbq2 ?_;intro bq2 lq2;refine nK 8 12 ?_ ?_
     ·go_wp2_with (go_at_call 99;refine (dB 3 0 [.mk ka na sa,.mk kb nb sb] _ 2 _ hsz.out hv'.out Pq2).mono ?_;rintro e q3 ⟨rfl,hbq3⟩)
      have Pq3:=Pq2.below hbq3;refine aX bq2 hbq3 ?_;intro bq3 lq3;refine fB [9,10,11] 3 (lT:=[_,_,_]) ?_;refine bZ (aD ?_);refine bB 12 ?_
      ·go_wp2_with fail
       refine iD ?_;intro q4 hbq4 zq4 seq4;have Pq4:=Pq3.below hbq4;refine aX bq3 hbq4 ?_;intro bq4 lq4;refine cP [13,14] (lB:=[_,_]) ?_;obtain ⟨d0,d1,d2,e0,e1,e2⟩:=bW zq4;have szb:wx.heap.size≤q3.heap.size:=by first|exact bq0.size|exact bq3.size
       go_wp2_with fail
       go_meet
       exact ⟨q3.heap.size,rfl,rfl,((zq4.set_ 0 _).set_ 1 _).set_ 2 _,((bq4.setCell szb _).setCell szb _).setCell szb _,szb⟩
     ·go_wp2_with fail
      refine iD ?_;intro q5 hbq5 zq5 seq5;have Pq5:=Pq2.below hbq5;refine aX bq2 hbq5 ?_;intro bq5 lq5;refine bB 8 ?_
      ·go_wp2_with (go_at_call 99;refine (dB 3 0 [.mk ka na sa,.mk kb nb sb] _ 2 _ hsz.out hv'.out Pq5).mono ?_;rintro e q6 ⟨rfl,hbq6⟩)
       have Pq6:=Pq5.below hbq6;have Zq6:=zq5.keep hbq6;refine aX bq5 hbq6 ?_;intro bq6 lq6;refine fB [9,10,11] 2 (lT:=[_,_,_]) ?_;refine bZ (aD ?_);refine cP [13,14] (lB:=[_,_]) ?_;obtain ⟨d0,d1,d2,e0,e1,e2⟩:=bW Zq6;have szb:wx.heap.size≤q2.heap.size:=by first|exact bq0.size|exact bq2.size
       go_wp2_with fail
       go_meet
       exact ⟨q2.heap.size,rfl,rfl,((Zq6.set_ 0 _).set_ 1 _).set_ 2 _,((bq6.setCell szb _).setCell szb _).setCell szb _,szb⟩
    ·go_wp2_with fail
     refine iD ?_;intro q7 hbq7 zq7 seq7;have Pq7:=rq1.below hbq7;refine aX bq1 hbq7 ?_;intro bq7 lq7;refine bB 7 ?_
     ·go_wp2_with (go_at_call 71;refine (aP 3 _ ⟨_,_,_,rfl⟩ _).mono ?_;rintro e q8 ⟨rfl,hbq8⟩)
      have Pq8:=Pq7.below hbq8;have Zq8:=zq7.keep hbq8;refine aX bq7 hbq8 ?_;intro bq8 lq8;refine bB 8 ?_
      ·go_wp2_with (go_at_call 99;refine (dB 3 0 [.mk ka na sa,.mk kb nb sb] _ 2 _ hsz.out hv'.out Pq8).mono ?_;rintro e q9 ⟨rfl,hbq9⟩)
       have Pq9:=Pq8.below hbq9;have Zq9:=Zq8.keep hbq9;refine aX bq8 hbq9 ?_;intro bq9 lq9;refine fB [9,10,11] 2 (lT:=[_,_,_]) ?_;refine bZ (aD ?_);refine cP [13,14] (lB:=[_,_]) ?_;obtain ⟨d0,d1,d2,e0,e1,e2⟩:=bW Zq9;have szb:wx.heap.size≤q1.heap.size:=by first|exact bq0.size|exact bq1.size
       go_wp2_with fail
       go_meet
       exact ⟨q1.heap.size,rfl,rfl,((Zq9.set_ 0 _).set_ 1 _).set_ 2 _,((bq9.setCell szb _).setCell szb _).setCell szb _,szb⟩
   ·go_wp2_with fail
    refine iD ?_;intro q10 hbq10 zq10 seq10;refine aX bq0 hbq10 ?_;intro bq10 lq10;refine bB 6 ?_
    ·go_wp2_with fail
     refine iD ?_;intro q11 hbq11 zq11 seq11;have rq11:Rd q11 (some ⟨q10.heap.size,0,none⟩) 0 [.mk ka na sa,.mk kb nb sb]:=dP (s0:=sa) (s1:=sb) zq11 hla hlb ((ra.below bq10).below hbq11) ((rb.below bq10).below hbq11);have Zq11:=zq10.keep hbq11;refine aX bq10 hbq11 ?_;intro bq11 lq11;refine bB 7 ?_
     ·go_wp2_with (go_at_call 71;refine (aP 3 _ ⟨_,_,_,rfl⟩ _).mono ?_;rintro e q12 ⟨rfl,hbq12⟩)
      have Zq12:=Zq11.keep hbq12;have Pq12:=rq11.below hbq12;refine aX bq11 hbq12 ?_;intro bq12 lq12;refine bB 8 ?_
      ·go_wp2_with (go_at_call 99;refine (dB 3 0 [.mk ka na sa,.mk kb nb sb] _ 2 _ hsz.out hv'.out Pq12).mono ?_;rintro e q13 ⟨rfl,hbq13⟩)
       have Zq13:=Zq12.keep hbq13;have Pq13:=Pq12.below hbq13;refine aX bq12 hbq13 ?_;intro bq13 lq13;refine fB [9,10,11] 2 (lT:=[_,_,_]) ?_;refine bZ (aD ?_);refine cP [13,14] (lB:=[_,_]) ?_;obtain ⟨d0,d1,d2,e0,e1,e2⟩:=bW Zq13;have szb:wx.heap.size≤q0.heap.size:=by first|exact bq0.size|exact bq0.size
       go_wp2_with fail
       go_meet
       exact ⟨q0.heap.size,rfl,rfl,((Zq13.set_ 0 _).set_ 1 _).set_ 2 _,((bq13.setCell szb _).setCell szb _).setCell szb _,szb⟩
  case rest=>
   obtain ⟨gz,rfl,rfl,hTz,hxy,hgz⟩:=hcut;have gy:=gx.trans (hxy.mono gx.size);have hZy:=hZx.keep hxy;have hJy:=hJx.keep hxy;have j0:=hJy.at_ (i:=0) rfl;have j1:=hJy.at_ (i:=1) rfl;have j2:=hJy.at_ (i:=2) rfl;have j3:=hJy.at_ (i:=3) rfl;have j4:=hJy.at_ (i:=4) rfl;obtain ⟨p0,p1,p2⟩:=hTz.three;have lzz:=hTz.lt;obtain ⟨d0,d1,d2,e0,e1,e2,lz9⟩:=dJ hZy;go_wp2_with fail
   have hyy:=fun (o:Obj)=>(((((hZy.set_ 0 (.int .i64 0)).set_ 1 (.int .i64 0)).set_ 2 (.slice none 0 0)).alloc o:Blk _ _ Zr)).three
   refine bodyPost_ret (v:=.tuple #[.agg Zr,.int .i64 2]) (by simp [results,results140,go_sem,hyy,d0,d1,d2]) rfl ⟨rfl,?_⟩;first|exact (bP gy).alloc (by simp [World.setCell];exact gy.size) _|exact bP gy
theorem wJ {b:Bool}(h:(!b)=false):b=true:=by cases b with|true=>rfl|false=>cases h
theorem uZ {b:Bool}(h:(!b)=true):b=false:=by cases b with|false=>rfl|true=>cases h
def nC (t:Tm):Tm × Nat:=match dT t with|none=>(t,0)|some u=>if aE u=true then (u,1) else (.mk 0 0 [],2)
theorem aGx {t:Tm}(h:dT t=none):nC t=(t,0):=by rw [nC,h]
theorem xP {t u:Tm}(h:dT t=some u)(hv:aE u=true):nC t=(u,1):=by rw [nC,h];exact if_pos hv
theorem vR {t u:Tm}(h:dT t=some u)(hv:aE u=false):nC t=(.mk 0 0 [],2):=by rw [nC,h];exact if_neg (by simp [hv])
theorem aEs {t:Tm}{f:Nat}(h:(nC t).2=0):fD f t=(some (nC t).1,0):=by
 unfold nC at h⊢
 rw [fD];cases hs:dT t with
 | none=>rfl
 | some u=>rw [hs] at h;simp only at h;split at h<;>cases h
theorem aEz {t:Tm}(h:(nC t).2≠0):fD 0 t=(none,1):=by
 unfold nC at h
 rw [fD];cases hs:dT t with
 | none=>rw [hs] at h;exact absurd rfl h
 | some u=>rfl
theorem aCe {t:Tm}{f:Nat}(h:(nC t).2=2):fD (f+1) t=(none,2):=by
 unfold nC at h
 rw [fD];cases hs:dT t with
 | none=>rw [hs] at h;cases h
 | some u=>
  rw [hs] at h;simp only at h⊢
  split at h
  ·cases h
  ·rename_i hv;rw [if_neg hv]
theorem aEm {t:Tm}{f:Nat}(h0:(nC t).2≠0)(h2:(nC t).2≠2):fD (f+1) t=fD f (nC t).1:=by
 unfold nC at h0 h2⊢
 rw [fD];cases hs:dT t with
 | none=>rw [hs] at h0;exact absurd rfl h0
 | some u=>
  rw [hs] at h0 h2;simp only at h0 h2⊢
  split at h2
  ·rename_i hv;simp only [if_pos hv]
  ·exact absurd rfl h2
def aPv (R:Option Tm × Int)(w:World)(e:Ending)(w':World):Prop:=
 ∃(k n:Int) (ks:List Tm) (A:Option Addr) (c:Nat),R.1.getD (.mk 0 0 []) = .mk k n ks∧e = .returned (.tuple #[.agg (Ro k n A ks.length c),.int .i64 R.2])∧ks.length≤9223372036854775807∧RdP (fun x=>w.heap.size≤x) w' A 0 ks∧Bw w w'
def aTw (t0:Tm)(w:World)(e:Ending)(w':World):Prop:=
 ∃(k n:Int) (ks:List Tm) (A:Option Addr) (c code:Nat),.mk k n ks=(nC t0).1∧code=(nC t0).2∧e = .returned (.tuple #[.agg (Ro k n A ks.length c),.int .i64 code])∧code≤2∧ks.length≤9223372036854775807∧aG ks≤400∧(code≠2→aE (.mk k n ks)=true)∧RdP (fun x=>w.heap.size≤x) w' A 0 ks∧Bw w w'
theorem aLi (hC:mD)(k n:Int)(ks:List Tm)(A:Option Addr)(c:Nat)(w:World)(hv:aE (.mk k n ks)=true)(hl:ks.length≤9223372036854775807)(hr:Rd w A 0 ks) :
  Calls prog 131 #[.agg (Ro k n A ks.length c),.bool false] w (aTw (.mk k n ks) w):=by
 have hM:=aH hv;have hsh:=aD (aY hv);have hv':=aD hv;clear hv;go_enter func131,ntmps131;go_wp2_with (go_at_call 154;refine (aIu hC _ 30 k n ks A c _ (by omega) (oH _) hM hsh.out (((hr.alloc _).alloc _))).mono ?_;rintro e w1 ⟨k2,n2,ks2,A2,c2,bb,hx2,hx3,rfl,hl2,hs2,hr2,hb1⟩;replace hx2:=aD hx2;replace hx3:=aD hx3;have hB:=(((aC w 32 (Ro k n A ks.length c) rfl).alloc (.cells Zr 32)).keep hb1).alloc (.cells (Ro k2 n2 A2 ks2.length c2) 32);have hZ:Blk (w1.alloc (.cells (Ro k2 n2 A2 ks2.length c2) 32)) (w.heap.size+1) Zr:=((aC (w.alloc (.cells (Ro k n A ks.length c) 32)) 32 Zr (by simp)).keep hb1).alloc _;have g1:Bw w w1:=bU bw2 hb1;have s1:w.heap.size+2≤w1.heap.size:=(by have:=hb1.size;simpa using this);have g2:=g1.alloc g1.size (.cells (Ro k2 n2 A2 ks2.length c2) 32);have hK:=aC w1 32 (Ro k2 n2 A2 ks2.length c2) rfl;obtain ⟨x0,x1,x2⟩:=hB.three;obtain ⟨y0,y1,y2⟩:=hK.three)
 ·have hbf:bb=false:=uZ (by assumption);have ho:=aD (aGx (aFj hx3.out hbf));refine (eI _ k n ks A c _ (oH _) (by omega) ((hr.below g1).alloc _)).mono ?_;rintro e w3 ⟨A3,c3,rfl,hl3,hf3,hb3⟩;replace hZ:=hZ.keep hb3;obtain ⟨d0,d1,d2,e0,e1,e2⟩:=bW hZ;replace g2:=g2.trans (hb3.mono g2.size);go_wp2_with fail
  refine bodyPost_ret (v:=.tuple #[.agg (Ro k n A3 ks.length c3),.int .i64 0]) (by simp [results,results131,go_sem,d0,d1,d2]) rfl ⟨k,n,ks,A3,c3,0,(by rw [ho.out]),(by rw [ho.out]),rfl,by omega,hl3,by omega,fun _=>hv'.out,?_,?_⟩
  ·exact (Fresh.rdp (tT hf3)).mono (fun b hb=>by have:=hb.1;simp at this;omega)
  ·exact bP g2
 ·have hbb:bb=true:=wJ (by assumption);have hst:=aD (zU hx2.out hx3.out hbb);have hrx:RdP (fun x=>w.heap.size+2≤x) w1 A2 0 ks2:=hr2.mono (fun x hx=>by rw [hbb] at hx;simp at hx;omega);clear hr2;obtain ⟨vv,hvv0⟩:∃vv,aE (.mk k2 n2 ks2)=vv:=⟨_,rfl⟩;have hvv:=aD hvv0;refine (aV k2 n2 ks2 A2 c2 _ (by omega) (hrx.alloc _).rd).mono ?_;rw [hvv0];rintro e w3 ⟨rfl,hb3⟩;clear hvv0;replace hZ:=hZ.keep hb3;replace hK:=hK.keep hb3;clear y0 y1 y2;obtain ⟨y0,y1,y2⟩:=hK.three;obtain ⟨d0,d1,d2,e0,e1,e2⟩:=bW hZ;replace g2:=g2.trans (hb3.mono g2.size);have hrx3:=(hrx.alloc (.cells (Ro k2 n2 A2 ks2.length c2) 32)).below hb3;cases vv with
  | false=>
   go_wp2_with fail
   refine bodyPost_ret (v:=.tuple #[.agg Zr,.int .i64 2]) (by simp [results,results131,go_sem,d0,d1,d2]) rfl ⟨0,0,[],none,0,2,(by rw [vR hst.out hvv.out]),(by rw [vR hst.out hvv.out]),rfl,by omega,by simp,by simp [aG],fun h=>absurd rfl h,RdP.nil,?_⟩;exact bP g2
  | true=>
   have hs400:=aH hvv.out;go_wp2_with fail
   refine bodyPost_ret (v:=.tuple #[.agg (Ro k2 n2 A2 ks2.length c2),.int .i64 1]) (by simp [results,results131,go_sem,d0,d1,d2]) rfl ⟨k2,n2,ks2,A2,c2,1,(by rw [xP hst.out hvv.out]),(by rw [xP hst.out hvv.out]),rfl,by omega,hl2,hs400,fun _=>hvv.out,?_,?_⟩
   ·exact (((hrx3.setCell (by simp) _).setCell (by simp) _).setCell (by simp) _).mono (fun b hb=>by omega)
   ·exact bP g2
theorem iB (hC:mD)(k n:Int)(ks:List Tm)(A:Option Addr)(c:Nat)(F:Nat)(hF:F≤1000)(w:World)(hv:aE (.mk k n ks)=true)(hl:ks.length≤9223372036854775807)(hr:Rd w A 0 ks) :
  Calls prog 105 #[.agg (Ro k n A ks.length c),.int .i64 F,.bool false] w (aPv (fD F (.mk k n ks)) w):=by
 obtain ⟨R,hR⟩:∃R,fD F (.mk k n ks)=R:=⟨_,rfl⟩;rw [hR];replace hR:=aD hR;go_enter func105,ntmps105;go_wp2_with fail
 go_loopw [1,8,9] (fun fv _ _ wr=>∃(f:Nat) (k n:Int) (ks:List Tm) (A:Option Addr) (c:Nat),f≤F∧Hid (fD f (.mk k n ks)=R)∧fv = .int .i64 f∧aE (.mk k n ks)=true∧ks.length≤9223372036854775807∧Blk wr w.heap.size (Ro k n A ks.length c)∧Blk wr (w.heap.size+1) Zr∧RdP (fun b=>b<w.heap.size∨w.heap.size+2≤b) wr A 0 ks∧Bw w wr)
  (fun fv _ _ _ => (intOf fv).toNat)
 case atStart=>exact ⟨F,k,n,ks,A,c,oL _,hR,rfl,hv,hl,(aC _ _ _ rfl).alloc _,aC _ _ _ (by simp),((hr.rdp.alloc _).alloc _).mono (fun b hb=>.inl hb),bw2⟩
 case round=>
  clear hv hl hr hR;obtain ⟨f,k,n,ks,A,c,hf,hRf,rfl,hv,hl,hB,hZ,hrd,hb⟩:=hrel;have hv':=aD hv;clear hv;obtain ⟨x0,x1,x2⟩:=hB.three;have lz0:=hZ.lt;go_wp2_with (go_at_call 131;refine (aLi hC k n ks A c _ hv'.out hl hrd.rd).mono ?_;rintro e w1 ⟨k2,n2,ks2,A2,c2,code,hx2,hx3,rfl,hcd,hl2,hs2,hv2,hr2,hb1⟩;replace hB:=(hB.keep hb1).alloc (.cells (Ro k2 n2 A2 ks2.length c2) 32);replace hZ:=(hZ.keep hb1).alloc (.cells (Ro k2 n2 A2 ks2.length c2) 32);have s1:=hb1.size;have g1:=(hb.trans (hb1.mono hb.size)).alloc (by have:=hb.size;omega) (.cells (Ro k2 n2 A2 ks2.length c2) 32);have hK:=aC w1 32 (Ro k2 n2 A2 ks2.length c2) rfl;have hr3:=(hr2.alloc (.cells (Ro k2 n2 A2 ks2.length c2) 32)).mono (q:=fun b=>w.heap.size+2≤b) (fun b hb=>by omega);have hv3:=aD hv2;replace hx2:=aD hx2;replace hx3:=aD hx3;clear hv2 x0 x1 x2;obtain ⟨x0,x1,x2⟩:=hB.three;obtain ⟨y0,y1,y2⟩:=hK.three;obtain ⟨d0,d1,d2,e0,e1,e2⟩:=bW hZ;obtain ⟨z0,z1,z2⟩:=bkf hB)
  ·have hc0:code=0:=by rename_i h0;have:=eq_of_beq h0;omega
   obtain rfl:R=(some (.mk k2 n2 ks2),0):=by rw [← hRf.out,aEs (by rw [← hx3.out];exact hc0),← hx2.out]
   refine bodyPost_ret (v:=.tuple #[.agg (Ro k2 n2 A2 ks2.length c2),.int .i64 0]) (by simp [results,results105,go_sem,d0,d1,d2]) rfl ⟨k2,n2,ks2,A2,c2,rfl,rfl,hl2,?_,?_⟩
   ·exact (((hr3.setCell (by simp) _).setCell (by simp) _).setCell (by simp) _).mono (fun b hb=>by omega)
   ·exact bP g1
  ·have hcb:((code:Int)==0)=false:=by assumption
   have hc0:¬(code:Int)=0:=ne_of_beq_false hcb;obtain rfl:f=0:=by omega
   obtain rfl:R=(none,1):=by rw [← hRf.out,aEz (by rw [← hx3.out];omega)]
   refine bodyPost_ret (v:=.tuple #[.agg Zr,.int .i64 1]) (by simp [results,results105,go_sem,d0,d1,d2]) rfl ⟨0,0,[],none,0,rfl,rfl,by simp,RdP.nil,?_⟩;exact bP g1
  ·have hc2:(code:Int)=2:=by rename_i h0;exact eq_of_beq h0
   obtain ⟨f,rfl⟩:∃g,f=g+1:=⟨f - 1,by omega⟩;obtain rfl:R=(none,2):=by rw [← hRf.out,aCe (by rw [← hx3.out];omega)]
   refine bodyPost_ret (v:=.tuple #[.agg Zr,.int .i64 2]) (by simp [results,results105,go_sem,d0,d1,d2]) rfl ⟨0,0,[],none,0,rfl,rfl,by simp,RdP.nil,?_⟩;exact bP g1
  ·have hc2:¬(code:Int)=2:=by rename_i h0;exact ne_of_beq_false h0
   have hcb:((code:Int)==0)=false:=by assumption
   have hc0:¬(code:Int)=0:=ne_of_beq_false hcb;have hf1:1≤f:=by omega
   have hRg:fD (f - 1) (.mk k2 n2 ks2)=R:=by rw [← hRf.out,show f=(f - 1)+1 from by omega,aEm (by rw [← hx3.out];omega) (by rw [← hx3.out];omega),← hx2.out];rfl
   refine ⟨⟨f - 1,k2,n2,ks2,A2,c2,by omega,aD hRg,by go_num,hv3.out (by omega),hl2,((hB.set_ 0 _).set_ 1 _).set_ 2 _,((hZ.far (by simp) _).far (by simp) _).far (by simp) _,(((hr3.setCell (by simp) _).setCell (by simp) _).setCell (by simp) _).mono (fun b hb=>.inr hb),(bP g1)⟩,by simp [intOf];omega⟩
mutual
def cD:Tm→Option Tm
 | .mk k n ks=>if rdx k ks=0 then (if bC k<0 then none else (vH (bC k).toNat ks).map (Tm.mk k n)) else some (eA (.mk k n ks))
def vH:Nat→List Tm→Option (List Tm)
 | _,[]=>none
 | 0,t::ts=>(cD t).map (·::ts)
 | i+1,t::ts=>(vH i ts).map (t::·)
end
theorem nI:∀(ks:List Tm) (i:Nat) (h:i<ks.length),vH i ks=(cD ks[i]).map (ks.set i ·)
 | t::ts,0,h=>rfl
 | t::ts,i+1,h=>by
  have hi:i<ts.length:=by simpa using h
  rw [vH,nI ts i hi];simp only [List.getElem_cons_succ]
  cases cD ts[i]<;>rfl
def uF:Nat→Tm→Option Tm × Int
 | fuel,t=>match cD t with
  | none=>(some t,0)
  | some t'=>match fuel with
   | 0=>(none,1)
   | fuel+1=>if aE t'=true then uF fuel t' else (none,2)
theorem aCa:∀(ts:List Tm) (i:Nat) (h:i<ts.length),lI i ts=bV ts[i]
 | t::ts,0,h=>rfl
 | t::ts,i+1,h=>by rw [lI,aCa ts i (by simpa using h)];rfl
theorem eK:∀(ts:List Tm) (i:Nat),ts.length≤i→lI i ts=none∧vH i ts=none
 | [],i,h=>by cases i<;>exact ⟨rfl,rfl⟩
 | t::ts,0,h=>absurd h (by simp)
 | t::ts,i+1,h=>by rw [lI,vH,(eK ts i (by simpa using h)).1,(eK ts i (by simpa using h)).2];exact ⟨rfl,rfl⟩
theorem xL:∀t:Tm,(bV t=none→cD t=none)∧∀p,bV t=some p→∃k n ks,mK t p=some (.mk k n ks)∧rdx k ks≠0∧cD t=some (jV t p (eA (.mk k n ks))):=by
 refine Tm.rec (motive_1:=fun t=>(bV t=none→cD t=none)∧∀p,bV t=some p→∃k n ks,mK t p=some (.mk k n ks)∧rdx k ks≠0∧cD t=some (jV t p (eA (.mk k n ks))))
  (motive_2 := fun ts => ∀ t, t ∈ ts → (bV t = none → cD t = none) ∧ ∀ p, bV t = some p → ∃ k n ks, mK t p = some (.mk k n ks) ∧ rdx k ks ≠ 0 ∧ cD t = some (jV t p (eA (.mk k n ks)))) ?_ ?_ ?_
 ·intro k n ks ih;by_cases hr:rdx k ks=0
  ·by_cases hm:bC k<0
   ·rw [bV,cD,if_pos hr,if_pos hm,if_pos hr,if_pos hm];exact ⟨fun _=>rfl,fun p h=>by cases h⟩
   ·rw [bV,cD,if_pos hr,if_neg hm,if_pos hr,if_neg hm];obtain ⟨i,hi⟩:∃i:Nat,bC k=(i:Int):=⟨(bC k).toNat,by omega⟩;rw [hi,Int.toNat_natCast];by_cases hl:i<ks.length
    ·rw [aCa ks i hl,nI ks i hl];have h:=ih _ (iC hl);refine ⟨fun h0=>?_,fun p hp=>?_⟩
     ·cases hh:bV ks[i] with
      | none=>rw [h.1 hh];rfl
      | some q=>rw [hh] at h0;cases h0
     ·cases hh:bV ks[i] with
      | none=>rw [hh] at hp;cases hp
      | some q=>
       rw [hh] at hp;injection hp with hp;subst hp;obtain ⟨k1,n1,ks1,ha,hr1,hs⟩:=h.2 q hh;refine ⟨k1,n1,ks1,?_,hr1,?_⟩
       ·rw [rC hl];exact ha
       ·rw [hs,yN hl];rfl
    ·rw [(eK ks i (by omega)).1,(eK ks i (by omega)).2];exact ⟨fun _=>rfl,fun p h=>by cases h⟩
  ·rw [bV,cD,if_neg hr,if_neg hr];refine ⟨(fun h=>by cases h),fun p hp=>?_⟩;injection hp with hp;subst hp;exact ⟨k,n,ks,rfl,hr,rfl⟩
 ·intro t h;cases h
 ·intro t ts h1 h2 u hu;rcases List.mem_cons.1 hu with rfl|hu
  ·exact h1
  ·exact h2 u hu
theorem aIl {t:Tm}{p:List Int}(hv:aE t=true)(hp:bV t=some p):∃t',cD t=some t'∧mS t p=vO t':=by
 obtain ⟨k,n,ks,ha,hr,hs⟩:=(xL t).2 p hp;refine ⟨_,hs,?_⟩;have hu:=pB ha hv;rw [mS,ha];simp only [xZ hu hr]
 by_cases hc:aE (eA (.mk k n ks))=true
 ·rw [aAq hc]
 ·rw [sJ hc,sJ (fun h=>hc (qE p t _ _ ha h))]
theorem sN:∀(fuel:Nat) (t:Tm),aE t=true→uF fuel t=redI bV fuel t
 | fuel,t,hv=>by
  rw [uF,redI];cases hp:bV t with
  | none=>rw [(xL t).1 hp]
  | some p=>
   obtain ⟨t',hs,hc⟩:=aIl hv hp;rw [hs];cases fuel with
   | zero=>rfl
   | succ fuel=>
    simp only [hc]
    by_cases h:aE t'=true
    ·rw [if_pos h,aAq h];exact sN fuel t' h
    ·rw [if_neg h,sJ h]
theorem tC (k:Int)(w:World):Calls prog 129 #[.int .i64 k] w fun e w'=>e = .returned (.int .i64 (bC k))∧Bw w w':=by
 unfold bC
 by_cases h5:k=5
 ·subst h5;go_enter func129,ntmps129;go_wp2_with fail
  go_ret
  exact ⟨rfl,eR _ _⟩
 by_cases h15:k=15
 ·subst h15;go_enter func129,ntmps129;go_wp2_with fail
  go_ret
  exact ⟨rfl,eR _ _⟩
 by_cases h16:k=16
 ·subst h16;go_enter func129,ntmps129;go_wp2_with fail
  go_ret
  exact ⟨rfl,eR _ _⟩
 rw [if_neg (by omega)];have q5:(k==5)=false:=by simpa using h5
 have q15:(k==15)=false:=by simpa using h15
 have q16:(k==16)=false:=by simpa using h16
 by_cases h12:k=12
 ·subst h12;go_enter func129,ntmps129;go_wp2_with fail
  go_ret
  exact ⟨rfl,eR _ _⟩
 have q12:(k==12)=false:=by simpa using h12
 by_cases h9:k=9
 ·subst h9;go_enter func129,ntmps129;go_wp2_with fail
  go_ret
  exact ⟨rfl,eR _ _⟩
 have q9:(k==9)=false:=by simpa using h9
 rw [if_neg h9,if_neg h12];go_enter func129,ntmps129;go_wp2_with fail
 go_ret
 exact ⟨rfl,eR _ _⟩
def aKf (t0:Tm)(m:Nat)(w:World)(e:Ending)(w':World):Prop:=
 ∃(k n:Int) (ks:List Tm) (A:Option Addr) (c:Nat) (b:Bool),.mk k n ks=(cD t0).getD t0∧b=(cD t0).isSome∧e = .returned (.tuple #[.agg (Ro k n A ks.length c),.bool b])∧ks.length≤9223372036854775807∧aG ks+1≤m∧RdP (fun x=>if b=true then w.heap.size≤x else x<w.heap.size) w' A 0 ks∧Bw w w'
theorem jJ (d:Nat):∀(k n:Int) (ks:List Tm) (A:Option Addr) (c:Nat) (w:World),d≤30→aG ks≤400→shape d (.mk k n ks)=true→Rd w A 0 ks→
  Calls prog 103 #[.agg (Ro k n A ks.length c)] w (aKf (.mk k n ks) (190000+401*d) w):=by
 induction d with
 | zero=>intro k n ks A c w _ _ hs;simp [shape] at hs
 | succ d ih=>
 intro k n ks A c w hd hM hs hr;have hlen:=aJ ks;obtain ⟨d',hde,ha,_,_,hk⟩:=bY hs;obtain rfl:d'=d:=by omega
 have hk':=aD hk;have ha':=aD ha;have hs':=aD hs;replace ih:=aD ih;clear hk ha hs hde;by_cases hx:rdx k ks=0
 ·have hrd:=aD hx;obtain ⟨mm,hmm⟩:∃mm,bC k=mm:=⟨_,rfl⟩;have hmn:=aD hmm;by_cases hneg:mm<0
  ·have hst0:=aD (show cD (.mk k n ks)=none by rw [cD,if_pos hx,hmm,if_pos hneg]);have qm:decide (mm<0)=true:=decide_eq_true hneg;clear hx hmm;go_enter func103,ntmps103;go_wp2_with (first
    | (go_at_call 129;have _t:=tok;refine (tC k _).mono ?_;rw [hmn.out];rintro e w2 ⟨rfl,hb2⟩;replace hB:=hB.keep hb2;replace hZ:=hZ.keep hb2;clear x0 x1 x2;obtain ⟨x0,x1,x2⟩:=hB.three;have s2:=hZ.lt;have g2:=g1.trans (hb2.mono g1.size);have hr2:=hr.below g2;obtain ⟨d0,d1,d2,e0,e1,e2⟩:=bW hZ;clear tok;have tok2:=trivial)
    | (go_at_call 127;refine (dY k n ks A c _ (by omega) ha'.out ((hr.alloc _).alloc _)).mono ?_;rw [hrd.out];rintro e w1 ⟨rfl,hb1⟩;have hB:Blk w1 w.heap.size (Ro k n A ks.length c):=((aC w 32 _ rfl).alloc _).keep hb1;have hZ:Blk w1 (w.heap.size+1) Zr:=(aC _ 32 _ (by simp)).keep hb1;have g1:Bw w w1:=bU bw2 hb1;have s1:=hZ.lt;have hr1:=hr.below g1;obtain ⟨x0,x1,x2⟩:=hB.three;have tok:=trivial))
   refine bodyPost_ret (v:=.tuple #[.agg (Ro k n A ks.length c),.bool false]) (by simp [results,results103,go_sem,d0,d1,d2]) rfl ⟨k,n,ks,A,c,false,(by rw [hst0.out];rfl),(by rw [hst0.out];rfl),rfl,by omega,by omega,?_,?_⟩
   ·exact ((((hr.rdp.below g2).setCell (by simp) _).setCell (by simp) _).setCell (by simp) _).mono (fun x hx=>by simpa using hx)
   ·exact bP g2
  ·obtain ⟨i,rfl⟩:∃i:Nat,mm=(i:Int):=⟨mm.toNat,by omega⟩;have hil:i<ks.length:=by
    have:=ha'.out;unfold aU at this
    unfold bC at hmm
    repeat' split at hmm
    all_goals (first|omega|(rename_i h;rcases h with rfl|rfl|rfl<;>simp_all<;>omega)|(simp_all;omega))
   have qm:decide ((i:Int)<0)=false:=decide_eq_false (by omega);obtain ⟨b,off,k',n',ks',A',c',rfl,hkj,hc1,hc2,hc3,hl',hr'⟩:=hr.at_ hil;have hlk:(i:Int)<(ks.length:Int):=by omega
   have hsz:=cF (iC hil);have hsk:=hk'.out _ (iC hil);rw [hkj] at hsz hsk;simp only [Tm.size] at hsz
   have hsk':=aD hsk;have hsteq:cD (.mk k n ks)=((cD (.mk k' n' ks')).map (ks.set i ·)).map (Tm.mk k n):=by rw [cD,if_pos hx,hmm,if_neg hneg,Int.toNat_natCast,nI ks i hil,hkj]
   cases hho:cD (.mk k' n' ks') with
   | none=>
    rw [hho] at hsteq;have hst0:=aD (show cD (.mk k n ks)=none from hsteq);have hst:=aD hho;clear hx hmm hsteq hho hsk hkj;go_enter func103,ntmps103;go_wp2_with (first
     | (go_at_call 103;have _t:=tok2;refine (ih.out k' n' ks' A' c' _ (by omega) (by omega) hsk'.out (hr'.below g2)).mono ?_;rintro e w3 ⟨k3,n3,ks3,A3,c3,bb,hv3,hw3,rfl,hl3,hs3,hr3,hb3⟩;obtain rfl:bb=false:=(by rw [hw3,hst.out];rfl);replace hv3:=aD hv3;clear hw3;replace hB:=(hB.keep hb3).alloc (.cells (Ro k3 n3 A3 ks3.length c3) 32);replace hZ:=(hZ.keep hb3).alloc (.cells (Ro k3 n3 A3 ks3.length c3) 32);have g3:=(g2.trans (hb3.mono g2.size)).alloc (by have:=hb3.size;omega) (.cells (Ro k3 n3 A3 ks3.length c3) 32);have hr4:=hr3.alloc (.cells (Ro k3 n3 A3 ks3.length c3) 32);have hr5:=hr.below g3;have s3:=hb3.size;have hK:=aC w3 32 (Ro k3 n3 A3 ks3.length c3) rfl;obtain ⟨y0,y1,y2⟩:=hK.three;clear x0 x1 x2 d0 d1 d2 e0 e1 e2;obtain ⟨x0,x1,x2⟩:=hB.three;obtain ⟨d0,d1,d2,e0,e1,e2⟩:=bW hZ;clear tok2;have tok3:=trivial)
     | (go_at_call 129;have _t:=tok;refine (tC k _).mono ?_;rw [hmn.out];rintro e w2 ⟨rfl,hb2⟩;replace hB:=hB.keep hb2;replace hZ:=hZ.keep hb2;clear x0 x1 x2;obtain ⟨x0,x1,x2⟩:=hB.three;have s2:=hZ.lt;have g2:=g1.trans (hb2.mono g1.size);have hr2:=hr.below g2;obtain ⟨d0,d1,d2,e0,e1,e2⟩:=bW hZ;clear tok;obtain ⟨m1,m2,m3⟩:=wT g2 hc1 hc2 hc3;have tok2:=trivial)
     | (go_at_call 127;refine (dY k n ks _ c _ (by omega) ha'.out ((hr.alloc _).alloc _)).mono ?_;rw [hrd.out];rintro e w1 ⟨rfl,hb1⟩;have hB:Blk w1 w.heap.size (Ro k n (some ⟨b,off,none⟩) ks.length c):=((aC w 32 _ rfl).alloc _).keep hb1;have hZ:Blk w1 (w.heap.size+1) Zr:=(aC _ 32 _ (by simp)).keep hb1;have g1:Bw w w1:=bU bw2 hb1;have s1:=hZ.lt;have hr1:=hr.below g1;obtain ⟨x0,x1,x2⟩:=hB.three;have tok:=trivial))
    refine bodyPost_ret (v:=.tuple #[.agg (Ro k n (some ⟨b,off,none⟩) ks.length c),.bool false]) (by simp [results,results103,go_sem,d0,d1,d2]) rfl ⟨k,n,ks,some ⟨b,off,none⟩,c,false,(by rw [hst0.out];rfl),(by rw [hst0.out];rfl),rfl,by omega,by omega,?_,?_⟩
    ·exact ((((hr.rdp.below g3).setCell (by simp) _).setCell (by simp) _).setCell (by simp) _).mono (fun x hx=>by simpa using hx)
    ·exact bP g3
   | some u=>
    obtain ⟨ku,nu,us⟩:=u;rw [hho] at hsteq;have hst0:=aD (show cD (.mk k n ks)=some (.mk k n (ks.set i (.mk ku nu us))) from hsteq);have hst:=aD hho;clear hx hmm hsteq hho hsk hkj;go_enter func103,ntmps103;go_wp2_with (first
     | (go_at_call 130;have _t:=tok3;refine (xT (p:=fun x=>w2.heap.size≤x∧x<w3.heap.size) k n ks _ c i k3 n3 ks3 A3 c3 (ks.set i (.mk k3 n3 ks3)) (by simp) (aMt ks i _) _ (by omega) hl3 hr5 (hrx.alloc _) (fun x hx=>by have:=hx.2;simp;omega)).mono ?_;rintro e w4 ⟨A4,c4,rfl,hl4,hr6,hb4⟩;replace hZ:=hZ.keep hb4;clear d0 d1 d2 e0 e1 e2;obtain ⟨d0,d1,d2,e0,e1,e2⟩:=bW hZ;have g4:=g3.trans (hb4.mono g3.size))
     | (go_at_call 103;have _t:=tok2;refine (ih.out k' n' ks' A' c' _ (by omega) (by omega) hsk'.out (hr'.below g2)).mono ?_;rintro e w3 ⟨k3,n3,ks3,A3,c3,bb,hv3,hw3,rfl,hl3,hs3,hr3,hb3⟩;obtain rfl:bb=true:=(by rw [hw3,hst.out];rfl);replace hv3:=aD hv3;clear hw3;replace hB:=(hB.keep hb3).alloc (.cells (Ro k3 n3 A3 ks3.length c3) 32);replace hZ:=(hZ.keep hb3).alloc (.cells (Ro k3 n3 A3 ks3.length c3) 32);have g3:=(g2.trans (hb3.mono g2.size)).alloc (by have:=hb3.size;omega) (.cells (Ro k3 n3 A3 ks3.length c3) 32);have hr4:=hr3.alloc (.cells (Ro k3 n3 A3 ks3.length c3) 32);have hr5:=hr.below g3;have s3:=hb3.size;have hK:=aC w3 32 (Ro k3 n3 A3 ks3.length c3) rfl;obtain ⟨y0,y1,y2⟩:=hK.three;clear x0 x1 x2 d0 d1 d2 e0 e1 e2;obtain ⟨x0,x1,x2⟩:=hB.three;obtain ⟨d0,d1,d2,e0,e1,e2⟩:=bW hZ;clear tok2;have tok3:=trivial;obtain ⟨rfl,rfl,rfl⟩:k3=ku∧n3=nu∧ks3=us:=(by have h:=hv3.out;rw [hst.out] at h;injection h with q1 q2 q3;exact ⟨q1,q2,q3⟩);have hrx:RdP (fun x=>w2.heap.size≤x∧x<w3.heap.size) w3 A3 0 ks3:=(hr3.lt_).mono (fun x hx=>⟨(by have h1:=hx.1;simpa using h1),hx.2⟩))
     | (go_at_call 129;have _t:=tok;refine (tC k _).mono ?_;rw [hmn.out];rintro e w2 ⟨rfl,hb2⟩;replace hB:=hB.keep hb2;replace hZ:=hZ.keep hb2;clear x0 x1 x2;obtain ⟨x0,x1,x2⟩:=hB.three;have s2:=hZ.lt;have g2:=g1.trans (hb2.mono g1.size);have hr2:=hr.below g2;obtain ⟨d0,d1,d2,e0,e1,e2⟩:=bW hZ;clear tok;obtain ⟨m1,m2,m3⟩:=wT g2 hc1 hc2 hc3;have tok2:=trivial)
     | (go_at_call 127;refine (dY k n ks _ c _ (by omega) ha'.out ((hr.alloc _).alloc _)).mono ?_;rw [hrd.out];rintro e w1 ⟨rfl,hb1⟩;have hB:Blk w1 w.heap.size (Ro k n (some ⟨b,off,none⟩) ks.length c):=((aC w 32 _ rfl).alloc _).keep hb1;have hZ:Blk w1 (w.heap.size+1) Zr:=(aC _ 32 _ (by simp)).keep hb1;have g1:Bw w w1:=bU bw2 hb1;have s1:=hZ.lt;have hr1:=hr.below g1;obtain ⟨x0,x1,x2⟩:=hB.three;have tok:=trivial))
    have hsz2:=tB ks i (.mk k3 n3 ks3);rw [Tm.size] at hsz2;refine bodyPost_ret (v:=.tuple #[.agg #[.int .i64 k,.int .i64 n,.slice A4 (ks.set i (.mk k3 n3 ks3)).length c4],.bool true]) (by simp [results,results103,go_sem,d0,d1,d2]) rfl ⟨k,n,ks.set i (.mk k3 n3 ks3),A4,c4,true,(by rw [hst0.out];rfl),(by rw [hst0.out];rfl),rfl,by simp;omega,by omega,?_,?_⟩
    ·have hr7:=hr6.mono (q:=fun x=>w.heap.size+2≤x) (fun x hx=>hx.elim (fun h=>by have:=h.1;omega) (fun h=>by simp at h;omega));exact (((hr7.setCell (by simp) _).setCell (by simp) _).setCell (by simp) _).mono (fun x hx=>by simp;omega)
    ·exact bP g4
 ·have hq:(rdx k ks==0)=false:=by simpa using hx
  have hc:=aD (fun w A c hr=>pR fY (d'+1) hd k n ks A c w hM hs'.out hx hr);obtain ⟨rr,hrr⟩:∃rr,rdx k ks=rr:=⟨_,rfl⟩;rw [hrr] at hq;have hrd:=aD hrr;have hst:=aD (show cD (.mk k n ks)=some (eA (.mk k n ks)) from by rw [cD,if_neg hx]);clear hx hrr;go_enter func103,ntmps103;go_wp2_with (first
   | (go_at_call 128;have _t:=tok;refine (hc.out _ A c hr1).mono ?_;rintro e w2 ⟨k2,n2,ks2,hv2,⟨A2,c2,rfl,hl2,hr2,hb2⟩,hs2⟩;replace hv2:=aD hv2;replace hZ:=hZ.keep hb2;obtain ⟨d0,d1,d2,e0,e1,e2⟩:=bW hZ;have g2:=g1.trans (hb2.mono g1.size))
   | (go_at_call 127;refine (dY k n ks A c _ (by omega) ha'.out ((hr.alloc _).alloc _)).mono ?_;rw [hrd.out];rintro e w1 ⟨rfl,hb1⟩;have hB:Blk w1 w.heap.size (Ro k n A ks.length c):=((aC w 32 _ rfl).alloc _).keep hb1;have hZ:Blk w1 (w.heap.size+1) Zr:=(aC _ 32 _ (by simp)).keep hb1;have g1:Bw w w1:=bU bw2 hb1;have s1:=hZ.lt;have hr1:=hr.below g1;obtain ⟨x0,x1,x2⟩:=hB.three;have tok:=trivial))
  refine bodyPost_ret (v:=.tuple #[.agg (Ro k2 n2 A2 ks2.length c2),.bool true]) (by simp [results,results103,go_sem,d0,d1,d2]) rfl ⟨k2,n2,ks2,A2,c2,true,(by rw [hst.out,hv2.out];rfl),(by rw [hst.out];rfl),rfl,hl2,by omega,?_,?_⟩
  ·exact ((((hr2.mono (q:=fun x=>w.heap.size+2≤x) (fun x hx=>hx.elim (fun h=>h.elim) (fun h=>by omega))).setCell (by simp) _).setCell (by simp) _).setCell (by simp) _).mono (fun x hx=>by simp;omega)
  ·exact bP g2
theorem aKt {t:Tm}{f:Nat}(h:cD t=none):uF f t=(some t,0):=by rw [uF,h]
theorem aKe {t u:Tm}(h:cD t=some u):uF 0 t=(none,1):=by rw [uF,h]
theorem aHq {t u:Tm}{f:Nat}(h:cD t=some u)(hv:aE u=false):uF (f+1) t=(none,2):=by rw [uF,h];simp [hv]
theorem aMm {t u:Tm}{f:Nat}(h:cD t=some u)(hv:aE u=true):uF (f+1) t=uF f u:=by rw [uF,h];simp [hv]
theorem yZ (k n:Int)(ks:List Tm)(A:Option Addr)(c:Nat)(F:Nat)(hF:F≤1000)(w:World)(hv:aE (.mk k n ks)=true)(hl:ks.length≤9223372036854775807)(hr:Rd w A 0 ks) :
  Calls prog 76 #[.agg (Ro k n A ks.length c),.int .i64 F] w (aPv (uF F (.mk k n ks)) w):=by
 obtain ⟨R,hR⟩:∃R,uF F (.mk k n ks)=R:=⟨_,rfl⟩;rw [hR];replace hR:=aD hR;go_enter func76,ntmps76;go_wp2_with fail
 go_loopw [1] (fun fv wr=>∃(f:Nat) (k n:Int) (ks:List Tm) (A:Option Addr) (c:Nat),f≤F∧Hid (uF f (.mk k n ks)=R)∧fv = .int .i64 f∧aE (.mk k n ks)=true∧ks.length≤9223372036854775807∧Blk wr w.heap.size (Ro k n A ks.length c)∧Blk wr (w.heap.size+1) Zr∧RdP (fun b=>b<w.heap.size∨w.heap.size+2≤b) wr A 0 ks∧Bw w wr)
  (fun fv _ => (intOf fv).toNat)
 case atStart=>exact ⟨F,k,n,ks,A,c,oL _,hR,rfl,hv,hl,(aC _ _ _ rfl).alloc _,aC _ _ _ (by simp),((hr.rdp.alloc _).alloc _).mono (fun b hb=>.inl hb),bw2⟩
 case round=>
  clear hv hl hr hR;obtain ⟨f,k,n,ks,A,c,hf,hRf,rfl,hv,hl,hB,hZ,hrd,hb⟩:=hrel;have hsh:=aD (aY hv);have hM:=aH hv;have hv':=aD hv;clear hv;obtain ⟨x0,x1,x2⟩:=hB.three;have lz0:=hZ.lt;have sb:=hb.size;cases hho:cD (.mk k n ks) with
  | none=>
   obtain rfl:R=(some (.mk k n ks),0):=by rw [← hRf.out,aKt hho]
   have hst:=aD hho;clear hho;go_wp2_with (first
    | (go_at_call 35;have _t:=tok;refine (eI _ k n ks A c _ (oH _) (by omega) hrd1.rd).mono ?_;rintro e w2 ⟨A3,c3,rfl,hl3,hf3,hb3⟩;replace hZ:=hZ.keep hb3;clear d0 d1 d2 e0 e1 e2;obtain ⟨d0,d1,d2,e0,e1,e2⟩:=bW hZ;have g2:=g1.trans (hb3.mono g1.size))
    | (go_at_call 103;refine (jJ 30 k n ks A c _ (oL _) hM hsh.out hrd.rd).mono ?_;rintro e w1 ⟨k3,n3,ks3,A9,c9,bb,hv3,hw3,rfl,hl9,hs3,hr3,hb9⟩;obtain rfl:bb=false:=(by rw [hw3,hst.out];rfl);clear hv3 hw3;replace hB:=(hB.keep hb9).alloc (.cells (Ro k3 n3 A9 ks3.length c9) 32);replace hZ:=(hZ.keep hb9).alloc (.cells (Ro k3 n3 A9 ks3.length c9) 32);have g1:=(hb.trans (hb9.mono hb.size)).alloc (by have:=hb9.size;omega) (.cells (Ro k3 n3 A9 ks3.length c9) 32);have hrd1:=(hrd.below hb9).alloc (.cells (Ro k3 n3 A9 ks3.length c9) 32);clear x0 x1 x2;obtain ⟨x0,x1,x2⟩:=hB.three;obtain ⟨d0,d1,d2,e0,e1,e2⟩:=bW hZ;have s1:=g1.size;have s9:w.heap.size+2≤w1.heap.size:=(by have:=hb9.size;omega);have tok:=trivial))
   refine bodyPost_ret (v:=.tuple #[.agg (Ro k n A3 ks.length c3),.int .i64 0]) (by simp [results,results76,go_sem,d0,d1,d2]) rfl ⟨k,n,ks,A3,c3,rfl,rfl,hl,?_,?_⟩
   ·exact (Fresh.rdp (tT hf3)).mono (fun b hb=>by have:=hb.1;simp at this;omega)
   ·exact bP g2
  | some u=>
   obtain ⟨ku,nu,us⟩:=u;have hst:=aD hho;clear hho;have STEP:True:=trivial;cases f with
   | zero=>
    obtain rfl:R=(none,1):=by rw [← hRf.out,aKe hst.out]
    go_wp2_with (go_at_call 103;refine (jJ 30 k n ks A c _ (oL _) hM hsh.out hrd.rd).mono ?_;rintro e w1 ⟨k3,n3,ks3,A3,c3,bb,hv3,hw3,rfl,hl3,hs3,hr3,hb3⟩;obtain rfl:bb=true:=(by rw [hw3,hst.out];rfl);obtain ⟨rfl,rfl,rfl⟩:k3=ku∧n3=nu∧ks3=us:=(by have h:=hv3;rw [hst.out] at h;injection h with q1 q2 q3;exact ⟨q1,q2,q3⟩);clear hv3 hw3;replace hB:=(hB.keep hb3).alloc (.cells (Ro k3 n3 A3 ks3.length c3) 32);replace hZ:=(hZ.keep hb3).alloc (.cells (Ro k3 n3 A3 ks3.length c3) 32);have s0:=hb3.size;have g1:=(hb.trans (hb3.mono hb.size)).alloc (by omega) (.cells (Ro k3 n3 A3 ks3.length c3) 32);have hr4:=(hr3.alloc (.cells (Ro k3 n3 A3 ks3.length c3) 32)).mono (q:=fun b=>w.heap.size+2≤b) (fun b hb=>by simp at hb;omega);have hK:=aC w1 32 (Ro k3 n3 A3 ks3.length c3) rfl;clear x0 x1 x2;obtain ⟨x0,x1,x2⟩:=hB.three;obtain ⟨y0,y1,y2⟩:=hK.three;obtain ⟨d0,d1,d2,e0,e1,e2⟩:=bW hZ;have s1:=g1.size;have tok:=trivial)
    refine bodyPost_ret (v:=.tuple #[.agg Zr,.int .i64 1]) (by simp [results,results76,go_sem,d0,d1,d2]) rfl ⟨0,0,[],none,0,rfl,rfl,by simp,RdP.nil,?_⟩;exact bP g1
   | succ f=>
    have qf:decide (((f+1:Nat):Int)<1)=false:=decide_eq_false (by omega);have qg:decide ((f:Int)+1<1)=false:=decide_eq_false (by omega);cases hvu:aE (.mk ku nu us) with
    | false=>
     obtain rfl:R=(none,2):=by rw [← hRf.out,aHq hst.out hvu]
     have hvv:=aD hvu;clear hvu;go_wp2_with (first
      | (go_at_call 41;have _t:=tok;refine (aV k3 n3 ks3 A3 c3 _ (by omega) hr4.rd).mono ?_;rw [hvv.out];rintro e w2 ⟨rfl,hb4⟩;replace hB:=hB.keep hb4;replace hZ:=hZ.keep hb4;replace hK:=hK.keep hb4;have g2:=g1.trans (hb4.mono g1.size);have hr5:=hr4.below hb4;clear x0 x1 x2 y0 y1 y2 d0 d1 d2 e0 e1 e2;obtain ⟨x0,x1,x2⟩:=hB.three;obtain ⟨y0,y1,y2⟩:=hK.three;obtain ⟨d0,d1,d2,e0,e1,e2⟩:=bW hZ;obtain ⟨z0,z1,z2⟩:=bkf hB;have s2:=g2.size)
      | (go_at_call 103;refine (jJ 30 k n ks A c _ (oL _) hM hsh.out hrd.rd).mono ?_;rintro e w1 ⟨k3,n3,ks3,A3,c3,bb,hv3,hw3,rfl,hl3,hs3,hr3,hb3⟩;obtain rfl:bb=true:=(by rw [hw3,hst.out];rfl);obtain ⟨rfl,rfl,rfl⟩:k3=ku∧n3=nu∧ks3=us:=(by have h:=hv3;rw [hst.out] at h;injection h with q1 q2 q3;exact ⟨q1,q2,q3⟩);clear hv3 hw3;replace hB:=(hB.keep hb3).alloc (.cells (Ro k3 n3 A3 ks3.length c3) 32);replace hZ:=(hZ.keep hb3).alloc (.cells (Ro k3 n3 A3 ks3.length c3) 32);have s0:=hb3.size;have g1:=(hb.trans (hb3.mono hb.size)).alloc (by omega) (.cells (Ro k3 n3 A3 ks3.length c3) 32);have hr4:=(hr3.alloc (.cells (Ro k3 n3 A3 ks3.length c3) 32)).mono (q:=fun b=>w.heap.size+2≤b) (fun b hb=>by simp at hb;omega);have hK:=aC w1 32 (Ro k3 n3 A3 ks3.length c3) rfl;clear x0 x1 x2;obtain ⟨x0,x1,x2⟩:=hB.three;obtain ⟨y0,y1,y2⟩:=hK.three;obtain ⟨d0,d1,d2,e0,e1,e2⟩:=bW hZ;have s1:=g1.size;have tok:=trivial))
     refine bodyPost_ret (v:=.tuple #[.agg Zr,.int .i64 2]) (by simp [results,results76,go_sem,d0,d1,d2]) rfl ⟨0,0,[],none,0,rfl,rfl,by simp,RdP.nil,?_⟩;exact bP g2
    | true=>
     have hRg:=aD (show uF f (.mk ku nu us)=R by rw [← hRf.out,aMm hst.out hvu]);have hvv:=aD hvu;clear hvu;go_wp2_with (first
      | (go_at_call 41;have _t:=tok;refine (aV k3 n3 ks3 A3 c3 _ (by omega) hr4.rd).mono ?_;rw [hvv.out];rintro e w2 ⟨rfl,hb4⟩;replace hB:=hB.keep hb4;replace hZ:=hZ.keep hb4;replace hK:=hK.keep hb4;have g2:=g1.trans (hb4.mono g1.size);have hr5:=hr4.below hb4;clear x0 x1 x2 y0 y1 y2 d0 d1 d2 e0 e1 e2;obtain ⟨x0,x1,x2⟩:=hB.three;obtain ⟨y0,y1,y2⟩:=hK.three;obtain ⟨d0,d1,d2,e0,e1,e2⟩:=bW hZ;obtain ⟨z0,z1,z2⟩:=bkf hB;have s2:=g2.size)
      | (go_at_call 103;refine (jJ 30 k n ks A c _ (oL _) hM hsh.out hrd.rd).mono ?_;rintro e w1 ⟨k3,n3,ks3,A3,c3,bb,hv3,hw3,rfl,hl3,hs3,hr3,hb3⟩;obtain rfl:bb=true:=(by rw [hw3,hst.out];rfl);obtain ⟨rfl,rfl,rfl⟩:k3=ku∧n3=nu∧ks3=us:=(by have h:=hv3;rw [hst.out] at h;injection h with q1 q2 q3;exact ⟨q1,q2,q3⟩);clear hv3 hw3;replace hB:=(hB.keep hb3).alloc (.cells (Ro k3 n3 A3 ks3.length c3) 32);replace hZ:=(hZ.keep hb3).alloc (.cells (Ro k3 n3 A3 ks3.length c3) 32);have s0:=hb3.size;have g1:=(hb.trans (hb3.mono hb.size)).alloc (by omega) (.cells (Ro k3 n3 A3 ks3.length c3) 32);have hr4:=(hr3.alloc (.cells (Ro k3 n3 A3 ks3.length c3) 32)).mono (q:=fun b=>w.heap.size+2≤b) (fun b hb=>by simp at hb;omega);have hK:=aC w1 32 (Ro k3 n3 A3 ks3.length c3) rfl;clear x0 x1 x2;obtain ⟨x0,x1,x2⟩:=hB.three;obtain ⟨y0,y1,y2⟩:=hK.three;obtain ⟨d0,d1,d2,e0,e1,e2⟩:=bW hZ;have s1:=g1.size;have tok:=trivial))
     refine ⟨⟨f,k3,n3,ks3,A3,c3,by omega,hRg,by go_num,hvv.out,hl3,((hB.set_ 0 _).set_ 1 _).set_ 2 _,((hZ.far (by simp) _).far (by simp) _).far (by simp) _,(((hr5.setCell (by simp) _).setCell (by simp) _).setCell (by simp) _).mono (fun b hb=>.inr hb),(bP g2)⟩,by first|(simp [intOf];done)|(simp [intOf];omega)⟩
theorem aJk {w:World}{z:Nat}(hZ:Blk w z Zr):(∀t d b off i,shape d t=true→RdC w b off i t→RdPC (·≠z) w b off i t)∧(∀(ks:List Tm) d A i,(∀t,t∈ks→shape d t=true)→Rd w A i ks→RdP (·≠z) w A i ks):=by
 refine bA (fun k n ks ih d b off i hs hr=>?_) (fun d A i _ _=>RdP.nil) (fun t ts h1 h2 d A i hs hr=>?_)
 ·obtain ⟨d,rfl⟩:∃d',d=d'+1:=by cases d with|zero=>simp [shape] at hs|succ d=>exact ⟨d,rfl⟩
  obtain ⟨ha,_,_,hk⟩:=(bF d k n ks).1 hs;obtain ⟨c1,c2,A,c,c3,hl,hr'⟩:=RdC.iff.1 hr;refine RdPC.iff.2 ⟨fun e=>?_,c1,c2,A,c,c3,hl,ih d A 0 hk hr'⟩;subst e;have h0:k≠0:=by rintro rfl;have:aU 0 = -1:=rfl;omega
  rw [hZ.cell] at c1;generalize off+i*3=j at c1
  rcases j with _|_|_|j
  ·simp at c1;exact h0 c1.symm
  ·simp at c1;exact h0 c1.symm
  ·simp at c1
  ·simp at c1
 ·obtain ⟨⟨b,off,e,hc⟩,hr'⟩:=Rd.cons_iff.1 hr;exact RdP.cons_iff.2 ⟨⟨b,off,e,h1 d b off i (hs t (by simp)) hc⟩,h2 d A (i+1) (fun u hu=>hs u (by simp [hu])) hr'⟩
theorem iM {w:World}{z:Nat}{k n:Int}{ks:List Tm}{A:Option Addr}(hZ:Blk w z Zr)(hv:aE (.mk k n ks)=true)(hr:Rd w A 0 ks)(x y v:Value) :
  Rd (((w.setCell ⟨z,0,none⟩ x).setCell ⟨z,1,none⟩ y).setCell ⟨z,2,none⟩ v) A 0 ks:=by
 have hs:=((bF 29 k n ks).1 (aY hv)).2.2.2;exact (((((aJk hZ).2 ks 29 A 0 hs hr).setCell (a:=⟨z,0,none⟩) (fun h=>h rfl) x).setCell (a:=⟨z,1,none⟩) (fun h=>h rfl) y).setCell (a:=⟨z,2,none⟩) (fun h=>h rfl) v).rd
def aSr (w:World)(k n:Int)(ks:List Tm)(e:Ending)(w':World):Prop:=
 ∃A c,e = .returned (.tuple #[.agg (Ro k n A ks.length c),.int .i64 0])∧ks.length≤9223372036854775807∧Rd w' A 0 ks∧Bw w w'
def aTt (w:World)(b:Bool)(e:Ending)(w':World):Prop:=
 ∃(k n:Int) (A:Option Addr) (l c:Nat),e = .returned (.tuple #[.agg (Ro k n A l c),.int .i64 (cX b)])∧Bw w w'
def oS (w:World):Rs Tm→Ending→World→Prop
 | .ok (.mk k n ks)=>aSr w k n ks
 | .no b=>aTt w b
theorem aJv {s o:Tm}(h:lD s = .ok o):uF 200 s=(some o,0):=by
 have:=dC h;rw [sN 200 s this.1,this.2.2]
theorem aBw:∀(f:Nat) (t:Tm),(uF f t).1=none→(uF f t).2≠0
 | f,t,h=>by
  rw [uF] at h⊢;cases hs:cD t with
  | none=>rw [hs] at h;cases h
  | some u=>
   rw [hs] at h;cases f with
   | zero=>simp
   | succ f=>
    simp only at h⊢
    split at h
    ·rename_i hv;rw [if_pos hv];exact aBw f u h
    ·rename_i hv;rw [if_neg hv];simp
theorem aRj {s:Tm}{b:Bool}(hv:aE s=true)(h:lD s = .no b):b=false∧∃c,uF 200 s=(none,c)∧c≠0:=by
 unfold lD at h
 rw [if_pos hv,← sN 200 s hv] at h;have hc:=aBw 200 s;cases hh:uF 200 s with
 | mk o c=>
  rw [hh] at h hc;cases o with
  | some o=>cases h
  | none=>injection h with h;exact ⟨h.symm,c,rfl,hc rfl⟩
theorem mP (k n:Int)(ks:List Tm)(A:Option Addr)(c:Nat)(w:World)(hv:aE (.mk k n ks)=true)(hr:Rd w A 0 ks) :
  Calls prog 45 #[.agg (Ro k n A ks.length c)] w (oS w (lD (.mk k n ks))):=by
 have hM:=aH hv;have hlen:=aJ ks;have hv':=aD hv;cases hR:lD (.mk k n ks) with
 | ok o=>
  have hvo:=aD (dC hR).2.1;obtain ⟨ko,no,os⟩:=o;have hh:=aD (aJv hR);clear hv hR;go_enter func45,ntmps45;go_wp2_with (first
   | (go_at_call 76;have _t:=tok;refine (yZ k n ks A c 200 (by omega) _ hv'.out (by omega) (hr.below g1)).mono ?_;rw [hh.out];rintro e w2 ⟨k3,n3,ks3,A3,c3,he3,rfl,hl3,hr3,hb3⟩;obtain ⟨rfl,rfl,rfl⟩:k3=ko∧n3=no∧ks3=os:=(by injection he3 with q1 q2 q3;exact ⟨q1.symm,q2.symm,q3.symm⟩);replace hZ:=(hZ.keep hb3).alloc (.cells (Ro k3 n3 A3 ks3.length c3) 32);have hK:=aC w2 32 (Ro k3 n3 A3 ks3.length c3) rfl;have s2:=hb3.size;have g2:=(g1.trans (hb3.mono g1.size)).alloc (by have:=g1.size;omega) (.cells (Ro k3 n3 A3 ks3.length c3) 32);have hr4:=hr3.rd.alloc (.cells (Ro k3 n3 A3 ks3.length c3) 32);obtain ⟨y0,y1,y2⟩:=hK.three;clear d0 d1 d2 e0 e1 e2;obtain ⟨d0,d1,d2,e0,e1,e2⟩:=bW hZ;have s3:=g2.size)
   | (go_at_call 41;refine (aV k n ks A c _ (by omega) ((hr.alloc _).alloc _)).mono ?_;rw [hv'.out];rintro e w1 ⟨rfl,hb1⟩;have hB:Blk w1 w.heap.size (Ro k n A ks.length c):=((aC w 32 _ rfl).alloc _).keep hb1;have hZ:Blk w1 (w.heap.size+1) Zr:=(aC _ 32 _ (by simp)).keep hb1;have g1:Bw w w1:=bU bw2 hb1;obtain ⟨x0,x1,x2⟩:=hB.three;obtain ⟨d0,d1,d2,e0,e1,e2,s1⟩:=dJ hZ;have tok:=trivial))
  refine bodyPost_ret (v:=.tuple #[.agg (Ro k3 n3 A3 ks3.length c3),.int .i64 0]) (by simp [results,results45,go_sem,d0,d1,d2]) rfl ⟨A3,c3,rfl,hl3,iM hZ hvo.out hr4 _ _ _,?_⟩;exact bP g2
 | no b=>
  obtain ⟨rfl,cc,hh0,hcc⟩:=aRj hv hR;have hh:=aD hh0;have qc:(cc != 0)=true:=by simpa using hcc
  clear hv hR hh0 hcc;go_enter func45,ntmps45;go_wp2_with (first
   | (go_at_call 76;have _t:=tok;refine (yZ k n ks A c 200 (by omega) _ hv'.out (by omega) (hr.below g1)).mono ?_;rw [hh.out];rintro e w2 ⟨k3,n3,ks3,A3,c3,he3,rfl,hl3,hr3,hb3⟩;replace hZ:=(hZ.keep hb3).alloc (.cells (Ro k3 n3 A3 ks3.length c3) 32);have hK:=aC w2 32 (Ro k3 n3 A3 ks3.length c3) rfl;have s2:=hb3.size;have g2:=(g1.trans (hb3.mono g1.size)).alloc (by have:=g1.size;omega) (.cells (Ro k3 n3 A3 ks3.length c3) 32);obtain ⟨y0,y1,y2⟩:=hK.three;clear d0 d1 d2 e0 e1 e2;obtain ⟨d0,d1,d2,e0,e1,e2⟩:=bW hZ;have s3:=g2.size)
   | (go_at_call 41;refine (aV k n ks A c _ (by omega) ((hr.alloc _).alloc _)).mono ?_;rw [hv'.out];rintro e w1 ⟨rfl,hb1⟩;have hB:Blk w1 w.heap.size (Ro k n A ks.length c):=((aC w 32 _ rfl).alloc _).keep hb1;have hZ:Blk w1 (w.heap.size+1) Zr:=(aC _ 32 _ (by simp)).keep hb1;have g1:Bw w w1:=bU bw2 hb1;obtain ⟨x0,x1,x2⟩:=hB.three;obtain ⟨d0,d1,d2,e0,e1,e2,s1⟩:=dJ hZ;have tok:=trivial))
  refine bodyPost_ret (v:=.tuple #[.agg Zr,.int .i64 2]) (by simp [results,results45,go_sem,d0,d1,d2]) rfl ⟨0,0,none,0,0,rfl,?_⟩;exact bP g2
theorem tA (k n:Int)(ks:List Tm)(A:Option Addr)(c:Nat)(k2 n2:Int)(s2:List Tm)(A2:Option Addr)(c2:Nat)(w:World)(hv:aE (.mk k n ks)=true)(hv2:aE (.mk k2 n2 s2)=true)(hr:Rd w A 0 ks)(hr2:Rd w A2 0 s2) :
  Calls prog 77 #[.agg (Ro k n A ks.length c),.agg (Ro k2 n2 A2 s2.length c2),.int .i64 200] w fun e w'=>e = .returned (.int .i64 (eP 200 (.mk k n ks) (.mk k2 n2 s2)))∧Bw w w':=by
 have hM:=aH hv;have hM2:=aH hv2;have hlen:=aJ ks;have hlen2:=aJ s2;have hv':=aD hv;have hv2':=aD hv2;have en:=mB 200 _ hv;have en2:=mB 200 _ hv2;obtain ⟨R1,hR1⟩:∃R,fD 200 (.mk k n ks)=R:=⟨_,rfl⟩;obtain ⟨R2,hR2⟩:∃R,fD 200 (.mk k2 n2 s2)=R:=⟨_,rfl⟩;obtain ⟨m,hm⟩:∃m,eP 200 (.mk k n ks) (.mk k2 n2 s2)=m:=⟨_,rfl⟩;rw [hm];rw [eP,← en,← en2,hR1,hR2] at hm;clear en en2;have P1:True:=trivial;by_cases hsame:fX (.mk k n ks) (.mk k2 n2 s2)=true
 ·rw [if_pos hsame] at hm;subst hm;have hsm:=aD hsame;clear hv hv2 hsame hR1 hR2;go_enter func77,ntmps77;go_wp2_with (go_at_call 104;refine (jB _ k n ks A c k2 n2 s2 A2 c2 _ (oH _) (by omega) (by omega) ((hr.alloc _).alloc _) ((hr2.alloc _).alloc _)).mono ?_;rw [hsm.out];rintro e w1 ⟨rfl,hb1⟩;have hB:Blk w1 w.heap.size (Ro k n A ks.length c):=((aC w 32 _ rfl).alloc _).keep hb1;have hB2:Blk w1 (w.heap.size+1) (Ro k2 n2 A2 s2.length c2):=(aC _ 32 _ (by simp)).keep hb1;have g1:Bw w w1:=bU bw2 hb1;obtain ⟨x0,x1,x2⟩:=hB.three;obtain ⟨z0,z1,z2⟩:=hB2.three;have s1:=hB2.lt;have tok:=trivial)
  go_ret
  exact ⟨rfl,g1⟩
 rw [if_neg hsame] at hm;have hsm:=aD (Bool.eq_false_iff.2 hsame);have hR1':=aD hR1;have hR2':=aD hR2;clear hv hv2 hsame hR1 hR2;by_cases hc1:R1.2=0
 ·by_cases hc2:R2.2=0
  ·rw [if_neg (by rintro (h|h);exact h hc1;exact h hc2)] at hm;have q1:(R1.2 != 0)=false:=by simpa using hc1
   have q2:(R2.2 != 0)=false:=by simpa using hc2
   by_cases hse:fX (R1.1.getD (.mk 0 0 [])) (R2.1.getD (.mk 0 0 []))=true
   ·rw [if_pos hse] at hm;subst hm;have hss:=aD hse;clear hse hc1 hc2;go_enter func77,ntmps77;go_wp2_with (first
     | (go_at_call 104;have _t:=tok3;refine (jB _ k3 n3 ks3 A3 c3 k4 n4 ks4 A4 c4 _ (oH _) hl3 hl4 hr7 hr6).mono ?_;rw [← he3'.out,← he4'.out,hss.out];rintro e w5 ⟨rfl,hb5⟩;have g4:=g3.trans (hb5.mono g3.size))
     | (go_at_call 105;have _t:=tok2;refine (iB fY k2 n2 s2 A2 c2 200 (by omega) _ hv2'.out (by omega) (hr2.below g2)).mono ?_;rw [hR2'.out];rintro e w3 ⟨k4,n4,ks4,A4,c4,he4,rfl,hl4,hr5,hb4⟩;have he4':=aD he4;clear he4;replace hK:=(hK.keep hb4).alloc (.cells (Ro k4 n4 A4 ks4.length c4) 32);have hL:=aC w3 32 (Ro k4 n4 A4 ks4.length c4) rfl;have g3:=(g2.trans (hb4.mono g2.size)).alloc (by have:=hb4.size;omega) (.cells (Ro k4 n4 A4 ks4.length c4) 32);have hr6:=hr5.rd.alloc (.cells (Ro k4 n4 A4 ks4.length c4) 32);have hr7:=(hr4.below hb4).alloc (.cells (Ro k4 n4 A4 ks4.length c4) 32);obtain ⟨y0,y1,y2⟩:=hK.three;obtain ⟨v0,v1,v2⟩:=hL.three;have s4':=g3.size;clear tok2;have tok3:=trivial)
     | (go_at_call 105;have _t:=tok;refine (iB fY k n ks A c 200 (by omega) _ hv'.out (by omega) (hr.below g1)).mono ?_;rw [hR1'.out];rintro e w2 ⟨k3,n3,ks3,A3,c3,he3,rfl,hl3,hr3,hb3⟩;have he3':=aD he3;clear he3;replace hB2:=(hB2.keep hb3).alloc (.cells (Ro k3 n3 A3 ks3.length c3) 32);have hK:=aC w2 32 (Ro k3 n3 A3 ks3.length c3) rfl;have s2':=hb3.size;have g2:=(g1.trans (hb3.mono g1.size)).alloc (by have:=g1.size;omega) (.cells (Ro k3 n3 A3 ks3.length c3) 32);have hr4:=hr3.rd.alloc (.cells (Ro k3 n3 A3 ks3.length c3) 32);clear x0 x1 x2 z0 z1 z2;obtain ⟨z0,z1,z2⟩:=hB2.three;have s3':=g2.size;clear tok;have tok2:=trivial)
     | (go_at_call 104;refine (jB _ k n ks A c k2 n2 s2 A2 c2 _ (oH _) (by omega) (by omega) ((hr.alloc _).alloc _) ((hr2.alloc _).alloc _)).mono ?_;rw [hsm.out];rintro e w1 ⟨rfl,hb1⟩;have hB:Blk w1 w.heap.size (Ro k n A ks.length c):=((aC w 32 _ rfl).alloc _).keep hb1;have hB2:Blk w1 (w.heap.size+1) (Ro k2 n2 A2 s2.length c2):=(aC _ 32 _ (by simp)).keep hb1;have g1:Bw w w1:=bU bw2 hb1;obtain ⟨x0,x1,x2⟩:=hB.three;obtain ⟨z0,z1,z2⟩:=hB2.three;have s1:=hB2.lt;have tok:=trivial))
    go_ret
    exact ⟨rfl,g4⟩
   ·rw [if_neg hse] at hm;subst hm;have hss:=aD (Bool.eq_false_iff.2 hse);clear hse hc1 hc2;go_enter func77,ntmps77;go_wp2_with (first
     | (go_at_call 104;have _t:=tok3;refine (jB _ k3 n3 ks3 A3 c3 k4 n4 ks4 A4 c4 _ (oH _) hl3 hl4 hr7 hr6).mono ?_;rw [← he3'.out,← he4'.out,hss.out];rintro e w5 ⟨rfl,hb5⟩;have g4:=g3.trans (hb5.mono g3.size))
     | (go_at_call 105;have _t:=tok2;refine (iB fY k2 n2 s2 A2 c2 200 (by omega) _ hv2'.out (by omega) (hr2.below g2)).mono ?_;rw [hR2'.out];rintro e w3 ⟨k4,n4,ks4,A4,c4,he4,rfl,hl4,hr5,hb4⟩;have he4':=aD he4;clear he4;replace hK:=(hK.keep hb4).alloc (.cells (Ro k4 n4 A4 ks4.length c4) 32);have hL:=aC w3 32 (Ro k4 n4 A4 ks4.length c4) rfl;have g3:=(g2.trans (hb4.mono g2.size)).alloc (by have:=hb4.size;omega) (.cells (Ro k4 n4 A4 ks4.length c4) 32);have hr6:=hr5.rd.alloc (.cells (Ro k4 n4 A4 ks4.length c4) 32);have hr7:=(hr4.below hb4).alloc (.cells (Ro k4 n4 A4 ks4.length c4) 32);obtain ⟨y0,y1,y2⟩:=hK.three;obtain ⟨v0,v1,v2⟩:=hL.three;have s4':=g3.size;clear tok2;have tok3:=trivial)
     | (go_at_call 105;have _t:=tok;refine (iB fY k n ks A c 200 (by omega) _ hv'.out (by omega) (hr.below g1)).mono ?_;rw [hR1'.out];rintro e w2 ⟨k3,n3,ks3,A3,c3,he3,rfl,hl3,hr3,hb3⟩;have he3':=aD he3;clear he3;replace hB2:=(hB2.keep hb3).alloc (.cells (Ro k3 n3 A3 ks3.length c3) 32);have hK:=aC w2 32 (Ro k3 n3 A3 ks3.length c3) rfl;have s2':=hb3.size;have g2:=(g1.trans (hb3.mono g1.size)).alloc (by have:=g1.size;omega) (.cells (Ro k3 n3 A3 ks3.length c3) 32);have hr4:=hr3.rd.alloc (.cells (Ro k3 n3 A3 ks3.length c3) 32);clear x0 x1 x2 z0 z1 z2;obtain ⟨z0,z1,z2⟩:=hB2.three;have s3':=g2.size;clear tok;have tok2:=trivial)
     | (go_at_call 104;refine (jB _ k n ks A c k2 n2 s2 A2 c2 _ (oH _) (by omega) (by omega) ((hr.alloc _).alloc _) ((hr2.alloc _).alloc _)).mono ?_;rw [hsm.out];rintro e w1 ⟨rfl,hb1⟩;have hB:Blk w1 w.heap.size (Ro k n A ks.length c):=((aC w 32 _ rfl).alloc _).keep hb1;have hB2:Blk w1 (w.heap.size+1) (Ro k2 n2 A2 s2.length c2):=(aC _ 32 _ (by simp)).keep hb1;have g1:Bw w w1:=bU bw2 hb1;obtain ⟨x0,x1,x2⟩:=hB.three;obtain ⟨z0,z1,z2⟩:=hB2.three;have s1:=hB2.lt;have tok:=trivial))
    go_ret
    exact ⟨rfl,g4⟩
  ·rw [if_pos (.inr hc2)] at hm;subst hm;have q1:(R1.2 != 0)=false:=by simpa using hc1
   have q2:(R2.2 != 0)=true:=by simpa using hc2
   clear hc1 hc2;go_enter func77,ntmps77;go_wp2_with (first
    | (go_at_call 105;have _t:=tok2;refine (iB fY k2 n2 s2 A2 c2 200 (by omega) _ hv2'.out (by omega) (hr2.below g2)).mono ?_;rw [hR2'.out];rintro e w3 ⟨k4,n4,ks4,A4,c4,he4,rfl,hl4,hr5,hb4⟩;have he4':=aD he4;clear he4;replace hK:=(hK.keep hb4).alloc (.cells (Ro k4 n4 A4 ks4.length c4) 32);have hL:=aC w3 32 (Ro k4 n4 A4 ks4.length c4) rfl;have g3:=(g2.trans (hb4.mono g2.size)).alloc (by have:=hb4.size;omega) (.cells (Ro k4 n4 A4 ks4.length c4) 32);have hr6:=hr5.rd.alloc (.cells (Ro k4 n4 A4 ks4.length c4) 32);have hr7:=(hr4.below hb4).alloc (.cells (Ro k4 n4 A4 ks4.length c4) 32);obtain ⟨y0,y1,y2⟩:=hK.three;obtain ⟨v0,v1,v2⟩:=hL.three;have s4':=g3.size;clear tok2;have tok3:=trivial)
    | (go_at_call 105;have _t:=tok;refine (iB fY k n ks A c 200 (by omega) _ hv'.out (by omega) (hr.below g1)).mono ?_;rw [hR1'.out];rintro e w2 ⟨k3,n3,ks3,A3,c3,he3,rfl,hl3,hr3,hb3⟩;have he3':=aD he3;clear he3;replace hB2:=(hB2.keep hb3).alloc (.cells (Ro k3 n3 A3 ks3.length c3) 32);have hK:=aC w2 32 (Ro k3 n3 A3 ks3.length c3) rfl;have s2':=hb3.size;have g2:=(g1.trans (hb3.mono g1.size)).alloc (by have:=g1.size;omega) (.cells (Ro k3 n3 A3 ks3.length c3) 32);have hr4:=hr3.rd.alloc (.cells (Ro k3 n3 A3 ks3.length c3) 32);clear x0 x1 x2 z0 z1 z2;obtain ⟨z0,z1,z2⟩:=hB2.three;have s3':=g2.size;clear tok;have tok2:=trivial)
    | (go_at_call 104;refine (jB _ k n ks A c k2 n2 s2 A2 c2 _ (oH _) (by omega) (by omega) ((hr.alloc _).alloc _) ((hr2.alloc _).alloc _)).mono ?_;rw [hsm.out];rintro e w1 ⟨rfl,hb1⟩;have hB:Blk w1 w.heap.size (Ro k n A ks.length c):=((aC w 32 _ rfl).alloc _).keep hb1;have hB2:Blk w1 (w.heap.size+1) (Ro k2 n2 A2 s2.length c2):=(aC _ 32 _ (by simp)).keep hb1;have g1:Bw w w1:=bU bw2 hb1;obtain ⟨x0,x1,x2⟩:=hB.three;obtain ⟨z0,z1,z2⟩:=hB2.three;have s1:=hB2.lt;have tok:=trivial))
   go_ret
   exact ⟨rfl,g3⟩
 ·rw [if_pos (.inl hc1)] at hm;subst hm;have q1:(R1.2 != 0)=true:=by simpa using hc1
  clear hc1;go_enter func77,ntmps77;go_wp2_with (first
   | (go_at_call 105;have _t:=tok2;refine (iB fY k2 n2 s2 A2 c2 200 (by omega) _ hv2'.out (by omega) (hr2.below g2)).mono ?_;rw [hR2'.out];rintro e w3 ⟨k4,n4,ks4,A4,c4,he4,rfl,hl4,hr5,hb4⟩;have he4':=aD he4;clear he4;replace hK:=(hK.keep hb4).alloc (.cells (Ro k4 n4 A4 ks4.length c4) 32);have hL:=aC w3 32 (Ro k4 n4 A4 ks4.length c4) rfl;have g3:=(g2.trans (hb4.mono g2.size)).alloc (by have:=hb4.size;omega) (.cells (Ro k4 n4 A4 ks4.length c4) 32);have hr6:=hr5.rd.alloc (.cells (Ro k4 n4 A4 ks4.length c4) 32);have hr7:=(hr4.below hb4).alloc (.cells (Ro k4 n4 A4 ks4.length c4) 32);obtain ⟨y0,y1,y2⟩:=hK.three;obtain ⟨v0,v1,v2⟩:=hL.three;have s4':=g3.size;clear tok2;have tok3:=trivial)
   | (go_at_call 105;have _t:=tok;refine (iB fY k n ks A c 200 (by omega) _ hv'.out (by omega) (hr.below g1)).mono ?_;rw [hR1'.out];rintro e w2 ⟨k3,n3,ks3,A3,c3,he3,rfl,hl3,hr3,hb3⟩;have he3':=aD he3;clear he3;replace hB2:=(hB2.keep hb3).alloc (.cells (Ro k3 n3 A3 ks3.length c3) 32);have hK:=aC w2 32 (Ro k3 n3 A3 ks3.length c3) rfl;have s2':=hb3.size;have g2:=(g1.trans (hb3.mono g1.size)).alloc (by have:=g1.size;omega) (.cells (Ro k3 n3 A3 ks3.length c3) 32);have hr4:=hr3.rd.alloc (.cells (Ro k3 n3 A3 ks3.length c3) 32);clear x0 x1 x2 z0 z1 z2;obtain ⟨z0,z1,z2⟩:=hB2.three;have s3':=g2.size;clear tok;have tok2:=trivial)
   | (go_at_call 104;refine (jB _ k n ks A c k2 n2 s2 A2 c2 _ (oH _) (by omega) (by omega) ((hr.alloc _).alloc _) ((hr2.alloc _).alloc _)).mono ?_;rw [hsm.out];rintro e w1 ⟨rfl,hb1⟩;have hB:Blk w1 w.heap.size (Ro k n A ks.length c):=((aC w 32 _ rfl).alloc _).keep hb1;have hB2:Blk w1 (w.heap.size+1) (Ro k2 n2 A2 s2.length c2):=(aC _ 32 _ (by simp)).keep hb1;have g1:Bw w w1:=bU bw2 hb1;obtain ⟨x0,x1,x2⟩:=hB.three;obtain ⟨z0,z1,z2⟩:=hB2.three;have s1:=hB2.lt;have tok:=trivial))
  go_ret
  exact ⟨rfl,g3⟩
abbrev Prs:=List Tm × List Tm
def aSl (x y:Tm):List Tm→List Tm→Option Nat
 | l::ls,r::rs=>if (fX l x && fX r y)=true then some 0 else (aSl x y ls rs).map (·+1)
 | _,_=>none
def aKh (H:Nat→Tm)(d:Int)(t u:Tm)(st:Prs):Option (Tm × Prs):=
 match bD (-d) 0 t,bD (-d) 0 u with
 | some x,some y=>(match aSl x y st.1 st.2 with|some i=>some (H i,st)|none=>some (H st.1.length,(st.1++[x],st.2++[y])))
 | _,_=>none
mutual
def cm (H:Nat→Tm):Int→Tm→Tm→Prs→Option (Tm × Prs)
 | d,.mk k n ks,u,st=>
  if u.k=k∧u.n=n∧u.kids.length=ks.length then
   (match cmL H k d 0 ks u.kids st with
    | some (os,st')=>some (.mk k n os,st')
    | none=>aKh H d (.mk k n ks) u st)
  else aKh H d (.mk k n ks) u st
def cmL (H:Nat→Tm):Int→Int→Nat→List Tm→List Tm→Prs→Option (List Tm × Prs)
 | k,d,i,t::ts,u::us,st=>
  (match cm H (d + aM k i) t u st with
   | none=>none
   | some (o,st')=>(match cmL H k d (i+1) ts us st' with|none=>none|some (os,st2)=>some (o::os,st2)))
 | _,_,_,_,_,st=>some ([],st)
end
def PrsOk (m:Nat)(st:Prs):Prop:=st.1.length=st.2.length∧st.1.length≤m∧(∀x,x∈st.1→x.size≤400)∧(∀x,x∈st.2→x.size≤400)
theorem PrsOk.mono {m m':Nat}{st:Prs}(h:PrsOk m st)(hm:m≤m'):PrsOk m' st:=⟨h.1,Nat.le_trans h.2.1 hm,h.2.2⟩
def nbd:Tm→Bool
 | .mk _ n ks=>decide (0≤n) && decide (n≤1000000) && nbds ks
where nbds:List Tm→Bool|[]=>true|t::ts=>nbd t && nbds ts
structure Fr (w:World) (k n:Int) (ks:List Tm) (A:Option Addr) (c:Nat) (ku nu:Int) (us:List Tm) (U:Option Addr) (cu:Nat) (wx:World):Prop where
 h0:Blk wx w.heap.size (Ro k n A ks.length c)
 h1:Blk wx (w.heap.size+1) (Ro ku nu U us.length cu)
 h2:Blk wx (w.heap.size+1+1) Zr
 hb:Bw w wx
section
variable {w:World}{k n:Int}{ks:List Tm}{A:Option Addr}{c:Nat}{ku nu:Int}{us:List Tm}{U:Option Addr}{cu:Nat}{wx wy:World}
theorem Fr.below (h:Fr w k n ks A c ku nu us U cu wx)(hb:Bw wx wy):Fr w k n ks A c ku nu us U cu wy:=⟨h.h0.keep hb,h.h1.keep hb,h.h2.keep hb,h.hb.trans (hb.mono h.hb.size)⟩
theorem Fr.alloc (h:Fr w k n ks A c ku nu us U cu wx)(o:Obj):Fr w k n ks A c ku nu us U cu (wx.alloc o):=h.below (bw1)
theorem Fr.drew (h:Fr w k n ks A c ku nu us U cu wx):Fr w k n ks A c ku nu us U cu wx.drew:=h.below (eR _ _).drew
theorem Fr.size (h:Fr w k n ks A c ku nu us U cu wx):w.heap.size+1+1<wx.heap.size:=h.h2.lt
theorem Fr.far (h:Fr w k n ks A c ku nu us U cu wx)(hb:Below (w.heap.size+3) wx wy):Fr w k n ks A c ku nu us U cu wy:=⟨h.h0.below hb (by omega),h.h1.below hb (by omega),h.h2.below hb (by omega),h.hb.trans (hb.mono (by omega))⟩
end
def EmpR (w:World)(g:Nat):Prop:=w.heap[g]?=some (.cells #[] 32 (0,0))
theorem EmpR.new {n:Nat}(w:World)(h:n=w.heap.size):EmpR (w.alloc (.cells #[] 32)) n:=by subst h;exact heap_alloc_new w _
theorem EmpR.lt {w:World}{g:Nat}(h:EmpR w g):g<w.heap.size:=(Array.getElem?_eq_some_iff.1 h).1
theorem EmpR.alloc {w:World}{g:Nat}(h:EmpR w g)(o:Obj):EmpR (w.alloc o) g:=(Below.heap_alloc w o g h.lt).trans h
theorem EmpR.drew {w:World}{g:Nat}(h:EmpR w g):EmpR w.drew g:=h
structure Chg (gf:Nat) (v1 v2:Value) (w w':World):Prop where
 os:w'.os=w.os
 tape:w'.tape=w.tape
 output:w'.output=w.output
 size:w.heap.size≤w'.heap.size
 block:∀b,b<w.heap.size→b≠gf→v1.ownBlock≠some b→v2.ownBlock≠some b→w'.heap[b]?=w.heap[b]?
theorem Chg.of_below {gf:Nat}{v1 v2:Value}{w w':World}(h:Bw w w'):Chg gf v1 v2 w w':=⟨h.os,h.tape,h.output,h.size,fun b hb _ _ _=>h.block b hb⟩
def OwnTo (w:World)(v v':Value):Prop:=v'.ownBlock=v.ownBlock∨∃g,w.heap.size≤g∧v'.ownBlock=some g
theorem OwnTo.refl (w:World)(v:Value):OwnTo w v v:=.inl rfl
def S3 (gf g1 g2:Nat)(c0 c1 c2:Array Value)(w:World):Prop:=Blk w gf c0∧Blk w g1 c1∧Blk w g2 c2
theorem S3.alloc {gf g1 g2:Nat}{c0 c1 c2:Array Value}{w:World}(h:S3 gf g1 g2 c0 c1 c2 w)(o:Obj):S3 gf g1 g2 c0 c1 c2 (w.alloc o):=⟨h.1.alloc o,h.2.1.alloc o,h.2.2.alloc o⟩
theorem S3.grown {gf g1 g2:Nat}{c0 c1 c2:Array Value}{w w':World}{row:Option Nat}(h:S3 gf g1 g2 c0 c1 c2 w)(hg:w.grownBy w' row)(h0:some gf≠row)(h1:some g1≠row)(h2:some g2≠row):S3 gf g1 g2 c0 c1 c2 w':=⟨h.1.grown hg h0,h.2.1.grown hg h1,h.2.2.grown hg h2⟩
theorem Chg.alloc {gf:Nat}{v1 v2:Value}{w w':World}(h:Chg gf v1 v2 w w')(o:Obj):Chg gf v1 v2 w (w'.alloc o):=⟨h.os,h.tape,h.output,Nat.le_trans h.size (by simp),fun b hb h1 h2 h3=>(Below.heap_alloc w' o b (yM hb h.size)).trans (h.block b hb h1 h2 h3)⟩
theorem Chg.drew {gf:Nat}{v1 v2:Value}{w w':World}(h:Chg gf v1 v2 w w'):Chg gf v1 v2 w w'.drew:=⟨h.os,h.tape,h.output,h.size,h.block⟩
theorem Chg.set {gf:Nat}{v1 v2:Value}{w w':World}(h:Chg gf v1 v2 w w'){p:Addr}(hp:p.block=gf∨w.heap.size≤p.block)(u:Value):Chg gf v1 v2 w (w'.setCell p u):=
 ⟨h.os,h.tape,h.output,by simpa using h.size,fun b hb h1 h2 h3=>(qQ w' p u b (by rcases hp with e|e;exact fun e'=>h1 (e'.trans e);omega)).trans (h.block b hb h1 h2 h3)⟩
theorem aS {S:World→Prop}{K:Act→World→Prop}{Q:Exit→Act→World→Prop}{a:Act}{w:World}(h:∀wx,wx=w→qL S K Q .normal a wx):qL S K Q .normal a w:=h w rfl
theorem aSf {w:World}{g:Nat}{x y:Value}(h:Blk w g #[x,y]):w.cell? ⟨g,0,none⟩=some x∧w.cell? ⟨g,1,none⟩=some y:=⟨h.at_ (i:=0) rfl,h.at_ (i:=1) rfl⟩
theorem mR (k n:Int)(ks:List Tm)(A:Option Addr)(c:Nat)(k2 n2:Int)(s2:List Tm)(A2:Option Addr)(c2:Nat)(w:World)(hv:aE (.mk k n ks)=true)(hs2:aG s2≤1000000)(hr:Rd w A 0 ks)(hr2:Rd w A2 0 s2) :
  Calls prog 46 #[.agg (Ro k n A ks.length c),.agg (Ro k2 n2 A2 s2.length c2)] w fun e w'=>e = .returned (.int .i64 (wR (.mk k n ks) (.mk k2 n2 s2)).cd)∧Bw w w':=by
 have hM:=aH hv;have hv':=aD hv;unfold wR
 cases hv2:aE (.mk k2 n2 s2) with
 | false=>
  rw [if_neg (by rintro ⟨-,h⟩;cases h)];have hv2':=aD hv2;clear hv hv2;go_enter func46,ntmps46;go_wp2_with (first
   | (go_at_call 41;have _t:=tok;refine (aV k2 n2 s2 A2 c2 _ (by omega) (hr2.below g1)).mono ?_;rw [hv2'.out];rintro e w2 ⟨rfl,hb2⟩;have g2:=g1.trans (hb2.mono g1.size);have hB':=hB.keep hb2;have hB2':=hB2.keep hb2;clear x0 x1 x2 z0 z1 z2;obtain ⟨x0,x1,x2⟩:=hB'.three;obtain ⟨z0,z1,z2⟩:=hB2'.three;clear tok;have tok2:=trivial)
   | (go_at_call 41;refine (aV k n ks A c _ (by omega) ((hr.alloc _).alloc _)).mono ?_;rw [hv'.out];rintro e w1 ⟨rfl,hb1⟩;have hB:Blk w1 w.heap.size (Ro k n A ks.length c):=((aC w 32 _ rfl).alloc _).keep hb1;have hB2:Blk w1 (w.heap.size+1) (Ro k2 n2 A2 s2.length c2):=(aC _ 32 _ (by simp)).keep hb1;have g1:Bw w w1:=bU bw2 hb1;obtain ⟨x0,x1,x2⟩:=hB.three;obtain ⟨z0,z1,z2⟩:=hB2.three;have s1:=hB2.lt;have tok:=trivial))
  go_ret
  exact ⟨rfl,g2⟩
 | true=>
  rw [if_pos ⟨hv,rfl⟩];have hv2':=aD hv2;obtain ⟨m,hm⟩:∃m,eP 200 (.mk k n ks) (.mk k2 n2 s2)=m:=⟨_,rfl⟩;rw [hm];have hm':=aD hm;clear hv hv2 hm;by_cases h1:m=1
  ·subst h1;rw [if_pos rfl];go_enter func46,ntmps46;go_wp2_with (first
    | (go_at_call 77;have _t:=tok2;refine (tA k n ks A c k2 n2 s2 A2 c2 _ hv'.out hv2'.out (hr.below g2) (hr2.below g2)).mono ?_;rw [hm'.out];rintro e w3 ⟨rfl,hb3⟩;have g3:=g2.trans (hb3.mono g2.size))
    | (go_at_call 41;have _t:=tok;refine (aV k2 n2 s2 A2 c2 _ (by omega) (hr2.below g1)).mono ?_;rw [hv2'.out];rintro e w2 ⟨rfl,hb2⟩;have g2:=g1.trans (hb2.mono g1.size);have hB':=hB.keep hb2;have hB2':=hB2.keep hb2;clear x0 x1 x2 z0 z1 z2;obtain ⟨x0,x1,x2⟩:=hB'.three;obtain ⟨z0,z1,z2⟩:=hB2'.three;clear tok;have tok2:=trivial)
    | (go_at_call 41;refine (aV k n ks A c _ (by omega) ((hr.alloc _).alloc _)).mono ?_;rw [hv'.out];rintro e w1 ⟨rfl,hb1⟩;have hB:Blk w1 w.heap.size (Ro k n A ks.length c):=((aC w 32 _ rfl).alloc _).keep hb1;have hB2:Blk w1 (w.heap.size+1) (Ro k2 n2 A2 s2.length c2):=(aC _ 32 _ (by simp)).keep hb1;have g1:Bw w w1:=bU bw2 hb1;obtain ⟨x0,x1,x2⟩:=hB.three;obtain ⟨z0,z1,z2⟩:=hB2.three;have s1:=hB2.lt;have tok:=trivial))
   go_ret
   exact ⟨rfl,g3⟩
  ·rw [if_neg h1];have q1:(m==1)=false:=by simpa using h1
   by_cases h2:m=2
   ·subst h2;rw [if_pos rfl];go_enter func46,ntmps46;go_wp2_with (first
     | (go_at_call 77;have _t:=tok2;refine (tA k n ks A c k2 n2 s2 A2 c2 _ hv'.out hv2'.out (hr.below g2) (hr2.below g2)).mono ?_;rw [hm'.out];rintro e w3 ⟨rfl,hb3⟩;have g3:=g2.trans (hb3.mono g2.size))
     | (go_at_call 41;have _t:=tok;refine (aV k2 n2 s2 A2 c2 _ (by omega) (hr2.below g1)).mono ?_;rw [hv2'.out];rintro e w2 ⟨rfl,hb2⟩;have g2:=g1.trans (hb2.mono g1.size);have hB':=hB.keep hb2;have hB2':=hB2.keep hb2;clear x0 x1 x2 z0 z1 z2;obtain ⟨x0,x1,x2⟩:=hB'.three;obtain ⟨z0,z1,z2⟩:=hB2'.three;clear tok;have tok2:=trivial)
     | (go_at_call 41;refine (aV k n ks A c _ (by omega) ((hr.alloc _).alloc _)).mono ?_;rw [hv'.out];rintro e w1 ⟨rfl,hb1⟩;have hB:Blk w1 w.heap.size (Ro k n A ks.length c):=((aC w 32 _ rfl).alloc _).keep hb1;have hB2:Blk w1 (w.heap.size+1) (Ro k2 n2 A2 s2.length c2):=(aC _ 32 _ (by simp)).keep hb1;have g1:Bw w w1:=bU bw2 hb1;obtain ⟨x0,x1,x2⟩:=hB.three;obtain ⟨z0,z1,z2⟩:=hB2.three;have s1:=hB2.lt;have tok:=trivial))
    go_ret
    exact ⟨rfl,g3⟩
   ·rw [if_neg h2];have q2:(m==2)=false:=by simpa using h2
    go_enter func46,ntmps46;go_wp2_with (first
     | (go_at_call 77;have _t:=tok2;refine (tA k n ks A c k2 n2 s2 A2 c2 _ hv'.out hv2'.out (hr.below g2) (hr2.below g2)).mono ?_;rw [hm'.out];rintro e w3 ⟨rfl,hb3⟩;have g3:=g2.trans (hb3.mono g2.size))
     | (go_at_call 41;have _t:=tok;refine (aV k2 n2 s2 A2 c2 _ (by omega) (hr2.below g1)).mono ?_;rw [hv2'.out];rintro e w2 ⟨rfl,hb2⟩;have g2:=g1.trans (hb2.mono g1.size);have hB':=hB.keep hb2;have hB2':=hB2.keep hb2;clear x0 x1 x2 z0 z1 z2;obtain ⟨x0,x1,x2⟩:=hB'.three;obtain ⟨z0,z1,z2⟩:=hB2'.three;clear tok;have tok2:=trivial)
     | (go_at_call 41;refine (aV k n ks A c _ (by omega) ((hr.alloc _).alloc _)).mono ?_;rw [hv'.out];rintro e w1 ⟨rfl,hb1⟩;have hB:Blk w1 w.heap.size (Ro k n A ks.length c):=((aC w 32 _ rfl).alloc _).keep hb1;have hB2:Blk w1 (w.heap.size+1) (Ro k2 n2 A2 s2.length c2):=(aC _ 32 _ (by simp)).keep hb1;have g1:Bw w w1:=bU bw2 hb1;obtain ⟨x0,x1,x2⟩:=hB.three;obtain ⟨z0,z1,z2⟩:=hB2.three;have s1:=hB2.lt;have tok:=trivial))
    go_ret
    exact ⟨rfl,g3⟩
theorem aCt (i j:Int)(w:World):Calls prog 149 #[.int .i64 i,.int .i64 j] w fun e w'=>e = .returned (.int .i64 (if j<i then i else j))∧Bw w w':=by
 by_cases h:j<i
 ·rw [if_pos h];have q:decide (j<i)=true:=decide_eq_true h;go_enter func149,ntmps149;go_wp2_with fail
  go_ret
  exact ⟨rfl,eR _ _⟩
 ·rw [if_neg h];have q:decide (j<i)=false:=decide_eq_false h;go_enter func149,ntmps149;go_wp2_with fail
  go_ret
  exact ⟨rfl,eR _ _⟩
theorem PartR.ownB {lo:Nat→Prop}{B:Nat}{w:World}{v:Value}{ts:List Tm}(h:PartR lo B w v ts):∀g,v.ownBlock=some g→B≤g:=fun g hg=>by
 obtain ⟨xs,h1,_⟩:=h;exact (h1.lt g hg).1
def Emp (w:World)(g:Nat):Prop:=w.heap[g]?=some (.cells #[] 32 (0,0))∧g<w.heap.size
theorem Emp.below {w w':World}{g:Nat}(h:Emp w g)(hb:Bw w w'):Emp w' g:=⟨by rw [hb.block g h.2];exact h.1,yM h.2 hb.size⟩
def aDl (w:World)(ts:List Tm)(e:Ending)(w':World):Prop:=∃D d,e = .returned (.slice D ts.length d)∧Rd w' D 0 ts∧Bw w w'
theorem pA (ctx:List Tm)(C:Option Addr)(cc:Nat)(k n:Int)(ks:List Tm)(A:Option Addr)(c:Nat)(w:World)(hm:ctx.length≤1000)(hl:ks.length≤9223372036854775807)(hrc:Rd w C 0 ctx)(hra:Rd w A 0 ks) :
  Calls prog 91 #[.slice C ctx.length cc,.agg (Ro k n A ks.length c)] w (aDl w (ctx++[.mk k n ks])):=by
 go_enter func91,ntmps91;go_upto_region 1 with fail
 refine aUn (show Blk _ w.heap.size (Ro k n A ks.length c) from (aC _ 32 _ rfl)) bw1 ?_;intro wx hT gx;have rcx:=(hrc.below gx).rdp;have rax:=(hra.below gx).rdp;obtain ⟨v0,v1,v2⟩:=jR hT;refine eT wx [5,6] [1,3] 7 5 (lT:=[_,_]) ?_;intro q0 bq0;refine bZ (aD ?_);refine nK 0 4 ?_ ?_
 ·go_wp2_with fail
  refine aS ?_;intro q1 hn;have hbq1:Bw q0 q1:=by rw [hn];exact bw1
  have Eq1:Emp q1 q0.heap.size:=by rw [hn];exact ⟨heap_alloc_new _ _,by simp⟩
  have seq1:q0.heap.size<q1.heap.size:=by rw [hn];simp
  clear hn;refine aX bq0 hbq1 ?_;intro bq1 lq1;refine nK 2 4 ?_ ?_
  ·have lgq2:q0.heap.size<q1.heap.size:=Eq1.2;refine eU (p:=fun b=>b<wx.heap.size) (g:=q0.heap.size) (cl:=cc) Eq1.1 (rcx.below bq1) (fun b hb=>⟨yM hb bq1.size,by have:=bq0.size;omega⟩) rfl (by omega) rfl _ _ rfl rfl rfl ?_;intro C2 c2 q2 hPq2 hgq2;have hbq2:Below q0.heap.size q1 q2:=⟨hgq2.os,hgq2.tape,hgq2.output,hgq2.size,fun k hk=>hgq2.block k (by omega) (fun e=>by injection e;omega)⟩;have bq2:Bw wx q2:=bq1.trans (hbq2.mono bq0.size);have lq2:=hbq2.size;refine aQ bq2 ?_;refine bB 4 ?_
   ·go_wp2_with fail
    refine aS ?_;intro q3 hn;have hbq3:Bw q2 q3:=by rw [hn];exact bw1
    have zq3:Blk q3 q2.heap.size (Ro k n A ks.length c):=by rw [hn];exact aC _ 32 _ rfl
    have seq3:q2.heap.size<q3.heap.size:=by rw [hn];simp
    clear hn;have Pq3:=hPq2.below hbq3;refine aX bq2 hbq3 ?_;intro bq3 lq3;refine cP [5,6] (lB:=[_,_]) ?_;have lB:q0.heap.size≤q3.heap.size:=by have:=lq3;omega
    have lA:wx.heap.size≤q0.heap.size:=bq0.size;refine eN (lo:=fun b=>b<wx.heap.size) (B:=q0.heap.size) (q:=fun b=>b<wx.heap.size) Pq3 lB (rax.below bq3) (fun b hb=>⟨.inl hb,yM hb bq3.size,fun e=>by have:=Pq3.ownB b e;omega⟩) hl rfl (by omega) q2.heap.size 1 zq3 rfl _ _ rfl rfl rfl ?_;intro A9 c9 w9 hp9 hb9 hg9 hn9;obtain ⟨A8,c8,e8,r8⟩:=hp9.rd;injection e8 with e81 e82 e83;subst e81 e83;have hlen9:(ctx++[Tm.mk k n ks]).length=ctx.length+1:=by simp
    refine gS (aD ?_);go_wp2_with fail
    go_ret
    exact ⟨A9,c9,by rw [hlen9];rfl,r8.rd,(gx.trans (bq3.mono gx.size)).trans (hb9.mono (by have:=gx.size;omega))⟩
  ·go_wp2_with fail
   refine aS ?_;intro q4 hn;have hbq4:Bw q1 q4:=by rw [hn];exact bw1
   have zq4:Blk q4 q1.heap.size (Ro k n A ks.length c):=by rw [hn];exact aC _ 32 _ rfl
   have seq4:q1.heap.size<q4.heap.size:=by rw [hn];simp
   clear hn;have Eq4:=Eq1.below hbq4;refine aX bq1 hbq4 ?_;intro bq4 lq4;refine bB 2 ?_
   ·have lgq5:q0.heap.size<q4.heap.size:=Eq4.2;refine eU (p:=fun b=>b<wx.heap.size) (g:=q0.heap.size) (cl:=cc) Eq4.1 (rcx.below bq4) (fun b hb=>⟨yM hb bq4.size,by have:=bq0.size;omega⟩) rfl (by omega) rfl _ _ rfl rfl rfl ?_;intro C2 c2 q5 hPq5 hgq5;have hbq5:Below q0.heap.size q4 q5:=⟨hgq5.os,hgq5.tape,hgq5.output,hgq5.size,fun k hk=>hgq5.block k (by omega) (fun e=>by injection e;omega)⟩;have Kq5:=zq4.grown hgq5 (by simp;omega);have bq5:Bw wx q5:=bq4.trans (hbq5.mono bq0.size);have lq5:=hbq5.size;refine aQ bq5 ?_;refine cP [5,6] (lB:=[_,_]) ?_;have lB:q0.heap.size≤q5.heap.size:=by have:=lq5;omega
    have lA:wx.heap.size≤q0.heap.size:=bq0.size;refine eN (lo:=fun b=>b<wx.heap.size) (B:=q0.heap.size) (q:=fun b=>b<wx.heap.size) hPq5 lB (rax.below bq5) (fun b hb=>⟨.inl hb,yM hb bq5.size,fun e=>by have:=hPq5.ownB b e;omega⟩) hl rfl (by omega) q1.heap.size 1 Kq5 rfl _ _ rfl rfl rfl ?_;intro A9 c9 w9 hp9 hb9 hg9 hn9;obtain ⟨A8,c8,e8,r8⟩:=hp9.rd;injection e8 with e81 e82 e83;subst e81 e83;have hlen9:(ctx++[Tm.mk k n ks]).length=ctx.length+1:=by simp
    refine gS (aD ?_);go_wp2_with fail
    go_ret
    exact ⟨A9,c9,by rw [hlen9];rfl,r8.rd,(gx.trans (bq5.mono gx.size)).trans (hb9.mono (by have:=gx.size;omega))⟩
 ·go_wp2_with fail
  refine aS ?_;intro q6 hn;have hbq6:Bw q0 q6:=by rw [hn];exact bw1
  have zq6:Blk q6 q0.heap.size (Ro k n A ks.length c):=by rw [hn];exact aC _ 32 _ rfl
  have seq6:q0.heap.size<q6.heap.size:=by rw [hn];simp
  clear hn;refine aX bq0 hbq6 ?_;intro bq6 lq6;refine bB 0 ?_
  ·go_wp2_with fail
   refine aS ?_;intro q7 hn;have hbq7:Bw q6 q7:=by rw [hn];exact bw1
   have Eq7:Emp q7 q6.heap.size:=by rw [hn];exact ⟨heap_alloc_new _ _,by simp⟩
   have seq7:q6.heap.size<q7.heap.size:=by rw [hn];simp
   clear hn;have Kq7:=zq6.keep hbq7;refine aX bq6 hbq7 ?_;intro bq7 lq7;refine bB 2 ?_
   ·have lgq8:q6.heap.size<q7.heap.size:=Eq7.2;refine eU (p:=fun b=>b<wx.heap.size) (g:=q6.heap.size) (cl:=cc) Eq7.1 (rcx.below bq7) (fun b hb=>⟨yM hb bq7.size,by have:=bq6.size;omega⟩) rfl (by omega) rfl _ _ rfl rfl rfl ?_;intro C2 c2 q8 hPq8 hgq8;have hbq8:Below q6.heap.size q7 q8:=⟨hgq8.os,hgq8.tape,hgq8.output,hgq8.size,fun k hk=>hgq8.block k (by omega) (fun e=>by injection e;omega)⟩;have Kq8:=Kq7.grown hgq8 (by simp;omega);have bq8:Bw wx q8:=bq7.trans (hbq8.mono bq6.size);have lq8:=hbq8.size;refine aQ bq8 ?_;refine cP [5,6] (lB:=[_,_]) ?_;have lB:q6.heap.size≤q8.heap.size:=by have:=lq8;omega
    have lA:wx.heap.size≤q6.heap.size:=bq6.size;refine eN (lo:=fun b=>b<wx.heap.size) (B:=q6.heap.size) (q:=fun b=>b<wx.heap.size) hPq8 lB (rax.below bq8) (fun b hb=>⟨.inl hb,yM hb bq8.size,fun e=>by have:=hPq8.ownB b e;omega⟩) hl rfl (by omega) q0.heap.size 1 Kq8 rfl _ _ rfl rfl rfl ?_;intro A9 c9 w9 hp9 hb9 hg9 hn9;obtain ⟨A8,c8,e8,r8⟩:=hp9.rd;injection e8 with e81 e82 e83;subst e81 e83;have hlen9:(ctx++[Tm.mk k n ks]).length=ctx.length+1:=by simp
    refine gS (aD ?_);go_wp2_with fail
    go_ret
    exact ⟨A9,c9,by rw [hlen9];rfl,r8.rd,(gx.trans (bq8.mono gx.size)).trans (hb9.mono (by have:=gx.size;omega))⟩
theorem uO (i:Nat):aI [] i=default:=rfl
theorem kH (t:Tm)(ts:List Tm):aI (t::ts) 0=t:=rfl
theorem gR (t:Tm)(ts:List Tm)(i:Nat):aI (t::ts) (i+1)=aI ts i:=rfl
theorem iL {ks:List Tm}{i:Nat}(h:ks.length≤i):aI ks i=default:=by
 rw [aI,List.getD_eq_getElem?_getD,List.getElem?_eq_none h];rfl
theorem uI (k:Int)(i:Nat):aM k (i:Int)=0∨aM k (i:Int)=1:=by have:=cW k i;omega
theorem aFv (b k c:Int):∀(ks:List Tm) (i j:Nat),aI (bN b k c i ks) j=bT b (c+aM k ((i+j:Nat):Int)) (aI ks j)
 | [],i,j=>by rw [bN,uO];show _=bT b _ (.mk 0 0 []);rw [bT,if_neg (by rintro ⟨h,-⟩;cases h),bN];rfl
 | t::ts,i,0=>by rw [bN,kH,kH];rfl
 | t::ts,i,j+1=>by rw [bN,gR,gR,aFv b k c ts (i+1) j,show i+1+j=i+(j+1) by omega]
theorem aFg (u:Tm)(k x d:Int):∀(ks:List Tm) (i j:Nat),aI (cE u k x d i ks) j=bX u (x+aM k ((i+j:Nat):Int)) (d+aM k ((i+j:Nat):Int)) (aI ks j)
 | [],i,j=>by rw [cE,uO];show _=bX u _ _ (.mk 0 0 []);rw [bX,if_neg (by rintro ⟨h,-⟩;cases h),if_neg (by rintro ⟨h,-⟩;cases h),cE];rfl
 | t::ts,i,0=>by rw [cE,kH,kH];rfl
 | t::ts,i,j+1=>by rw [cE,gR,gR,aFg u k x d ts (i+1) j,show i+1+j=i+(j+1) by omega]
theorem mY (b k c:Int)(ks:List Tm)(j:Nat):aI (bN b k c 0 ks) j=bT b (c+aM k (j:Int)) (aI ks j):=by rw [aFv,Nat.zero_add]
theorem nP (u:Tm)(k x d:Int)(ks:List Tm)(j:Nat):aI (cE u k x d 0 ks) j=bX u (x+aM k (j:Int)) (d+aM k (j:Int)) (aI ks j):=by rw [aFg,Nat.zero_add]
theorem vB {u:Tm}{x d n:Int}{ks:List Tm}(h:n=x):bX u x d (.mk 1 n ks)=bT d 0 u:=by rw [bX,if_pos ⟨rfl,h⟩]
theorem iF {u:Tm}{x d n:Int}{ks:List Tm}(h:x<n):bX u x d (.mk 1 n ks) = .mk 1 (n - 1) (cE u 1 x d 0 ks):=by rw [bX,if_neg (by omega),if_pos ⟨rfl,h⟩]
theorem gJ {u:Tm}{x d n:Int}{ks:List Tm}(h:n<x):bX u x d (.mk 1 n ks) = .mk 1 n (cE u 1 x d 0 ks):=by rw [bX,if_neg (by omega),if_neg (by omega)]
theorem lS {u:Tm}{x d k n:Int}{ks:List Tm}(h:k≠1):bX u x d (.mk k n ks) = .mk k n (cE u k x d 0 ks):=by rw [bX,if_neg (fun e=>h e.1),if_neg (fun e=>h e.1)]
theorem kO {b c n:Int}{ks:List Tm}(h:c≤n):bT b c (.mk 1 n ks) = .mk 1 (n+b) (bN b 1 c 0 ks):=by rw [bT,if_pos ⟨rfl,h⟩]
theorem nO {b c n:Int}{ks:List Tm}(h:n<c):bT b c (.mk 1 n ks) = .mk 1 n (bN b 1 c 0 ks):=by rw [bT,if_neg (by omega)]
theorem eJ {b c k n:Int}{ks:List Tm}(h:k≠1):bT b c (.mk k n ks) = .mk k n (bN b k c 0 ks):=by rw [bT,if_neg (fun e=>h e.1)]
theorem aFk (b b':Int)(hb:0≤b)(hb':0≤b'):(∀(t:Tm) (c c':Int),c≤c'→bT b' (c'+b) (bT b c t)=bT b c (bT b' c' t))∧
  ∀(ts:List Tm) (k c c':Int) (i:Nat),c≤c'→bN b' k (c'+b) i (bN b k c i ts)=bN b k c i (bN b' k c' i ts):=by
 refine bA (fun k n ks ih c c' h=>?_) (fun k c c' i h=>?_) (fun t ts h1 h2 k c c' i h=>?_)
 ·rw [bT,bT,bT,bT,ih k c c' 0 h];congr 1
  by_cases hk:k=1
  ·simp only [hk,true_and]
   split<;>split<;>split<;>(try split)<;>omega
  ·simp only [hk,false_and,if_false]
 ·simp only [bN]
 ·simp only [bN]
  rw [h2 k c c' (i+1) h,show c'+b+aM k (i:Int)=c'+aM k (i:Int)+b by omega,h1 _ _ (by omega)]
theorem lW (b b':Int)(hb':0≤b'):(∀(t:Tm) (c c':Int),c≤c'→c'≤c+b'→bT b c' (bT b' c t)=bT (b+b') c t)∧
  ∀(ts:List Tm) (k c c':Int) (i:Nat),c≤c'→c'≤c+b'→bN b k c' i (bN b' k c i ts)=bN (b+b') k c i ts:=by
 refine bA (fun k n ks ih c c' h h'=>?_) (fun k c c' i h h'=>?_) (fun t ts h1 h2 k c c' i h h'=>?_)
 ·rw [bT,bT,bT,ih k c c' 0 h h'];congr 1
  by_cases hk:k=1
  ·simp only [hk,true_and]
   split<;>split<;>omega
  ·simp only [hk,false_and,if_false]
 ·simp only [bN]
 ·simp only [bN]
  rw [h2 k c c' (i+1) h h',h1 _ _ (by omega) (by omega)]
theorem aDj (u:Tm)(b c:Int)(hb:0≤b)(hc:0≤c):(∀(t:Tm) (e:Int),0≤e→bT b (c+e) (bX u e e t)=bX (bT b c u) e e (bT b (c+1+e) t))∧
  ∀(ts:List Tm) (k e:Int) (i:Nat),0≤e→bN b k (c+e) i (cE u k e e i ts)=cE (bT b c u) k e e i (bN b k (c+1+e) i ts):=by
 refine bA (fun k n ks ih e he=>?_) (fun k e i he=>?_) (fun t ts h1 h2 k e i he=>?_)
 ·by_cases hk:k=1
  ·subst hk;by_cases hn:n=e
   ·rw [bX,if_pos ⟨rfl,hn⟩,bT,if_neg (by omega),bX,if_pos ⟨rfl,hn⟩,(aFk e b he hb).1 u 0 c hc]
   ·by_cases h2:c+1+e≤n
    ·rw [iF (by omega),kO (by omega),kO h2,iF (by omega),ih 1 e 0 he];congr 1;omega
    ·by_cases h3:e<n
     ·rw [iF h3,nO (by omega),nO (by omega),iF h3,ih 1 e 0 he]
     ·rw [gJ (by omega),nO (by omega),nO (by omega),gJ (by omega),ih 1 e 0 he]
  ·rw [bX,if_neg (fun h=>hk h.1),if_neg (fun h=>hk h.1),bT,if_neg (fun h=>hk h.1),bT,if_neg (fun h=>hk h.1),bX,if_neg (fun h=>hk h.1),if_neg (fun h=>hk h.1),ih k e 0 he]
 ·simp only [bN,cE]
 ·simp only [bN,cE]
  rw [h2 k e (i+1) he,show c+e+aM k (i:Int)=c+(e+aM k (i:Int)) by omega,h1 _ (by have:=cW k i;omega),show c+1+e+aM k (i:Int)=c+1+(e+aM k (i:Int)) by omega]
theorem aEi (v:Tm)(e:Int)(he:0≤e):(∀(t:Tm) (c d x:Int),0≤c→c≤d→d≤x→bX v (x+e) (d+e) (bT e c t)=bT e c (bX v x d t))∧
  ∀(ts:List Tm) (k c d x:Int) (i:Nat),0≤c→c≤d→d≤x→cE v k (x+e) (d+e) i (bN e k c i ts)=bN e k c i (cE v k x d i ts):=by
 refine bA (fun k n ks ih c d x h0 h1 h2=>?_) (fun k c d x i h0 h1 h2=>?_) (fun t ts i1 i2 k c d x i h0 h1 h2=>?_)
 ·by_cases hk:k=1
  ·subst hk;by_cases hn:n=x
   ·rw [bT,if_pos ⟨rfl,by omega⟩,bX,if_pos ⟨rfl,by omega⟩,bX,if_pos ⟨rfl,hn⟩,(lW e d (by omega)).1 v 0 c h0 (by omega),show d+e=e+d by omega]
   ·by_cases hc:c≤n
    ·by_cases h3:x<n
     ·rw [kO hc,iF (by omega),iF h3,kO (by omega),ih 1 c d x 0 h0 h1 h2];congr 1;omega
     ·rw [kO hc,gJ (by omega),gJ (by omega),kO hc,ih 1 c d x 0 h0 h1 h2]
    ·rw [nO (by omega),gJ (by omega),gJ (by omega),nO (by omega),ih 1 c d x 0 h0 h1 h2]
  ·rw [bT,if_neg (fun h=>hk h.1),bX,if_neg (fun h=>hk h.1),if_neg (fun h=>hk h.1),bX,if_neg (fun h=>hk h.1),if_neg (fun h=>hk h.1),bT,if_neg (fun h=>hk h.1),ih k c d x 0 h0 h1 h2]
 ·simp only [bN,cE]
 ·simp only [bN,cE]
  have:=cW k i;rw [i2 k c d x (i+1) h0 h1 h2,show x+e+aM k (i:Int)=x+aM k (i:Int)+e by omega,show d+e+aM k (i:Int)=d+aM k (i:Int)+e by omega,i1 _ _ _ (by omega) (by omega) (by omega)]
theorem uN (w:Tm)(m:Int)(hm:0≤m):(∀(t:Tm) (c x e:Int),c≤x→x≤c+m→bX w x e (bT (m+1) c t)=bT m c t)∧
  ∀(ts:List Tm) (k c x e:Int) (i:Nat),c≤x→x≤c+m→cE w k x e i (bN (m+1) k c i ts)=bN m k c i ts:=by
 refine bA (fun k n ks ih c x e h1 h2=>?_) (fun k c x e i h1 h2=>?_) (fun t ts i1 i2 k c x e i h1 h2=>?_)
 ·rw [bT,bX,bT,ih k c x e 0 h1 h2];by_cases h:k=1∧c≤n
  ·rw [if_pos h,if_pos h,if_neg (by omega),if_pos (by omega)];congr 1;omega
  ·rw [if_neg h,if_neg h,if_neg (by omega),if_neg (by omega)]
 ·simp only [bN,cE]
 ·simp only [bN,cE]
  rw [i2 k c x e (i+1) h1 h2,i1 _ _ _ (by omega) (by omega)]
theorem aPt (u v:Tm)(x d:Int)(hd:0≤d)(hx:d≤x):(∀(t:Tm) (e:Int),0≤e→bX v (x+e) (d+e) (bX u e e t)=bX (bX v x d u) e e (bX v (x+1+e) (d+1+e) t))∧
  ∀(ts:List Tm) (k e:Int) (i:Nat),0≤e→cE v k (x+e) (d+e) i (cE u k e e i ts)=cE (bX v x d u) k e e i (cE v k (x+1+e) (d+1+e) i ts):=by
 refine bA (fun k n ks ih e he=>?_) (fun k e i he=>?_) (fun t ts h1 h2 k e i he=>?_)
 ·by_cases hk:k=1
  ·subst hk;by_cases hn:n=e
   ·rw [bX,if_pos ⟨rfl,hn⟩,bX,if_neg (by omega),if_neg (by omega),bX,if_pos ⟨rfl,hn⟩];exact (aEi v e he).1 u 0 d x (by omega) hd hx
   ·by_cases h2:n=x+1+e
    ·rw [iF (by omega),vB (by omega),vB h2,show d+1+e=d+e+1 by omega,(uN (bX v x d u) (d+e) (by omega)).1 v 0 e e he (by omega)]
    ·by_cases h3:e<n
     ·by_cases h4:x+1+e<n
      ·rw [iF h3,iF (by omega),iF h4,iF (by omega),ih 1 e 0 he]
      ·rw [iF h3,gJ (by omega),gJ (by omega),iF h3,ih 1 e 0 he]
     ·rw [gJ (by omega),gJ (by omega),gJ (by omega),gJ (by omega),ih 1 e 0 he]
  ·rw [bX,if_neg (fun h=>hk h.1),if_neg (fun h=>hk h.1),bX,if_neg (fun h=>hk h.1),if_neg (fun h=>hk h.1),bX,if_neg (fun h=>hk h.1),if_neg (fun h=>hk h.1),bX,if_neg (fun h=>hk h.1),if_neg (fun h=>hk h.1),ih k e 0 he]
 ·simp only [cE]
 ·simp only [cE]
  rw [h2 k e (i+1) he,show x+e+aM k (i:Int)=x+(e+aM k (i:Int)) by omega,show d+e+aM k (i:Int)=d+(e+aM k (i:Int)) by omega,h1 _ (by have:=cW k i;omega),show x+1+e+aM k (i:Int)=x+1+(e+aM k (i:Int)) by omega,show d+1+e+aM k (i:Int)=d+1+(e+aM k (i:Int)) by omega]
theorem aTs (b c:Int)(t:Tm):(bT b c t).k=t.k:=by cases t;rfl
theorem aTo {u:Tm}{x d:Int}{t:Tm}(h:t.k≠1):(bX u x d t).k=t.k:=by
 obtain ⟨k,n,ks⟩:=t;rw [bX,if_neg (fun e=>h e.1)];rfl
theorem kZ (ks:List Tm)(i:Nat):fZ ks i=(aI ks i).k:=rfl
theorem aQo {k:Int}{ks ls:List Tm}(h0:fZ ls 0=fZ ks 0)(h1:fZ ls 1=fZ ks 1)(h3:fZ ls 3=fZ ks 3):rdx k ls=rdx k ks:=by unfold rdx;rw [h0,h1,h3]
theorem aAu (b c k:Int)(ks:List Tm):rdx k (bN b k c 0 ks)=rdx k ks:=by
 refine aQo ?_ ?_ ?_<;>rw [kZ,mY,aTs]<;>rfl
theorem jE {b c k:Int}{ks:List Tm}(hb:binds k=false)(j:Nat):aI (bN b k c 0 ks) j=bT b c (aI ks j):=by
 rw [mY,show aM k (j:Int)=0 by unfold aM;rw [if_neg (by rw [hb];rintro ⟨-,h⟩;cases h)],Int.add_zero]
theorem jS {u:Tm}{x d k:Int}{ks:List Tm}(hb:binds k=false)(j:Nat):aI (cE u k x d 0 ks) j=bX u x d (aI ks j):=by
 rw [nP,show aM k (j:Int)=0 by unfold aM;rw [if_neg (by rw [hb];rintro ⟨-,h⟩;cases h)],Int.add_zero,Int.add_zero]
theorem aFr (b c:Int)(t:Tm)(j:Nat):aI (bT b c t).ks j=bT b (c+aM t.k (j:Int)) (aI t.ks j):=by
 obtain ⟨k,n,ks⟩:=t;rw [bT];exact mY b k c ks j
theorem aGg {u:Tm}{x d:Int}{t:Tm}(h:t.k≠1)(j:Nat):aI (bX u x d t).ks j=bX u (x+aM t.k (j:Int)) (d+aM t.k (j:Int)) (aI t.ks j):=by
 obtain ⟨k,n,ks⟩:=t;rw [bX,if_neg (fun e=>h e.1)];exact nP u k x d ks j
theorem eX {k:Int}{ks:List Tm}(h:rdx k ks≠0):(rdx k ks=1∧k=5∧fZ ks 0=4)∨(rdx k ks=2∧k=9∧fZ ks 3=7)∨(rdx k ks=3∧k=9∧fZ ks 3=8)∨(rdx k ks=4∧k=12∧fZ ks 1=11)∨(rdx k ks=5∧k=15∧fZ ks 0=14)∨(rdx k ks=6∧k=16∧fZ ks 0=14):=aGc h
theorem nU {k n:Int}{ks:List Tm}(h:rdx k ks=1):eA (.mk k n ks)=bX (aI ks 1) 0 0 (aI (aI ks 0).ks 1):=by rw [eA,if_pos h]
theorem nM {k n:Int}{ks:List Tm}(h:rdx k ks=2):eA (.mk k n ks)=aI ks 1:=by rw [eA,if_neg (by omega),if_pos h]
theorem mT {k n:Int}{ks:List Tm}(h:rdx k ks=3):eA (.mk k n ks) = .mk 5 0 [.mk 5 0 [aI ks 2,aI (aI ks 3).ks 0],.mk 9 0 [aI ks 0,aI ks 1,aI ks 2,aI (aI ks 3).ks 0]]:=by rw [eA,if_neg (by omega),if_neg (by omega),if_pos h]
theorem nF {k n:Int}{ks:List Tm}(h:rdx k ks=4):eA (.mk k n ks)=aI ks 2:=by rw [eA,if_neg (by omega),if_neg (by omega),if_neg (by omega),if_pos h]
theorem nW {k n:Int}{ks:List Tm}(h:rdx k ks=5):eA (.mk k n ks)=aI (aI ks 0).ks 1:=by rw [eA,if_neg (by omega),if_neg (by omega),if_neg (by omega),if_neg (by omega),if_pos h]
theorem mM {k n:Int}{ks:List Tm}(h:rdx k ks=6):eA (.mk k n ks)=aI (aI ks 0).ks 2:=by rw [eA,if_neg (by omega),if_neg (by omega),if_neg (by omega),if_neg (by omega),if_neg (by omega)]
theorem aJw {b c:Int}(hb:0≤b)(hc:0≤c){k n:Int}{ks:List Tm}(h:rdx k ks≠0):bT b c (eA (.mk k n ks))=eA (bT b c (.mk k n ks)):=by
 have hr:=aAu b c k ks;rw [bT];rcases eX h with ⟨h1,rfl,h2⟩|⟨h1,rfl,h2⟩|⟨h1,rfl,h2⟩|⟨h1,rfl,h2⟩|⟨h1,rfl,h2⟩|⟨h1,rfl,h2⟩
 ·rw [nU h1,nU (hr.trans h1),jE rfl,jE rfl,aFr,show (aI ks 0).k=4 from h2,show aM 4 ((1:Nat):Int)=1 from rfl];have:=(aDj (aI ks 1) b c hb hc).1 (aI (aI ks 0).ks 1) 0 (by omega);rw [Int.add_zero,Int.add_zero] at this;exact this
 ·rw [nM h1,nM (hr.trans h1),jE rfl]
 ·rw [mT h1,mT (hr.trans h1),jE rfl,jE rfl,jE rfl,jE rfl,aFr,show (aI ks 3).k=8 from h2,show aM 8 ((0:Nat):Int)=0 from rfl,Int.add_zero];simp only [bT,bN,show aM 5 (((0:Nat):Int))=0 from rfl,show aM 5 (((0+1:Nat):Int))=0 from rfl,show aM 9 (((0:Nat):Int))=0 from rfl,show aM 9 (((0+1:Nat):Int))=0 from rfl,show aM 9 (((0+1+1:Nat):Int))=0 from rfl,show aM 9 (((0+1+1+1:Nat):Int))=0 from rfl,Int.add_zero]
  rfl
 ·rw [nF h1,nF (hr.trans h1),jE rfl]
 ·rw [nW h1,nW (hr.trans h1),jE rfl,aFr,show (aI ks 0).k=14 from h2,show aM 14 ((1:Nat):Int)=0 from rfl,Int.add_zero]
 ·rw [mM h1,mM (hr.trans h1),jE rfl,aFr,show (aI ks 0).k=14 from h2,show aM 14 ((2:Nat):Int)=0 from rfl,Int.add_zero]
theorem vT {u:Tm}{x d k:Int}{ks:List Tm}{j:Nat}(hk:fZ ks j≠1):fZ (cE u k x d 0 ks) j=fZ ks j:=by
 rw [kZ,nP];exact aTo hk
theorem aEp {u:Tm}{x d k:Int}{ks:List Tm}(h:rdx k ks≠0):rdx k (cE u k x d 0 ks)=rdx k ks:=by
 rcases eX h with ⟨h1,rfl,h2⟩|⟨h1,rfl,h2⟩|⟨h1,rfl,h2⟩|⟨h1,rfl,h2⟩|⟨h1,rfl,h2⟩|⟨h1,rfl,h2⟩
 all_goals
  have h4:=(vT (u:=u) (x:=x) (d:=d) (k:=5) (ks:=ks) (by rw [h2];decide)).trans h2;have h5:=(vT (u:=u) (x:=x) (d:=d) (k:=9) (ks:=ks) (by rw [h2];decide)).trans h2;have h6:=(vT (u:=u) (x:=x) (d:=d) (k:=12) (ks:=ks) (by rw [h2];decide)).trans h2;have h7:=(vT (u:=u) (x:=x) (d:=d) (k:=15) (ks:=ks) (by rw [h2];decide)).trans h2;have h8:=(vT (u:=u) (x:=x) (d:=d) (k:=16) (ks:=ks) (by rw [h2];decide)).trans h2;unfold rdx
  simp [h4,h5,h6,h7,h8,h2]
theorem aLb {u:Tm}{x d:Int}(hd:0≤d)(hx:d≤x){k n:Int}{ks:List Tm}(h:rdx k ks≠0):bX u x d (eA (.mk k n ks))=eA (bX u x d (.mk k n ks)):=by
 have hr:=aEp (u:=u) (x:=x) (d:=d) h;have hk1:k≠1:=by rintro rfl;exact h rfl
 rw [bX,if_neg (fun e=>hk1 e.1),if_neg (fun e=>hk1 e.1)];rcases eX h with ⟨h1,rfl,h2⟩|⟨h1,rfl,h2⟩|⟨h1,rfl,h2⟩|⟨h1,rfl,h2⟩|⟨h1,rfl,h2⟩|⟨h1,rfl,h2⟩
 ·have h4:(aI ks 0).k=4:=h2;rw [nU h1,nU (hr.trans h1),jS rfl,jS rfl,aGg (by rw [h4];decide),h4,show aM 4 ((1:Nat):Int)=1 from rfl];have:=(aPt (aI ks 1) u x d hd hx).1 (aI (aI ks 0).ks 1) 0 (by omega);rw [Int.add_zero,Int.add_zero,Int.add_zero,Int.add_zero] at this;exact this
 ·rw [nM h1,nM (hr.trans h1),jS rfl]
 ·have h4:(aI ks 3).k=8:=h2;rw [mT h1,mT (hr.trans h1),jS rfl,jS rfl,jS rfl,jS rfl,aGg (by rw [h4];decide),h4,show aM 8 ((0:Nat):Int)=0 from rfl,Int.add_zero,Int.add_zero];simp only [bX,cE,show aM 5 (((0:Nat):Int))=0 from rfl,show aM 5 (((0+1:Nat):Int))=0 from rfl,show aM 9 (((0:Nat):Int))=0 from rfl,show aM 9 (((0+1:Nat):Int))=0 from rfl,show aM 9 (((0+1+1:Nat):Int))=0 from rfl,show aM 9 (((0+1+1+1:Nat):Int))=0 from rfl,Int.add_zero]
  simp
 ·rw [nF h1,nF (hr.trans h1),jS rfl]
 ·have h4:(aI ks 0).k=14:=h2;rw [nW h1,nW (hr.trans h1),jS rfl,aGg (by rw [h4];decide),h4,show aM 14 ((1:Nat):Int)=0 from rfl,Int.add_zero,Int.add_zero]
 ·have h4:(aI ks 0).k=14:=h2;rw [mM h1,mM (hr.trans h1),jS rfl,aGg (by rw [h4];decide),h4,show aM 14 ((2:Nat):Int)=0 from rfl,Int.add_zero,Int.add_zero]
end Go.Proofs.YtjlaenhcemacdaaGreat
