/- Parts of the proof. No condition. -/
import Derived.Test.YtjlaenhcemacdaaGreatK13
open Go.Proofs.Tryz
namespace Go.Proofs.YtjlaenhcemacdaaGreat
open Go.RowKit
set_option maxHeartbeats 8000000
set_option maxRecDepth 100000
set_option linter.unusedSimpArgs false
set_option linter.unusedVariables false
inductive NT where
 | var (i:Nat)
 | zero
 | suc (a:NT)
 | app (b a:NT)
 | elim (z s n:NT)
 | part (q:Bool) (a b:NT)
 | mov (x z:NT)
namespace NT
def shift (m:Nat):Nat->NT->NT
 | c,.var i=>if c<=i then .var (i+m) else .var i
 | _,.zero=>.zero
 | c,.suc a=>.suc (a.shift m c)
 | c,.app b a=>.app (b.shift m (c+1)) (a.shift m c)
 | c,.elim z s n=>.elim (z.shift m c) (s.shift m (c+2)) (n.shift m c)
 | c,.part q a b=>.part q (a.shift m c) (b.shift m c)
 | c,.mov x z=>.mov (x.shift m c) (z.shift m c)
def sub (a:NT):Nat->NT->NT
 | k,.var i=>if i=k then a.shift k 0 else if k<i then .var (i - 1) else .var i
 | _,.zero=>.zero
 | k,.suc b=>.suc (sub a k b)
 | k,.app b c=>.app (sub a (k+1) b) (sub a k c)
 | k,.elim z s n=>.elim (sub a k z) (sub a (k+2) s) (sub a k n)
 | k,.part q x y=>.part q (sub a k x) (sub a k y)
 | k,.mov x z=>.mov (sub a k x) (sub a k z)
end NT
def Le {α:Type}(o1 o2:Option α):Prop:=∀r,o1=some r->o2=some r
theorem Le.refl {α:Type}(o:Option α):Le o o:=λ_ h=>h
theorem cB {α β:Type}{o1 o2:Option (Rs α)}{f1 f2:α->Option (Rs β)}(h:Le o1 o2)(hf:∀a,Le (f1 a) (f2 a)):Le (bd o1 f1) (bd o2 f2):=by
 intro r hr;rcases aM hr with ⟨b,h1,rfl⟩|⟨a,h1,h2⟩
 ·rw [h _ h1];rfl
 ·rw [h _ h1,pR];exact hf a r h2
section
variable {r1 r2:aUj}(hr:∀c t,Le (r1 c t) (r2 c t))(ctx:List Tm)
include hr
theorem qD (t:Tm):Le (iT r1 ctx t) (iT r2 ctx t):=cB (hr _ _) λ_=>Le.refl _
theorem wG (t:Tm)(k:Int):Le (yU r1 ctx t k) (yU r2 ctx t k):=cB (hr _ _) λ_=>Le.refl _
theorem kB (t u:Tm):Le (gP r1 ctx t u) (gP r2 ctx t u):=cB (hr _ _) λ_=>Le.refl _
theorem aIz (a b:Tm):Le (yR r1 ctx a b) (yR r2 ctx a b):=cB (qD hr _ _) λ_=>cB (qD hr _ _) λ_=>Le.refl _
theorem aIx (p f:Tm):Le (aFt r1 ctx p f) (aFt r2 ctx p f):=cB (wG hr _ _ _) λ_=>Le.refl _
theorem aQy (t:Tm):Le (dU r1 ctx t) (dU r2 ctx t):=by
 obtain ⟨k,n,ks⟩:=t;rw [dU,dU];by_cases h3:k=3\/k=13
 ·rw [Av h3,Av h3];exact aIz hr _ _ _
 rw [Aw h3,Aw h3];by_cases h4:k=4
 ·rw [Av h4,Av h4];exact cB (qD hr _ _) λ_=>cB (hr _ _) λ_=>cB (aIz hr _ _ _) λ_=>Le.refl _
 rw [Aw h4,Aw h4];by_cases h5:k=5
 ·rw [Av h5,Av h5];exact cB (wG hr _ _ _) λ_=>cB (kB hr _ _ _) λ_=>Le.refl _
 rw [Aw h5,Aw h5];by_cases h9:k=9
 ·rw [Av h9,Av h9];exact cB (aIx hr _ _ _) λ_=>cB (kB hr _ _ _) λ_=>cB (kB hr _ _ _) λ_=>cB (kB hr _ _ _) λ_=>Le.refl _
 rw [Aw h9,Aw h9];by_cases h10:k=10
 ·rw [Av h10,Av h10];exact cB (qD hr _ _) λ_=>cB (kB hr _ _ _) λ_=>cB (kB hr _ _ _) λ_=>Le.refl _
 rw [Aw h10,Aw h10];by_cases h12:k=12
 ·rw [Av h12,Av h12];exact cB (wG hr _ _ _) λ_=>cB (aIx hr _ _ _) λ_=>cB (kB hr _ _ _) λ_=>Le.refl _
 rw [Aw h12,Aw h12];by_cases h14:k=14
 ·rw [Av h14,Av h14];exact cB (qD hr _ _) λ_=>cB (Le.refl _) λ_=>cB (Le.refl _) λ_=>cB (kB hr _ _ _) λ_=>cB (kB hr _ _ _) λ_=>Le.refl _
 rw [Aw h14,Aw h14];by_cases h1:k=1
 ·rw [Av h1,Av h1];exact Le.refl _
 rw [Aw h1,Aw h1];by_cases h2:k=2
 ·rw [Av h2,Av h2];exact Le.refl _
 rw [Aw h2,Aw h2];by_cases h6:k=6
 ·rw [Av h6,Av h6];exact Le.refl _
 rw [Aw h6,Aw h6];by_cases h7:k=7
 ·rw [Av h7,Av h7];exact Le.refl _
 rw [Aw h7,Aw h7];by_cases h8:k=8
 ·rw [Av h8,Av h8];exact cB (kB hr _ _ _) λ_=>Le.refl _
 rw [Aw h8,Aw h8];by_cases h11:k=11
 ·rw [Av h11,Av h11];exact cB (hr _ _) λ_=>cB (qD hr _ _) λ_=>Le.refl _
 rw [Aw h11,Aw h11];exact cB (wG hr _ _ _) λ_=>Le.refl _
end
theorem aJj:∀(N:Nat) (ctx:List Tm) (t:Tm),Le (bE N ctx t) (bE (N+1) ctx t)
 | 0,_,_=>λ_ h=>by cases h
 | N+1,ctx,t=>by
  intro r h;rw [bE] at h⊢;split at h
  ·rename_i hv;rw [Av hv];exact cB (aQy (aJj N) ctx t) (λ_=>Le.refl _) r h
  ·rename_i hv;rw [Aw hv];exact h
theorem iQ {N M:Nat}(h:N<=M)(ctx:List Tm)(t:Tm):Le (bE N ctx t) (bE M ctx t):=by
 induction M with
 | zero=>rw [show N=0 by omega];exact Le.refl _
 | succ M ih=>
  by_cases hN:N=M+1
  ·rw [hN];exact Le.refl _
  ·exact λr hr=>aJj M ctx t r (ih Ac r hr)
def Ends (ctx:List Tm)(t:Tm):Prop:=∃N r,bE N ctx t=some r
def Df {α:Type}(o:Option α):Prop:=∃r,o=some r
theorem cJ {α:Type}(r:α):Df (some r):=⟨r,rfl⟩
theorem dX {α β:Type}{o:Option (Rs α)}{f:α->Option (Rs β)}(h:Df o)(hf:∀a,o=some (.ok a)->Df (f a)):Df (bd o f):=by
 obtain ⟨r,rfl⟩:=h;cases r with
 | no b=>exact ⟨_,rfl⟩
 | ok a=>exact hf a rfl
theorem tH {α:Type}{p:Prop}[Decidable p]{a b:Option α}(ha:Df a)(hb:Df b):Df (if p then a else b):=by
 split
 ·exact ha
 ·exact hb
section
variable {rc:aUj}{ctx:List Tm}
theorem qC {t:Tm}(h:Df (rc ctx t)):Df (iT rc ctx t):=dX h λ_ _=>dX (cJ _) λ_ _=>tH (cJ _) (cJ _)
theorem wF {t:Tm}{k:Int}(h:Df (rc ctx t)):Df (yU rc ctx t k):=dX h λ_ _=>dX (cJ _) λ_ _=>tH (cJ _) (cJ _)
theorem jX {t u:Tm}(h:Df (rc ctx t)):Df (gP rc ctx t u):=dX h λ_ _=>cJ _
theorem aIr {a b:Tm}(ha:Df (rc ctx a))(hb:Df (rc (ctx++[a]) b)):Df (yR rc ctx a b):=dX (qC ha) λ_ _=>dX (qC hb) λ_ _=>cJ _
theorem aIy {p f:Tm}(h:Df (rc ctx p)):Df (aFt rc ctx p f):=dX (wF h) λ_ _=>dX (cJ _) λ_ _=>dX (cJ _) λ_ _=>tH (cJ _) (cJ _)
def cxo (ctx:List Tm)(k:Int)(ks:List Tm)(i:Nat):List Tm:=if i=1/\binds k=true then ctx++[aI ks 0] else ctx
theorem aRz {k n:Int}{ks:List Tm}(hk:∀i,i<4->Df (rc (cxo ctx k ks i) (aI ks i)))(h4:k=4->∀u,rc (ctx++[aI ks 0]) (aI ks 1)=some (.ok u)->Df (rc (ctx++[aI ks 0]) u))(h11:k=11->∀u,rc ctx (aI ks 0)=some (.ok u)->Df (rc ctx u)):Df (dU rc ctx (.mk k n ks)):=by
 have k0:Df (rc ctx (aI ks 0)):=by have:=hk 0 Ac;rwa [cxo,Aw Ac] at this
 have k2:Df (rc ctx (aI ks 2)):=by have:=hk 2 Ac;rwa [cxo,Aw Ac] at this
 have k3:Df (rc ctx (aI ks 3)):=by have:=hk 3 Ac;rwa [cxo,Aw Ac] at this
 have kb:binds k=true->Df (rc (ctx++[aI ks 0]) (aI ks 1)):=λh=>by have:=hk 1 Ac;rwa [cxo,Av ⟨rfl,h⟩] at this
 have k1:¬binds k=true->Df (rc ctx (aI ks 1)):=λh=>by have:=hk 1 Ac;rwa [cxo,Aw (λh'=>h h'.2)] at this
 rw [dU];by_cases e3:k=3\/k=13
 ·rw [Av e3];exact aIr k0 (kb (by rcases e3 with rfl|rfl<;>rfl))
 rw [Aw e3];by_cases e4:k=4
 ·rw [Av e4];have hb:=kb (by rw [e4];rfl);exact dX (qC k0) λ_ _=>dX hb λu hu=>dX (aIr k0 (h4 e4 u hu)) λ_ _=>cJ _
 rw [Aw e4];have k1':=k1 (by unfold binds;simp only [Bool.or_eq_true,beq_iff_eq];omega);by_cases e5:k=5
 ·rw [Av e5];exact dX (wF k0) λ_ _=>dX (jX k1') λ_ _=>cJ _
 rw [Aw e5];by_cases e9:k=9
 ·rw [Av e9];exact dX (aIy k0) λ_ _=>dX (jX k1') λ_ _=>dX (jX k2) λ_ _=>dX (jX k3) λ_ _=>cJ _
 rw [Aw e9];by_cases e10:k=10
 ·rw [Av e10];exact dX (qC k0) λ_ _=>dX (jX k1') λ_ _=>dX (jX k2) λ_ _=>cJ _
 rw [Aw e10];by_cases e12:k=12
 ·rw [Av e12];exact dX (wF k1') λ_ _=>dX (aIy k0) λ_ _=>dX (jX k2) λ_ _=>cJ _
 rw [Aw e12];by_cases e14:k=14
 ·rw [Av e14];exact dX (qC k0) λ_ _=>dX (cJ _) λ_ _=>dX (tH (cJ _) (cJ _)) λ_ _=>dX (jX k1') λ_ _=>dX (jX k2) λ_ _=>cJ _
 rw [Aw e14];by_cases e1:k=1
 ·rw [Av e1];exact tH (cJ _) (cJ _)
 rw [Aw e1];by_cases e2:k=2
 ·rw [Av e2];exact tH (cJ _) (cJ _)
 rw [Aw e2];by_cases e6:k=6
 ·rw [Av e6];exact cJ _
 rw [Aw e6];by_cases e7:k=7
 ·rw [Av e7];exact cJ _
 rw [Aw e7];by_cases e8:k=8
 ·rw [Av e8];exact dX (jX k0) λ_ _=>cJ _
 rw [Aw e8];by_cases e11:k=11
 ·rw [Av e11];exact dX k0 λu hu=>dX (qC (h11 e11 u hu)) λ_ _=>cJ _
 rw [Aw e11];exact dX (wF k0) λ_ _=>tH (cJ _) (cJ _)
end
theorem Ends.at_ {ctx:List Tm}{t:Tm}(h:Ends ctx t):∃N,∀M,N<=M->Df (bE M ctx t):=by
 obtain ⟨N,r,h⟩:=h;exact ⟨N,λM hM=>⟨r,iQ hM _ _ _ h⟩⟩
theorem aFv {N M:Nat}{ctx:List Tm}{t:Tm}{r s:Rs Tm}(h1:bE N ctx t=some r)(h2:bE M ctx t=some s):r=s:=by
 have e1:=iQ (Nat.le_max_left N M) ctx t _ h1;have e2:=iQ (Nat.le_max_right N M) ctx t _ h2;rw [e1] at e2;injection e2
theorem iR {ctx:List Tm}{k n:Int}{ks:List Tm}(hk:∀i,i<4->Ends (cxo ctx k ks i) (aI ks i))(h4:k=4->∀N u,bE N (ctx++[aI ks 0]) (aI ks 1)=some (.ok u)->Ends (ctx++[aI ks 0]) u)(h11:k=11->∀N u,bE N ctx (aI ks 0)=some (.ok u)->Ends ctx u):Ends ctx (.mk k n ks):=by
 obtain ⟨N0,g0⟩:=(hk 0 Ac).at_;obtain ⟨N1,g1⟩:=(hk 1 Ac).at_;obtain ⟨N2,g2⟩:=(hk 2 Ac).at_;obtain ⟨N3,g3⟩:=(hk 3 Ac).at_;have e4:∃N,k=4->∀M u,bE M (ctx++[aI ks 0]) (aI ks 1)=some (.ok u)->∀L,N<=L->Df (bE L (ctx++[aI ks 0]) u):=by
  by_cases h:∃M u,bE M (ctx++[aI ks 0]) (aI ks 1)=some (.ok u)
  ·obtain ⟨M,u,hu⟩:=h;by_cases hk4:k=4
   ·obtain ⟨N,hN⟩:=(h4 hk4 M u hu).at_;refine ⟨N,λ_ M' u' hu'=>?_⟩;have:=aFv hu hu';injection this with this;subst this;exact hN
   ·exact ⟨0,λh=>absurd h hk4⟩
  ·exact ⟨0,λ_ M u hu=>absurd ⟨M,u,hu⟩ h⟩
 have e11:∃N,k=11->∀M u,bE M ctx (aI ks 0)=some (.ok u)->∀L,N<=L->Df (bE L ctx u):=by
  by_cases h:∃M u,bE M ctx (aI ks 0)=some (.ok u)
  ·obtain ⟨M,u,hu⟩:=h;by_cases hk4:k=11
   ·obtain ⟨N,hN⟩:=(h11 hk4 M u hu).at_;refine ⟨N,λ_ M' u' hu'=>?_⟩;have:=aFv hu hu';injection this with this;subst this;exact hN
   ·exact ⟨0,λh=>absurd h hk4⟩
  ·exact ⟨0,λ_ M u hu=>absurd ⟨M,u,hu⟩ h⟩
 obtain ⟨N4,g4⟩:=e4;obtain ⟨N5,g5⟩:=e11;obtain ⟨M,hM⟩:∃M,M=N0+N1+N2+N3+N4+N5:=⟨_,rfl⟩;have hd:Df (dU (bE M) ctx (.mk k n ks)):=by
  refine aRz (λi hi=>?_) (λe u hu=>g4 e M u hu M Ac) (λe u hu=>g5 e M u hu M Ac);rcases (show i=0\/i=1\/i=2\/i=3 by omega) with rfl|rfl|rfl|rfl
  ·exact g0 M Ac
  ·exact g1 M Ac
  ·exact g2 M Ac
  ·exact g3 M Ac
 have:Df (bE (M+1) ctx (.mk k n ks)):=by
  rw [bE];exact tH (dX hd λ_ _=>tH (cJ _) (cJ _)) (cJ _)
 obtain ⟨r,hr⟩:=this;exact ⟨M+1,r,hr⟩
theorem aPk {t:Tm}{f:Nat}(h:cH t=none):wD f t=(some t,0):=by rw [wD,h]
theorem aNp {t u:Tm}(h:cH t=some u):wD 0 t=(none,1):=by rw [wD,h]
theorem aKz {t u:Tm}{f:Nat}(h:cH t=some u)(hv:aE u=false):wD (f+1) t=(none,2):=by rw [wD,h];simp [hv]
theorem aOt {t u:Tm}{f:Nat}(h:cH t=some u)(hv:aE u=true):wD (f+1) t=wD f u:=by rw [wD,h];simp [hv]
theorem zH (k n:Int)(ks:List Tm)(A:Ba)(c:Nat)(F:Nat)(hF:F<=1000)(w:Bb)(hv:aE (.mk k n ks)=true)(hl:ks.length<=9223372036854775807)(hr:Rd w A 0 ks) :
  Calls prog 76 #[.agg (Ro k n A ks.length c),.int .i64 F] w (aTq (wD F (.mk k n ks)) w):=by
 obtain ⟨R,hR⟩:∃R,wD F (.mk k n ks)=R:=⟨_,rfl⟩;rw [hR];replace hR:=aD hR;go_enter func76,ntmps76;go_wp2_with fail;go_loopw [1] (λfv wr=>∃(f:Nat) (k n:Int) (ks:List Tm) (A:Ba) (c:Nat),f<=F/\Hid (wD f (.mk k n ks)=R)/\fv = .int .i64 f/\aE (.mk k n ks)=true/\ks.length<=9223372036854775807/\Blk wr w.heap.size (Ro k n A ks.length c)/\Blk wr (w.heap.size+1) Zr/\RdP (λb=>b<w.heap.size\/w.heap.size+2<=b) wr A 0 ks/\Bw w wr)
  (λfv _ => (intOf fv).toNat)
 case atStart=>exact ⟨F,k,n,ks,A,c,mC _,hR,rfl,hv,hl,(aC _ _ _ rfl).alloc _,aC _ _ _ Ag,((hr.rdp.alloc _).alloc _).mono (λb hb=>.inl hb),bw2⟩
 case round=>
  clear hv hl hr hR;obtain ⟨f,k,n,ks,A,c,hf,hRf,rfl,hv,hl,hB,hZ,hrd,hb⟩:=hrel;have hsh:=aD (aY hv);have hM:=aH hv;have hv':=aD hv;clear hv;obtain ⟨x0,x1,x2⟩:=hB.three;have lz0:=hZ.lt;have sb:=hb.size;cases hho:cH (.mk k n ks) with
  | none=>
   obtain rfl:R=(some (.mk k n ks),0):=by rw [<- hRf.out,aPk hho]
   have hst:=aD hho;clear hho;go_wp2_with (first
    | (go_at_call 35;have _t:=tok;refine (dF _ k n ks A c _ (mV _) Ac hrd1.rd).mono ?_;rintro e w2 ⟨A3,c3,rfl,hl3,hf3,hb3⟩;replace hZ:=hZ.keep hb3;clear d0 d1 d2 e0 e1 e2;obtain ⟨d0,d1,d2,e0,e1,e2⟩:=bZ hZ;have g2:=g1.trans (hb3.mono g1.size))
    | (go_at_call 103;refine (jZ 30 k n ks A c _ (mC _) hM hsh.out hrd.rd).mono ?_;rintro e w1 ⟨k3,n3,ks3,A9,c9,bb,hv3,hw3,rfl,hl9,hs3,hr3,hb9⟩;obtain rfl:bb=false:=(by rw [hw3,hst.out];rfl);clear hv3 hw3;replace hB:=(hB.keep hb9).alloc (.cells (Ro k3 n3 A9 ks3.length c9) 32);replace hZ:=(hZ.keep hb9).alloc (.cells (Ro k3 n3 A9 ks3.length c9) 32);have g1:=(hb.trans (hb9.mono hb.size)).alloc (by have:=hb9.size;omega) (.cells (Ro k3 n3 A9 ks3.length c9) 32);have hrd1:=(hrd.below hb9).alloc (.cells (Ro k3 n3 A9 ks3.length c9) 32);clear x0 x1 x2;obtain ⟨x0,x1,x2⟩:=hB.three;obtain ⟨d0,d1,d2,e0,e1,e2⟩:=bZ hZ;have s1:=g1.size;have s9:w.heap.size+2<=w1.heap.size:=(by have:=hb9.size;omega);have tok:=trivial))
   refine bodyPost_ret (v:=.tuple #[.agg (Ro k n A3 ks.length c3),.int .i64 0]) (by simp [results,results76,go_sem,d0,d1,d2]) rfl ⟨k,n,ks,A3,c3,rfl,rfl,hl,?_,?_⟩
   ·exact (Fresh.rdp (vF hf3)).mono (λb hb=>by have:=hb.1;simp at this;omega)
   ·exact bV g2
  | some u=>
   obtain ⟨ku,nu,us⟩:=u;have hst:=aD hho;clear hho;have STEP:True:=trivial;cases f with
   | zero=>
    obtain rfl:R=(none,1):=by rw [<- hRf.out,aNp hst.out]
    go_wp2_with (go_at_call 103;refine (jZ 30 k n ks A c _ (mC _) hM hsh.out hrd.rd).mono ?_;rintro e w1 ⟨k3,n3,ks3,A3,c3,bb,hv3,hw3,rfl,hl3,hs3,hr3,hb3⟩;obtain rfl:bb=true:=(by rw [hw3,hst.out];rfl);obtain ⟨rfl,rfl,rfl⟩:k3=ku/\n3=nu/\ks3=us:=(by have h:=hv3;rw [hst.out] at h;injection h with q1 q2 q3;exact ⟨q1,q2,q3⟩);clear hv3 hw3;replace hB:=(hB.keep hb3).alloc (.cells (Ro k3 n3 A3 ks3.length c3) 32);replace hZ:=(hZ.keep hb3).alloc (.cells (Ro k3 n3 A3 ks3.length c3) 32);have s0:=hb3.size;have g1:=(hb.trans (hb3.mono hb.size)).alloc Ac (.cells (Ro k3 n3 A3 ks3.length c3) 32);have hr4:=(hr3.alloc (.cells (Ro k3 n3 A3 ks3.length c3) 32)).mono (q:=λb=>w.heap.size+2<=b) (λb hb=>by simp at hb;omega);have hK:=aC w1 32 (Ro k3 n3 A3 ks3.length c3) rfl;clear x0 x1 x2;obtain ⟨x0,x1,x2⟩:=hB.three;obtain ⟨y0,y1,y2⟩:=hK.three;obtain ⟨d0,d1,d2,e0,e1,e2⟩:=bZ hZ;have s1:=g1.size;have tok:=trivial);refine bodyPost_ret (v:=.tuple #[.agg Zr,.int .i64 1]) (by simp [results,results76,go_sem,d0,d1,d2]) rfl ⟨0,0,[],none,0,rfl,rfl,by simp,RdP.nil,?_⟩;exact bV g1
   | succ f=>
    have qf:decide (((f+1:Nat):Int)<1)=false:=decide_eq_false Ac;have qg:decide ((f:Int)+1<1)=false:=decide_eq_false Ac;cases hvu:aE (.mk ku nu us) with
    | false=>
     obtain rfl:R=(none,2):=by rw [<- hRf.out,aKz hst.out hvu]
     have hvv:=aD hvu;clear hvu;go_wp2_with (first
      | (go_at_call 41;have _t:=tok;refine (aR k3 n3 ks3 A3 c3 _ Ac hr4.rd).mono ?_;rw [hvv.out];rintro e w2 ⟨rfl,hb4⟩;replace hB:=hB.keep hb4;replace hZ:=hZ.keep hb4;replace hK:=hK.keep hb4;have g2:=g1.trans (hb4.mono g1.size);have hr5:=hr4.below hb4;clear x0 x1 x2 y0 y1 y2 d0 d1 d2 e0 e1 e2;obtain ⟨x0,x1,x2⟩:=hB.three;obtain ⟨y0,y1,y2⟩:=hK.three;obtain ⟨d0,d1,d2,e0,e1,e2⟩:=bZ hZ;obtain ⟨z0,z1,z2⟩:=bkf hB;have s2:=g2.size)
      | (go_at_call 103;refine (jZ 30 k n ks A c _ (mC _) hM hsh.out hrd.rd).mono ?_;rintro e w1 ⟨k3,n3,ks3,A3,c3,bb,hv3,hw3,rfl,hl3,hs3,hr3,hb3⟩;obtain rfl:bb=true:=(by rw [hw3,hst.out];rfl);obtain ⟨rfl,rfl,rfl⟩:k3=ku/\n3=nu/\ks3=us:=(by have h:=hv3;rw [hst.out] at h;injection h with q1 q2 q3;exact ⟨q1,q2,q3⟩);clear hv3 hw3;replace hB:=(hB.keep hb3).alloc (.cells (Ro k3 n3 A3 ks3.length c3) 32);replace hZ:=(hZ.keep hb3).alloc (.cells (Ro k3 n3 A3 ks3.length c3) 32);have s0:=hb3.size;have g1:=(hb.trans (hb3.mono hb.size)).alloc Ac (.cells (Ro k3 n3 A3 ks3.length c3) 32);have hr4:=(hr3.alloc (.cells (Ro k3 n3 A3 ks3.length c3) 32)).mono (q:=λb=>w.heap.size+2<=b) (λb hb=>by simp at hb;omega);have hK:=aC w1 32 (Ro k3 n3 A3 ks3.length c3) rfl;clear x0 x1 x2;obtain ⟨x0,x1,x2⟩:=hB.three;obtain ⟨y0,y1,y2⟩:=hK.three;obtain ⟨d0,d1,d2,e0,e1,e2⟩:=bZ hZ;have s1:=g1.size;have tok:=trivial))
     refine bodyPost_ret (v:=.tuple #[.agg Zr,.int .i64 2]) (by simp [results,results76,go_sem,d0,d1,d2]) rfl ⟨0,0,[],none,0,rfl,rfl,by simp,RdP.nil,?_⟩;exact bV g2
    | true=>
     have hRg:=aD (show wD f (.mk ku nu us)=R by rw [<- hRf.out,aOt hst.out hvu]);have hvv:=aD hvu;clear hvu;go_wp2_with (first
      | (go_at_call 41;have _t:=tok;refine (aR k3 n3 ks3 A3 c3 _ Ac hr4.rd).mono ?_;rw [hvv.out];rintro e w2 ⟨rfl,hb4⟩;replace hB:=hB.keep hb4;replace hZ:=hZ.keep hb4;replace hK:=hK.keep hb4;have g2:=g1.trans (hb4.mono g1.size);have hr5:=hr4.below hb4;clear x0 x1 x2 y0 y1 y2 d0 d1 d2 e0 e1 e2;obtain ⟨x0,x1,x2⟩:=hB.three;obtain ⟨y0,y1,y2⟩:=hK.three;obtain ⟨d0,d1,d2,e0,e1,e2⟩:=bZ hZ;obtain ⟨z0,z1,z2⟩:=bkf hB;have s2:=g2.size)
      | (go_at_call 103;refine (jZ 30 k n ks A c _ (mC _) hM hsh.out hrd.rd).mono ?_;rintro e w1 ⟨k3,n3,ks3,A3,c3,bb,hv3,hw3,rfl,hl3,hs3,hr3,hb3⟩;obtain rfl:bb=true:=(by rw [hw3,hst.out];rfl);obtain ⟨rfl,rfl,rfl⟩:k3=ku/\n3=nu/\ks3=us:=(by have h:=hv3;rw [hst.out] at h;injection h with q1 q2 q3;exact ⟨q1,q2,q3⟩);clear hv3 hw3;replace hB:=(hB.keep hb3).alloc (.cells (Ro k3 n3 A3 ks3.length c3) 32);replace hZ:=(hZ.keep hb3).alloc (.cells (Ro k3 n3 A3 ks3.length c3) 32);have s0:=hb3.size;have g1:=(hb.trans (hb3.mono hb.size)).alloc Ac (.cells (Ro k3 n3 A3 ks3.length c3) 32);have hr4:=(hr3.alloc (.cells (Ro k3 n3 A3 ks3.length c3) 32)).mono (q:=λb=>w.heap.size+2<=b) (λb hb=>by simp at hb;omega);have hK:=aC w1 32 (Ro k3 n3 A3 ks3.length c3) rfl;clear x0 x1 x2;obtain ⟨x0,x1,x2⟩:=hB.three;obtain ⟨y0,y1,y2⟩:=hK.three;obtain ⟨d0,d1,d2,e0,e1,e2⟩:=bZ hZ;have s1:=g1.size;have tok:=trivial))
     refine ⟨⟨f,k3,n3,ks3,A3,c3,by omega,hRg,by go_num,hvv.out,hl3,((hB.set_ 0 _).set_ 1 _).set_ 2 _,((hZ.far Ag _).far Ag _).far Ag _,(((hr5.setCell Ag _).setCell Ag _).setCell Ag _).mono (λb hb=>.inr hb),(bV g2)⟩,by first|(simp [intOf];done)|(simp [intOf];omega)⟩
theorem aOm {w:Bb}{z:Nat}(hZ:Blk w z Zr):(∀t d b off i,shape d t=true->RdC w b off i t->RdPC (·≠z) w b off i t)/\(∀(ks:List Tm) d A i,(∀t,t∈ks->shape d t=true)->Rd w A i ks->RdP (·≠z) w A i ks):=by
 refine bA (λk n ks ih d b off i hs hr=>?_) (λd A i _ _=>RdP.nil) (λt ts h1 h2 d A i hs hr=>?_)
 ·obtain ⟨d,rfl⟩:∃d',d=d'+1:=by cases d with|zero=>simp [shape] at hs|succ d=>exact ⟨d,rfl⟩
  obtain ⟨ha,_,_,hk⟩:=(bH d k n ks).1 hs;obtain ⟨c1,c2,A,c,c3,hl,hr'⟩:=RdC.iff.1 hr;refine RdPC.iff.2 ⟨λe=>?_,c1,c2,A,c,c3,hl,ih d A 0 hk hr'⟩;subst e;have h0:k≠0:=by rintro rfl;have:aX 0 = -1:=rfl;omega
  rw [hZ.cell] at c1;generalize off+i*3=j at c1;rcases j with _|_|_|j
  ·simp at c1;exact h0 c1.symm
  ·simp at c1;exact h0 c1.symm
  ·simp at c1
  ·simp at c1
 ·obtain ⟨⟨b,off,e,hc⟩,hr'⟩:=Rd.cons_iff.1 hr;exact RdP.cons_iff.2 ⟨⟨b,off,e,h1 d b off i (hs t Ag) hc⟩,h2 d A (i+1) (λu hu=>hs u (by simp [hu])) hr'⟩
theorem iX {w:Bb}{z:Nat}{k n:Int}{ks:List Tm}{A:Ba}(hZ:Blk w z Zr)(hv:aE (.mk k n ks)=true)(hr:Rd w A 0 ks)(x y v:Value) :
  Rd (((w.setCell ⟨z,0,none⟩ x).setCell ⟨z,1,none⟩ y).setCell ⟨z,2,none⟩ v) A 0 ks:=by
 have hs:=((bH 29 k n ks).1 (aY hv)).2.2.2;exact (((((aOm hZ).2 ks 29 A 0 hs hr).setCell (a:=⟨z,0,none⟩) (λh=>h rfl) x).setCell (a:=⟨z,1,none⟩) (λh=>h rfl) y).setCell (a:=⟨z,2,none⟩) (λh=>h rfl) v).rd
def aOh (w:Bb)(k n:Int)(ks:List Tm)(e:Ending)(w':Bb):Prop:=
 ∃A c,e = .returned (.tuple #[.agg (Ro k n A ks.length c),.int .i64 0])/\ks.length<=9223372036854775807/\Rd w' A 0 ks/\Bw w w'
def aWn (w:Bb)(b:Bool)(e:Ending)(w':Bb):Prop:=
 ∃(k n:Int) (A:Ba) (l c:Nat),e = .returned (.tuple #[.agg (Ro k n A l c),.int .i64 (dB b)])/\Bw w w'
def pP (w:Bb):Rs Tm->Ending->Bb->Prop
 | .ok (.mk k n ks)=>aOh w k n ks
 | .no b=>aWn w b
theorem aQl {s o:Tm}(h:jB s = .ok o):wD 200 s=(some o,0):=by
 have:=cR h;rw [tN 200 s this.1,this.2.2]
theorem aEu:∀(f:Nat) (t:Tm),(wD f t).1=none->(wD f t).2≠0
 | f,t,h=>by
  rw [wD] at h⊢;cases hs:cH t with
  | none=>rw [hs] at h;cases h
  | some u=>
   rw [hs] at h;cases f with
   | zero=>simp
   | succ f=>
    simp only at h⊢;split at h
    ·rename_i hv;rw [Av hv];exact aEu f u h
    ·rename_i hv;rw [Aw hv];simp
theorem aVq {s:Tm}{b:Bool}(hv:aE s=true)(h:jB s = .no b):b=false/\∃c,wD 200 s=(none,c)/\c≠0:=by
 unfold jB at h;rw [Av hv,<- tN 200 s hv] at h;have hc:=aEu 200 s;cases hh:wD 200 s with
 | mk o c=>
  rw [hh] at h hc;cases o with
  | some o=>cases h
  | none=>injection h with h;exact ⟨h.symm,c,rfl,hc rfl⟩
theorem iV (k n:Int)(ks:List Tm)(A:Ba)(c:Nat)(w:Bb)(hv:aE (.mk k n ks)=true)(hr:Rd w A 0 ks) :
  Calls prog 45 #[.agg (Ro k n A ks.length c)] w (pP w (jB (.mk k n ks))):=by
 have hM:=aH hv;have hlen:=aJ ks;have hv':=aD hv;cases hR:jB (.mk k n ks) with
 | ok o=>
  have hvo:=aD (cR hR).2.1;obtain ⟨ko,no,os⟩:=o;have hh:=aD (aQl hR);clear hv hR;go_enter func45,ntmps45;go_wp2_with (first
   | (go_at_call 76;have _t:=tok;refine (zH k n ks A c 200 Ac _ hv'.out Ac (hr.below g1)).mono ?_;rw [hh.out];rintro e w2 ⟨k3,n3,ks3,A3,c3,he3,rfl,hl3,hr3,hb3⟩;obtain ⟨rfl,rfl,rfl⟩:k3=ko/\n3=no/\ks3=os:=(by injection he3 with q1 q2 q3;exact ⟨q1.symm,q2.symm,q3.symm⟩);replace hZ:=(hZ.keep hb3).alloc (.cells (Ro k3 n3 A3 ks3.length c3) 32);have hK:=aC w2 32 (Ro k3 n3 A3 ks3.length c3) rfl;have s2:=hb3.size;have g2:=(g1.trans (hb3.mono g1.size)).alloc (by have:=g1.size;omega) (.cells (Ro k3 n3 A3 ks3.length c3) 32);have hr4:=hr3.rd.alloc (.cells (Ro k3 n3 A3 ks3.length c3) 32);obtain ⟨y0,y1,y2⟩:=hK.three;clear d0 d1 d2 e0 e1 e2;obtain ⟨d0,d1,d2,e0,e1,e2⟩:=bZ hZ;have s3:=g2.size)
   | (go_at_call 41;refine (aR k n ks A c _ Ac ((hr.alloc _).alloc _)).mono ?_;rw [hv'.out];rintro e w1 ⟨rfl,hb1⟩;have hB:Blk w1 w.heap.size (Ro k n A ks.length c):=((aC w 32 _ rfl).alloc _).keep hb1;have hZ:Blk w1 (w.heap.size+1) Zr:=(aC _ 32 _ Ag).keep hb1;have g1:Bw w w1:=bN bw2 hb1;obtain ⟨x0,x1,x2⟩:=hB.three;obtain ⟨d0,d1,d2,e0,e1,e2,s1⟩:=dN hZ;have tok:=trivial))
  refine bodyPost_ret (v:=.tuple #[.agg (Ro k3 n3 A3 ks3.length c3),.int .i64 0]) (by simp [results,results45,go_sem,d0,d1,d2]) rfl ⟨A3,c3,rfl,hl3,iX hZ hvo.out hr4 _ _ _,?_⟩;exact bV g2
 | no b=>
  obtain ⟨rfl,cc,hh0,hcc⟩:=aVq hv hR;have hh:=aD hh0;have qc:(cc != 0)=true:=by simpa using hcc
  clear hv hR hh0 hcc;go_enter func45,ntmps45;go_wp2_with (first
   | (go_at_call 76;have _t:=tok;refine (zH k n ks A c 200 Ac _ hv'.out Ac (hr.below g1)).mono ?_;rw [hh.out];rintro e w2 ⟨k3,n3,ks3,A3,c3,he3,rfl,hl3,hr3,hb3⟩;replace hZ:=(hZ.keep hb3).alloc (.cells (Ro k3 n3 A3 ks3.length c3) 32);have hK:=aC w2 32 (Ro k3 n3 A3 ks3.length c3) rfl;have s2:=hb3.size;have g2:=(g1.trans (hb3.mono g1.size)).alloc (by have:=g1.size;omega) (.cells (Ro k3 n3 A3 ks3.length c3) 32);obtain ⟨y0,y1,y2⟩:=hK.three;clear d0 d1 d2 e0 e1 e2;obtain ⟨d0,d1,d2,e0,e1,e2⟩:=bZ hZ;have s3:=g2.size)
   | (go_at_call 41;refine (aR k n ks A c _ Ac ((hr.alloc _).alloc _)).mono ?_;rw [hv'.out];rintro e w1 ⟨rfl,hb1⟩;have hB:Blk w1 w.heap.size (Ro k n A ks.length c):=((aC w 32 _ rfl).alloc _).keep hb1;have hZ:Blk w1 (w.heap.size+1) Zr:=(aC _ 32 _ Ag).keep hb1;have g1:Bw w w1:=bN bw2 hb1;obtain ⟨x0,x1,x2⟩:=hB.three;obtain ⟨d0,d1,d2,e0,e1,e2,s1⟩:=dN hZ;have tok:=trivial))
  refine bodyPost_ret (v:=.tuple #[.agg Zr,.int .i64 2]) (by simp [results,results45,go_sem,d0,d1,d2]) rfl ⟨0,0,none,0,0,rfl,?_⟩;exact bV g2
theorem uB (k n:Int)(ks:List Tm)(A:Ba)(c:Nat)(k2 n2:Int)(s2:List Tm)(A2:Ba)(c2:Nat)(w:Bb)(hv:aE (.mk k n ks)=true)(hv2:aE (.mk k2 n2 s2)=true)(hr:Rd w A 0 ks)(hr2:Rd w A2 0 s2) :
  Calls prog 77 #[.agg (Ro k n A ks.length c),.agg (Ro k2 n2 A2 s2.length c2),.int .i64 200] w λe w'=>e = .returned (.int .i64 (dJ 200 (.mk k n ks) (.mk k2 n2 s2)))/\Bw w w':=by
 have hM:=aH hv;have hM2:=aH hv2;have hlen:=aJ ks;have hlen2:=aJ s2;have hv':=aD hv;have hv2':=aD hv2;have en:=nB 200 _ hv;have en2:=nB 200 _ hv2;obtain ⟨R1,hR1⟩:∃R,fQ 200 (.mk k n ks)=R:=⟨_,rfl⟩;obtain ⟨R2,hR2⟩:∃R,fQ 200 (.mk k2 n2 s2)=R:=⟨_,rfl⟩;obtain ⟨m,hm⟩:∃m,dJ 200 (.mk k n ks) (.mk k2 n2 s2)=m:=⟨_,rfl⟩;rw [hm];rw [dJ,<- en,<- en2,hR1,hR2] at hm;clear en en2;have P1:True:=trivial;by_cases hsame:gL (.mk k n ks) (.mk k2 n2 s2)=true
 ·rw [Av hsame] at hm;subst hm;have hsm:=aD hsame;clear hv hv2 hsame hR1 hR2;go_enter func77,ntmps77;go_wp2_with (go_at_call 104;refine (jT _ k n ks A c k2 n2 s2 A2 c2 _ (mV _) Ac Ac ((hr.alloc _).alloc _) ((hr2.alloc _).alloc _)).mono ?_;rw [hsm.out];rintro e w1 ⟨rfl,hb1⟩;have hB:Blk w1 w.heap.size (Ro k n A ks.length c):=((aC w 32 _ rfl).alloc _).keep hb1;have hB2:Blk w1 (w.heap.size+1) (Ro k2 n2 A2 s2.length c2):=(aC _ 32 _ Ag).keep hb1;have g1:Bw w w1:=bN bw2 hb1;obtain ⟨x0,x1,x2⟩:=hB.three;obtain ⟨z0,z1,z2⟩:=hB2.three;have s1:=hB2.lt;have tok:=trivial);go_ret;exact ⟨rfl,g1⟩
 rw [Aw hsame] at hm;have hsm:=aD (Bool.eq_false_iff.2 hsame);have hR1':=aD hR1;have hR2':=aD hR2;clear hv hv2 hsame hR1 hR2;by_cases hc1:R1.2=0
 ·by_cases hc2:R2.2=0
  ·rw [Aw (by rintro (h|h);exact h hc1;exact h hc2)] at hm;have q1:(R1.2 != 0)=false:=by simpa using hc1
   have q2:(R2.2 != 0)=false:=by simpa using hc2
   by_cases hse:gL (R1.1.getD (.mk 0 0 [])) (R2.1.getD (.mk 0 0 []))=true
   ·rw [Av hse] at hm;subst hm;have hss:=aD hse;clear hse hc1 hc2;go_enter func77,ntmps77;go_wp2_with (first
     | (go_at_call 104;have _t:=tok3;refine (jT _ k3 n3 ks3 A3 c3 k4 n4 ks4 A4 c4 _ (mV _) hl3 hl4 hr7 hr6).mono ?_;rw [<- he3'.out,<- he4'.out,hss.out];rintro e w5 ⟨rfl,hb5⟩;have g4:=g3.trans (hb5.mono g3.size))
     | (go_at_call 105;have _t:=tok2;refine (iP gK k2 n2 s2 A2 c2 200 Ac _ hv2'.out Ac (hr2.below g2)).mono ?_;rw [hR2'.out];rintro e w3 ⟨k4,n4,ks4,A4,c4,he4,rfl,hl4,hr5,hb4⟩;have he4':=aD he4;clear he4;replace hK:=(hK.keep hb4).alloc (.cells (Ro k4 n4 A4 ks4.length c4) 32);have hL:=aC w3 32 (Ro k4 n4 A4 ks4.length c4) rfl;have g3:=(g2.trans (hb4.mono g2.size)).alloc (by have:=hb4.size;omega) (.cells (Ro k4 n4 A4 ks4.length c4) 32);have hr6:=hr5.rd.alloc (.cells (Ro k4 n4 A4 ks4.length c4) 32);have hr7:=(hr4.below hb4).alloc (.cells (Ro k4 n4 A4 ks4.length c4) 32);obtain ⟨y0,y1,y2⟩:=hK.three;obtain ⟨v0,v1,v2⟩:=hL.three;have s4':=g3.size;clear tok2;have tok3:=trivial)
     | (go_at_call 105;have _t:=tok;refine (iP gK k n ks A c 200 Ac _ hv'.out Ac (hr.below g1)).mono ?_;rw [hR1'.out];rintro e w2 ⟨k3,n3,ks3,A3,c3,he3,rfl,hl3,hr3,hb3⟩;have he3':=aD he3;clear he3;replace hB2:=(hB2.keep hb3).alloc (.cells (Ro k3 n3 A3 ks3.length c3) 32);have hK:=aC w2 32 (Ro k3 n3 A3 ks3.length c3) rfl;have s2':=hb3.size;have g2:=(g1.trans (hb3.mono g1.size)).alloc (by have:=g1.size;omega) (.cells (Ro k3 n3 A3 ks3.length c3) 32);have hr4:=hr3.rd.alloc (.cells (Ro k3 n3 A3 ks3.length c3) 32);clear x0 x1 x2 z0 z1 z2;obtain ⟨z0,z1,z2⟩:=hB2.three;have s3':=g2.size;clear tok;have tok2:=trivial)
     | (go_at_call 104;refine (jT _ k n ks A c k2 n2 s2 A2 c2 _ (mV _) Ac Ac ((hr.alloc _).alloc _) ((hr2.alloc _).alloc _)).mono ?_;rw [hsm.out];rintro e w1 ⟨rfl,hb1⟩;have hB:Blk w1 w.heap.size (Ro k n A ks.length c):=((aC w 32 _ rfl).alloc _).keep hb1;have hB2:Blk w1 (w.heap.size+1) (Ro k2 n2 A2 s2.length c2):=(aC _ 32 _ Ag).keep hb1;have g1:Bw w w1:=bN bw2 hb1;obtain ⟨x0,x1,x2⟩:=hB.three;obtain ⟨z0,z1,z2⟩:=hB2.three;have s1:=hB2.lt;have tok:=trivial))
    go_ret;exact ⟨rfl,g4⟩
   ·rw [Aw hse] at hm;subst hm;have hss:=aD (Bool.eq_false_iff.2 hse);clear hse hc1 hc2;go_enter func77,ntmps77;go_wp2_with (first
     | (go_at_call 104;have _t:=tok3;refine (jT _ k3 n3 ks3 A3 c3 k4 n4 ks4 A4 c4 _ (mV _) hl3 hl4 hr7 hr6).mono ?_;rw [<- he3'.out,<- he4'.out,hss.out];rintro e w5 ⟨rfl,hb5⟩;have g4:=g3.trans (hb5.mono g3.size))
     | (go_at_call 105;have _t:=tok2;refine (iP gK k2 n2 s2 A2 c2 200 Ac _ hv2'.out Ac (hr2.below g2)).mono ?_;rw [hR2'.out];rintro e w3 ⟨k4,n4,ks4,A4,c4,he4,rfl,hl4,hr5,hb4⟩;have he4':=aD he4;clear he4;replace hK:=(hK.keep hb4).alloc (.cells (Ro k4 n4 A4 ks4.length c4) 32);have hL:=aC w3 32 (Ro k4 n4 A4 ks4.length c4) rfl;have g3:=(g2.trans (hb4.mono g2.size)).alloc (by have:=hb4.size;omega) (.cells (Ro k4 n4 A4 ks4.length c4) 32);have hr6:=hr5.rd.alloc (.cells (Ro k4 n4 A4 ks4.length c4) 32);have hr7:=(hr4.below hb4).alloc (.cells (Ro k4 n4 A4 ks4.length c4) 32);obtain ⟨y0,y1,y2⟩:=hK.three;obtain ⟨v0,v1,v2⟩:=hL.three;have s4':=g3.size;clear tok2;have tok3:=trivial)
     | (go_at_call 105;have _t:=tok;refine (iP gK k n ks A c 200 Ac _ hv'.out Ac (hr.below g1)).mono ?_;rw [hR1'.out];rintro e w2 ⟨k3,n3,ks3,A3,c3,he3,rfl,hl3,hr3,hb3⟩;have he3':=aD he3;clear he3;replace hB2:=(hB2.keep hb3).alloc (.cells (Ro k3 n3 A3 ks3.length c3) 32);have hK:=aC w2 32 (Ro k3 n3 A3 ks3.length c3) rfl;have s2':=hb3.size;have g2:=(g1.trans (hb3.mono g1.size)).alloc (by have:=g1.size;omega) (.cells (Ro k3 n3 A3 ks3.length c3) 32);have hr4:=hr3.rd.alloc (.cells (Ro k3 n3 A3 ks3.length c3) 32);clear x0 x1 x2 z0 z1 z2;obtain ⟨z0,z1,z2⟩:=hB2.three;have s3':=g2.size;clear tok;have tok2:=trivial)
     | (go_at_call 104;refine (jT _ k n ks A c k2 n2 s2 A2 c2 _ (mV _) Ac Ac ((hr.alloc _).alloc _) ((hr2.alloc _).alloc _)).mono ?_;rw [hsm.out];rintro e w1 ⟨rfl,hb1⟩;have hB:Blk w1 w.heap.size (Ro k n A ks.length c):=((aC w 32 _ rfl).alloc _).keep hb1;have hB2:Blk w1 (w.heap.size+1) (Ro k2 n2 A2 s2.length c2):=(aC _ 32 _ Ag).keep hb1;have g1:Bw w w1:=bN bw2 hb1;obtain ⟨x0,x1,x2⟩:=hB.three;obtain ⟨z0,z1,z2⟩:=hB2.three;have s1:=hB2.lt;have tok:=trivial))
    go_ret;exact ⟨rfl,g4⟩
  ·rw [Av (.inr hc2)] at hm;subst hm;have q1:(R1.2 != 0)=false:=by simpa using hc1
   have q2:(R2.2 != 0)=true:=by simpa using hc2
   clear hc1 hc2;go_enter func77,ntmps77;go_wp2_with (first
    | (go_at_call 105;have _t:=tok2;refine (iP gK k2 n2 s2 A2 c2 200 Ac _ hv2'.out Ac (hr2.below g2)).mono ?_;rw [hR2'.out];rintro e w3 ⟨k4,n4,ks4,A4,c4,he4,rfl,hl4,hr5,hb4⟩;have he4':=aD he4;clear he4;replace hK:=(hK.keep hb4).alloc (.cells (Ro k4 n4 A4 ks4.length c4) 32);have hL:=aC w3 32 (Ro k4 n4 A4 ks4.length c4) rfl;have g3:=(g2.trans (hb4.mono g2.size)).alloc (by have:=hb4.size;omega) (.cells (Ro k4 n4 A4 ks4.length c4) 32);have hr6:=hr5.rd.alloc (.cells (Ro k4 n4 A4 ks4.length c4) 32);have hr7:=(hr4.below hb4).alloc (.cells (Ro k4 n4 A4 ks4.length c4) 32);obtain ⟨y0,y1,y2⟩:=hK.three;obtain ⟨v0,v1,v2⟩:=hL.three;have s4':=g3.size;clear tok2;have tok3:=trivial)
    | (go_at_call 105;have _t:=tok;refine (iP gK k n ks A c 200 Ac _ hv'.out Ac (hr.below g1)).mono ?_;rw [hR1'.out];rintro e w2 ⟨k3,n3,ks3,A3,c3,he3,rfl,hl3,hr3,hb3⟩;have he3':=aD he3;clear he3;replace hB2:=(hB2.keep hb3).alloc (.cells (Ro k3 n3 A3 ks3.length c3) 32);have hK:=aC w2 32 (Ro k3 n3 A3 ks3.length c3) rfl;have s2':=hb3.size;have g2:=(g1.trans (hb3.mono g1.size)).alloc (by have:=g1.size;omega) (.cells (Ro k3 n3 A3 ks3.length c3) 32);have hr4:=hr3.rd.alloc (.cells (Ro k3 n3 A3 ks3.length c3) 32);clear x0 x1 x2 z0 z1 z2;obtain ⟨z0,z1,z2⟩:=hB2.three;have s3':=g2.size;clear tok;have tok2:=trivial)
    | (go_at_call 104;refine (jT _ k n ks A c k2 n2 s2 A2 c2 _ (mV _) Ac Ac ((hr.alloc _).alloc _) ((hr2.alloc _).alloc _)).mono ?_;rw [hsm.out];rintro e w1 ⟨rfl,hb1⟩;have hB:Blk w1 w.heap.size (Ro k n A ks.length c):=((aC w 32 _ rfl).alloc _).keep hb1;have hB2:Blk w1 (w.heap.size+1) (Ro k2 n2 A2 s2.length c2):=(aC _ 32 _ Ag).keep hb1;have g1:Bw w w1:=bN bw2 hb1;obtain ⟨x0,x1,x2⟩:=hB.three;obtain ⟨z0,z1,z2⟩:=hB2.three;have s1:=hB2.lt;have tok:=trivial))
   go_ret;exact ⟨rfl,g3⟩
 ·rw [Av (.inl hc1)] at hm;subst hm;have q1:(R1.2 != 0)=true:=by simpa using hc1
  clear hc1;go_enter func77,ntmps77;go_wp2_with (first
   | (go_at_call 105;have _t:=tok2;refine (iP gK k2 n2 s2 A2 c2 200 Ac _ hv2'.out Ac (hr2.below g2)).mono ?_;rw [hR2'.out];rintro e w3 ⟨k4,n4,ks4,A4,c4,he4,rfl,hl4,hr5,hb4⟩;have he4':=aD he4;clear he4;replace hK:=(hK.keep hb4).alloc (.cells (Ro k4 n4 A4 ks4.length c4) 32);have hL:=aC w3 32 (Ro k4 n4 A4 ks4.length c4) rfl;have g3:=(g2.trans (hb4.mono g2.size)).alloc (by have:=hb4.size;omega) (.cells (Ro k4 n4 A4 ks4.length c4) 32);have hr6:=hr5.rd.alloc (.cells (Ro k4 n4 A4 ks4.length c4) 32);have hr7:=(hr4.below hb4).alloc (.cells (Ro k4 n4 A4 ks4.length c4) 32);obtain ⟨y0,y1,y2⟩:=hK.three;obtain ⟨v0,v1,v2⟩:=hL.three;have s4':=g3.size;clear tok2;have tok3:=trivial)
   | (go_at_call 105;have _t:=tok;refine (iP gK k n ks A c 200 Ac _ hv'.out Ac (hr.below g1)).mono ?_;rw [hR1'.out];rintro e w2 ⟨k3,n3,ks3,A3,c3,he3,rfl,hl3,hr3,hb3⟩;have he3':=aD he3;clear he3;replace hB2:=(hB2.keep hb3).alloc (.cells (Ro k3 n3 A3 ks3.length c3) 32);have hK:=aC w2 32 (Ro k3 n3 A3 ks3.length c3) rfl;have s2':=hb3.size;have g2:=(g1.trans (hb3.mono g1.size)).alloc (by have:=g1.size;omega) (.cells (Ro k3 n3 A3 ks3.length c3) 32);have hr4:=hr3.rd.alloc (.cells (Ro k3 n3 A3 ks3.length c3) 32);clear x0 x1 x2 z0 z1 z2;obtain ⟨z0,z1,z2⟩:=hB2.three;have s3':=g2.size;clear tok;have tok2:=trivial)
   | (go_at_call 104;refine (jT _ k n ks A c k2 n2 s2 A2 c2 _ (mV _) Ac Ac ((hr.alloc _).alloc _) ((hr2.alloc _).alloc _)).mono ?_;rw [hsm.out];rintro e w1 ⟨rfl,hb1⟩;have hB:Blk w1 w.heap.size (Ro k n A ks.length c):=((aC w 32 _ rfl).alloc _).keep hb1;have hB2:Blk w1 (w.heap.size+1) (Ro k2 n2 A2 s2.length c2):=(aC _ 32 _ Ag).keep hb1;have g1:Bw w w1:=bN bw2 hb1;obtain ⟨x0,x1,x2⟩:=hB.three;obtain ⟨z0,z1,z2⟩:=hB2.three;have s1:=hB2.lt;have tok:=trivial))
  go_ret;exact ⟨rfl,g3⟩
abbrev Prs:=List Tm × List Tm
def aXd (x y:Tm):List Tm->List Tm->Option Nat
 | l::ls,r::rs=>if (gL l x && gL r y)=true then some 0 else (aXd x y ls rs).map (·+1)
 | _,_=>none
def aPm (H:Nat->Tm)(d:Int)(t u:Tm)(st:Prs):Option (Tm × Prs):=
 match bJ (-d) 0 t,bJ (-d) 0 u with
 | some x,some y=>(match aXd x y st.1 st.2 with|some i=>some (H i,st)|none=>some (H st.1.length,(st.1++[x],st.2++[y])))
 | _,_=>none
mutual
def cm (H:Nat->Tm):Int->Tm->Tm->Prs->Option (Tm × Prs)
 | d,.mk k n ks,u,st=>
  if u.k=k/\u.n=n/\u.kids.length=ks.length then
   (match cmL H k d 0 ks u.kids st with
    | some (os,st')=>some (.mk k n os,st')
    | none=>aPm H d (.mk k n ks) u st)
  else aPm H d (.mk k n ks) u st
def cmL (H:Nat->Tm):Int->Int->Nat->List Tm->List Tm->Prs->Option (List Tm × Prs)
 | k,d,i,t::ts,u::us,st=>
  (match cm H (d + aN k i) t u st with
   | none=>none
   | some (o,st')=>(match cmL H k d (i+1) ts us st' with|none=>none|some (os,st2)=>some (o::os,st2)))
 | _,_,_,_,_,st=>some ([],st)
end
def nbd:Tm->Bool
 | .mk _ n ks=>decide (0<=n) && decide (n<=1000000) && nbds ks
where nbds:List Tm->Bool|[]=>true|t::ts=>nbd t && nbds ts
structure Fr (w:Bb) (k n:Int) (ks:List Tm) (A:Ba) (c:Nat) (ku nu:Int) (us:List Tm) (U:Ba) (cu:Nat) (wx:Bb):Prop where
 h0:Blk wx w.heap.size (Ro k n A ks.length c)
 h1:Blk wx (w.heap.size+1) (Ro ku nu U us.length cu)
 h2:Blk wx (w.heap.size+1+1) Zr
 hb:Bw w wx
section
variable {w:Bb}{k n:Int}{ks:List Tm}{A:Ba}{c:Nat}{ku nu:Int}{us:List Tm}{U:Ba}{cu:Nat}{wx wy:Bb}
end
structure Chg (gf:Nat) (v1 v2:Value) (w w':Bb):Prop where
 os:w'.os=w.os
 tape:w'.tape=w.tape
 output:w'.output=w.output
 size:w.heap.size<=w'.heap.size
 block:∀b,b<w.heap.size->b≠gf->v1.ownBlock≠some b->v2.ownBlock≠some b->w'.heap[b]?=w.heap[b]?
theorem aL {S:Bb->Prop}{K:Act->Bb->Prop}{Q:Exit->Act->Bb->Prop}{a:Act}{w:Bb}(h:∀wx,wx=w->rX S K Q .normal a wx):rX S K Q .normal a w:=h w rfl
theorem jQ (k n:Int)(ks:List Tm)(A:Ba)(c:Nat)(k2 n2:Int)(s2:List Tm)(A2:Ba)(c2:Nat)(w:Bb)(hv:aE (.mk k n ks)=true)(hs2:aG s2<=1000000)(hr:Rd w A 0 ks)(hr2:Rd w A2 0 s2) :
  Calls prog 46 #[.agg (Ro k n A ks.length c),.agg (Ro k2 n2 A2 s2.length c2)] w λe w'=>e = .returned (.int .i64 (tR (.mk k n ks) (.mk k2 n2 s2)).cd)/\Bw w w':=by
 have hM:=aH hv;have hv':=aD hv;unfold tR;cases hv2:aE (.mk k2 n2 s2) with
 | false=>
  rw [Aw (by rintro ⟨-,h⟩;cases h)];have hv2':=aD hv2;clear hv hv2;go_enter func46,ntmps46;go_wp2_with (first
   | (go_at_call 41;have _t:=tok;refine (aR k2 n2 s2 A2 c2 _ Ac (hr2.below g1)).mono ?_;rw [hv2'.out];rintro e w2 ⟨rfl,hb2⟩;have g2:=g1.trans (hb2.mono g1.size);have hB':=hB.keep hb2;have hB2':=hB2.keep hb2;clear x0 x1 x2 z0 z1 z2;obtain ⟨x0,x1,x2⟩:=hB'.three;obtain ⟨z0,z1,z2⟩:=hB2'.three;clear tok;have tok2:=trivial)
   | (go_at_call 41;refine (aR k n ks A c _ Ac ((hr.alloc _).alloc _)).mono ?_;rw [hv'.out];rintro e w1 ⟨rfl,hb1⟩;have hB:Blk w1 w.heap.size (Ro k n A ks.length c):=((aC w 32 _ rfl).alloc _).keep hb1;have hB2:Blk w1 (w.heap.size+1) (Ro k2 n2 A2 s2.length c2):=(aC _ 32 _ Ag).keep hb1;have g1:Bw w w1:=bN bw2 hb1;obtain ⟨x0,x1,x2⟩:=hB.three;obtain ⟨z0,z1,z2⟩:=hB2.three;have s1:=hB2.lt;have tok:=trivial))
  go_ret;exact ⟨rfl,g2⟩
 | true=>
  rw [Av ⟨hv,rfl⟩];have hv2':=aD hv2;obtain ⟨m,hm⟩:∃m,dJ 200 (.mk k n ks) (.mk k2 n2 s2)=m:=⟨_,rfl⟩;rw [hm];have hm':=aD hm;clear hv hv2 hm;by_cases h1:m=1
  ·subst h1;rw [Av rfl];go_enter func46,ntmps46;go_wp2_with (first
    | (go_at_call 77;have _t:=tok2;refine (uB k n ks A c k2 n2 s2 A2 c2 _ hv'.out hv2'.out (hr.below g2) (hr2.below g2)).mono ?_;rw [hm'.out];rintro e w3 ⟨rfl,hb3⟩;have g3:=g2.trans (hb3.mono g2.size))
    | (go_at_call 41;have _t:=tok;refine (aR k2 n2 s2 A2 c2 _ Ac (hr2.below g1)).mono ?_;rw [hv2'.out];rintro e w2 ⟨rfl,hb2⟩;have g2:=g1.trans (hb2.mono g1.size);have hB':=hB.keep hb2;have hB2':=hB2.keep hb2;clear x0 x1 x2 z0 z1 z2;obtain ⟨x0,x1,x2⟩:=hB'.three;obtain ⟨z0,z1,z2⟩:=hB2'.three;clear tok;have tok2:=trivial)
    | (go_at_call 41;refine (aR k n ks A c _ Ac ((hr.alloc _).alloc _)).mono ?_;rw [hv'.out];rintro e w1 ⟨rfl,hb1⟩;have hB:Blk w1 w.heap.size (Ro k n A ks.length c):=((aC w 32 _ rfl).alloc _).keep hb1;have hB2:Blk w1 (w.heap.size+1) (Ro k2 n2 A2 s2.length c2):=(aC _ 32 _ Ag).keep hb1;have g1:Bw w w1:=bN bw2 hb1;obtain ⟨x0,x1,x2⟩:=hB.three;obtain ⟨z0,z1,z2⟩:=hB2.three;have s1:=hB2.lt;have tok:=trivial))
   go_ret;exact ⟨rfl,g3⟩
  ·rw [Aw h1];have q1:(m==1)=false:=by simpa using h1
   by_cases h2:m=2
   ·subst h2;rw [Av rfl];go_enter func46,ntmps46;go_wp2_with (first
     | (go_at_call 77;have _t:=tok2;refine (uB k n ks A c k2 n2 s2 A2 c2 _ hv'.out hv2'.out (hr.below g2) (hr2.below g2)).mono ?_;rw [hm'.out];rintro e w3 ⟨rfl,hb3⟩;have g3:=g2.trans (hb3.mono g2.size))
     | (go_at_call 41;have _t:=tok;refine (aR k2 n2 s2 A2 c2 _ Ac (hr2.below g1)).mono ?_;rw [hv2'.out];rintro e w2 ⟨rfl,hb2⟩;have g2:=g1.trans (hb2.mono g1.size);have hB':=hB.keep hb2;have hB2':=hB2.keep hb2;clear x0 x1 x2 z0 z1 z2;obtain ⟨x0,x1,x2⟩:=hB'.three;obtain ⟨z0,z1,z2⟩:=hB2'.three;clear tok;have tok2:=trivial)
     | (go_at_call 41;refine (aR k n ks A c _ Ac ((hr.alloc _).alloc _)).mono ?_;rw [hv'.out];rintro e w1 ⟨rfl,hb1⟩;have hB:Blk w1 w.heap.size (Ro k n A ks.length c):=((aC w 32 _ rfl).alloc _).keep hb1;have hB2:Blk w1 (w.heap.size+1) (Ro k2 n2 A2 s2.length c2):=(aC _ 32 _ Ag).keep hb1;have g1:Bw w w1:=bN bw2 hb1;obtain ⟨x0,x1,x2⟩:=hB.three;obtain ⟨z0,z1,z2⟩:=hB2.three;have s1:=hB2.lt;have tok:=trivial))
    go_ret;exact ⟨rfl,g3⟩
   ·rw [Aw h2];have q2:(m==2)=false:=by simpa using h2
    go_enter func46,ntmps46;go_wp2_with (first
     | (go_at_call 77;have _t:=tok2;refine (uB k n ks A c k2 n2 s2 A2 c2 _ hv'.out hv2'.out (hr.below g2) (hr2.below g2)).mono ?_;rw [hm'.out];rintro e w3 ⟨rfl,hb3⟩;have g3:=g2.trans (hb3.mono g2.size))
     | (go_at_call 41;have _t:=tok;refine (aR k2 n2 s2 A2 c2 _ Ac (hr2.below g1)).mono ?_;rw [hv2'.out];rintro e w2 ⟨rfl,hb2⟩;have g2:=g1.trans (hb2.mono g1.size);have hB':=hB.keep hb2;have hB2':=hB2.keep hb2;clear x0 x1 x2 z0 z1 z2;obtain ⟨x0,x1,x2⟩:=hB'.three;obtain ⟨z0,z1,z2⟩:=hB2'.three;clear tok;have tok2:=trivial)
     | (go_at_call 41;refine (aR k n ks A c _ Ac ((hr.alloc _).alloc _)).mono ?_;rw [hv'.out];rintro e w1 ⟨rfl,hb1⟩;have hB:Blk w1 w.heap.size (Ro k n A ks.length c):=((aC w 32 _ rfl).alloc _).keep hb1;have hB2:Blk w1 (w.heap.size+1) (Ro k2 n2 A2 s2.length c2):=(aC _ 32 _ Ag).keep hb1;have g1:Bw w w1:=bN bw2 hb1;obtain ⟨x0,x1,x2⟩:=hB.three;obtain ⟨z0,z1,z2⟩:=hB2.three;have s1:=hB2.lt;have tok:=trivial))
    go_ret;exact ⟨rfl,g3⟩
theorem aFr (i j:Int)(w:Bb):Calls prog 149 #[.int .i64 i,.int .i64 j] w λe w'=>e = .returned (.int .i64 (if j<i then i else j))/\Bw w w':=by
 by_cases h:j<i
 ·rw [Av h];have q:decide (j<i)=true:=decide_eq_true h;go_enter func149,ntmps149;go_wp2_with fail;go_ret;exact ⟨rfl,eI _ _⟩
 ·rw [Aw h];have q:decide (j<i)=false:=decide_eq_false h;go_enter func149,ntmps149;go_wp2_with fail;go_ret;exact ⟨rfl,eI _ _⟩
theorem PartR.ownB {lo:Nat->Prop}{B:Nat}{w:Bb}{v:Value}{ts:List Tm}(h:PartR lo B w v ts):∀g,v.ownBlock=some g->B<=g:=λg hg=>by
 obtain ⟨xs,h1,_⟩:=h;exact (h1.lt g hg).1
def Emp (w:Bb)(g:Nat):Prop:=w.heap[g]?=some (.cells #[] 32 (0,0))/\g<w.heap.size
theorem Emp.below {w w':Bb}{g:Nat}(h:Emp w g)(hb:Bw w w'):Emp w' g:=⟨by rw [hb.block g h.2];exact h.1,vM h.2 hb.size⟩
def aAg (w:Bb)(ts:List Tm)(e:Ending)(w':Bb):Prop:=∃D d,e = .returned (.slice D ts.length d)/\Rd w' D 0 ts/\Bw w w'
theorem nF (ctx:List Tm)(C:Ba)(cc:Nat)(k n:Int)(ks:List Tm)(A:Ba)(c:Nat)(w:Bb)(hm:ctx.length<=1000)(hl:ks.length<=9223372036854775807)(hrc:Rd w C 0 ctx)(hra:Rd w A 0 ks) :
  Calls prog 91 #[.slice C ctx.length cc,.agg (Ro k n A ks.length c)] w (aAg w (ctx++[.mk k n ks])):=by
 go_enter func91,ntmps91;go_upto_region 1 with fail
 refine aXa (show Blk _ w.heap.size (Ro k n A ks.length c) from (aC _ 32 _ rfl)) bw1 ?_;intro wx hT gx;have rcx:=(hrc.below gx).rdp;have rax:=(hra.below gx).rdp;obtain ⟨v0,v1,v2⟩:=fW hT;refine eK wx [5,6] [1,3] 7 5 (lT:=[_,_]) ?_;intro q0 bq0;refine bU (aD ?_);refine mW 0 4 ?_ ?_
 ·go_wp2_with fail;refine aL ?_;intro q1 hn;have hbq1:Bw q0 q1:=by rw [hn];exact bw1
  have Eq1:Emp q1 q0.heap.size:=by rw [hn];exact ⟨heap_alloc_new _ _,by simp⟩
  have seq1:q0.heap.size<q1.heap.size:=by rw [hn];simp
  clear hn;refine aV bq0 hbq1 ?_;intro bq1 lq1;refine mW 2 4 ?_ ?_
  ·have lgq2:q0.heap.size<q1.heap.size:=Eq1.2;refine fA (p:=λb=>b<wx.heap.size) (g:=q0.heap.size) (cl:=cc) Eq1.1 (rcx.below bq1) (λb hb=>⟨vM hb bq1.size,by have:=bq0.size;omega⟩) rfl Ac rfl _ _ rfl rfl rfl ?_;intro C2 c2 q2 hPq2 hgq2;have hbq2:Below q0.heap.size q1 q2:=⟨hgq2.os,hgq2.tape,hgq2.output,hgq2.size,λk hk=>hgq2.block k Ac (λe=>by injection e;omega)⟩;have bq2:Bw wx q2:=bq1.trans (hbq2.mono bq0.size);have lq2:=hbq2.size;refine aS bq2 ?_;refine aZ 4 ?_
   ·go_wp2_with fail;refine aL ?_;intro q3 hn;have hbq3:Bw q2 q3:=by rw [hn];exact bw1
    have zq3:Blk q3 q2.heap.size (Ro k n A ks.length c):=by rw [hn];exact aC _ 32 _ rfl
    have seq3:q2.heap.size<q3.heap.size:=by rw [hn];simp
    clear hn;have Pq3:=hPq2.below hbq3;refine aV bq2 hbq3 ?_;intro bq3 lq3;refine cK [5,6] (lB:=[_,_]) ?_;have lB:q0.heap.size<=q3.heap.size:=by have:=lq3;omega
    have lA:wx.heap.size<=q0.heap.size:=bq0.size;refine bP (lo:=λb=>b<wx.heap.size) (B:=q0.heap.size) (q:=λb=>b<wx.heap.size) Pq3 lB (rax.below bq3) (λb hb=>⟨.inl hb,vM hb bq3.size,λe=>by have:=Pq3.ownB b e;omega⟩) hl rfl Ac q2.heap.size 1 zq3 rfl _ _ rfl rfl rfl ?_;intro A9 c9 w9 hp9 hb9 hg9 hn9;obtain ⟨A8,c8,e8,r8⟩:=hp9.rd;injection e8 with e81 e82 e83;subst e81 e83;have hlen9:(ctx++[Tm.mk k n ks]).length=ctx.length+1:=by simp
    refine gS (aD ?_);go_wp2_with fail;go_ret;exact ⟨A9,c9,by rw [hlen9];rfl,r8.rd,(gx.trans (bq3.mono gx.size)).trans (hb9.mono (by have:=gx.size;omega))⟩
  ·go_wp2_with fail;refine aL ?_;intro q4 hn;have hbq4:Bw q1 q4:=by rw [hn];exact bw1
   have zq4:Blk q4 q1.heap.size (Ro k n A ks.length c):=by rw [hn];exact aC _ 32 _ rfl
   have seq4:q1.heap.size<q4.heap.size:=by rw [hn];simp
   clear hn;have Eq4:=Eq1.below hbq4;refine aV bq1 hbq4 ?_;intro bq4 lq4;refine aZ 2 ?_
   ·have lgq5:q0.heap.size<q4.heap.size:=Eq4.2;refine fA (p:=λb=>b<wx.heap.size) (g:=q0.heap.size) (cl:=cc) Eq4.1 (rcx.below bq4) (λb hb=>⟨vM hb bq4.size,by have:=bq0.size;omega⟩) rfl Ac rfl _ _ rfl rfl rfl ?_;intro C2 c2 q5 hPq5 hgq5;have hbq5:Below q0.heap.size q4 q5:=⟨hgq5.os,hgq5.tape,hgq5.output,hgq5.size,λk hk=>hgq5.block k Ac (λe=>by injection e;omega)⟩;have Kq5:=zq4.grown hgq5 Ai;have bq5:Bw wx q5:=bq4.trans (hbq5.mono bq0.size);have lq5:=hbq5.size;refine aS bq5 ?_;refine cK [5,6] (lB:=[_,_]) ?_;have lB:q0.heap.size<=q5.heap.size:=by have:=lq5;omega
    have lA:wx.heap.size<=q0.heap.size:=bq0.size;refine bP (lo:=λb=>b<wx.heap.size) (B:=q0.heap.size) (q:=λb=>b<wx.heap.size) hPq5 lB (rax.below bq5) (λb hb=>⟨.inl hb,vM hb bq5.size,λe=>by have:=hPq5.ownB b e;omega⟩) hl rfl Ac q1.heap.size 1 Kq5 rfl _ _ rfl rfl rfl ?_;intro A9 c9 w9 hp9 hb9 hg9 hn9;obtain ⟨A8,c8,e8,r8⟩:=hp9.rd;injection e8 with e81 e82 e83;subst e81 e83;have hlen9:(ctx++[Tm.mk k n ks]).length=ctx.length+1:=by simp
    refine gS (aD ?_);go_wp2_with fail;go_ret;exact ⟨A9,c9,by rw [hlen9];rfl,r8.rd,(gx.trans (bq5.mono gx.size)).trans (hb9.mono (by have:=gx.size;omega))⟩
 ·go_wp2_with fail;refine aL ?_;intro q6 hn;have hbq6:Bw q0 q6:=by rw [hn];exact bw1
  have zq6:Blk q6 q0.heap.size (Ro k n A ks.length c):=by rw [hn];exact aC _ 32 _ rfl
  have seq6:q0.heap.size<q6.heap.size:=by rw [hn];simp
  clear hn;refine aV bq0 hbq6 ?_;intro bq6 lq6;refine aZ 0 ?_
  ·go_wp2_with fail;refine aL ?_;intro q7 hn;have hbq7:Bw q6 q7:=by rw [hn];exact bw1
   have Eq7:Emp q7 q6.heap.size:=by rw [hn];exact ⟨heap_alloc_new _ _,by simp⟩
   have seq7:q6.heap.size<q7.heap.size:=by rw [hn];simp
   clear hn;have Kq7:=zq6.keep hbq7;refine aV bq6 hbq7 ?_;intro bq7 lq7;refine aZ 2 ?_
   ·have lgq8:q6.heap.size<q7.heap.size:=Eq7.2;refine fA (p:=λb=>b<wx.heap.size) (g:=q6.heap.size) (cl:=cc) Eq7.1 (rcx.below bq7) (λb hb=>⟨vM hb bq7.size,by have:=bq6.size;omega⟩) rfl Ac rfl _ _ rfl rfl rfl ?_;intro C2 c2 q8 hPq8 hgq8;have hbq8:Below q6.heap.size q7 q8:=⟨hgq8.os,hgq8.tape,hgq8.output,hgq8.size,λk hk=>hgq8.block k Ac (λe=>by injection e;omega)⟩;have Kq8:=Kq7.grown hgq8 Ai;have bq8:Bw wx q8:=bq7.trans (hbq8.mono bq6.size);have lq8:=hbq8.size;refine aS bq8 ?_;refine cK [5,6] (lB:=[_,_]) ?_;have lB:q6.heap.size<=q8.heap.size:=by have:=lq8;omega
    have lA:wx.heap.size<=q6.heap.size:=bq6.size;refine bP (lo:=λb=>b<wx.heap.size) (B:=q6.heap.size) (q:=λb=>b<wx.heap.size) hPq8 lB (rax.below bq8) (λb hb=>⟨.inl hb,vM hb bq8.size,λe=>by have:=hPq8.ownB b e;omega⟩) hl rfl Ac q0.heap.size 1 Kq8 rfl _ _ rfl rfl rfl ?_;intro A9 c9 w9 hp9 hb9 hg9 hn9;obtain ⟨A8,c8,e8,r8⟩:=hp9.rd;injection e8 with e81 e82 e83;subst e81 e83;have hlen9:(ctx++[Tm.mk k n ks]).length=ctx.length+1:=by simp
    refine gS (aD ?_);go_wp2_with fail;go_ret;exact ⟨A9,c9,by rw [hlen9];rfl,r8.rd,(gx.trans (bq8.mono gx.size)).trans (hb9.mono (by have:=gx.size;omega))⟩
mutual
def aTy (d:Int):Tm->Bool
 | .mk k n ks=>(!(k==1 && decide (d<=n))) && aXb d k 0 ks
def aXb (d k:Int)(i:Nat):List Tm->Bool
 | []=>true
 | t::ts=>aTy (d+aN k i) t && aXb d k (i+1) ts
end
theorem aUp {k:Int}(h:k≠3/\k≠4/\k≠13)(i:Int):aN k i=0:=by
 unfold aN binds;split
 ·rename_i h2;simp [h.1,h.2.1,h.2.2] at h2
 ·rfl
theorem uK {k n:Int}{ks:List Tm}(hv:aE (.mk k n ks)=true){j:Nat}(hj:j<ks.length):aE (aI ks j)=true:=by
 have:=aP hv (gM hj);simpa [aI,List.getD,sE hj] using this
theorem aIc {a b:Tm}(h:tR a b = .ok ()):aEl a b=true/\aE b=true:=by
 unfold tR at h;split at h
 ·rename_i hv;split at h
  ·rename_i hc;simp [aEl,hv.1,hv.2,hc]
  ·split at h<;>cases h
 ·cases h
theorem nS {b:Int}{t:Tm}(hb:0<=b)(ht:aE t=true)(hv:aE (bR b 0 t)=true):bJ b 0 t=some (bR b 0 t):=by
 have h1:=aAp hb (bC ht) hv;have h2:=gE (bC ht) h1;obtain ⟨v,h3⟩:=Option.isSome_iff_exists.1 h1;rw [h3] at h2⊢;exact congrArg some h2
theorem uE {k:Int}(h:0<=aX k)(e3:¬(k=3\/k=13))(e4:¬k=4)(e5:¬k=5)(e9:¬k=9)(e10:¬k=10)(e12:¬k=12)(e14:¬k=14)(e1:¬k=1)(e2:¬k=2)(e6:¬k=6)(e7:¬k=7)(e8:¬k=8)(e11:¬k=11):k=15\/k=16:=by
 by_cases h15:k=15
 ·exact .inl h15
 by_cases h16:k=16
 ·exact .inr h16
 unfold aX at h;rw [Aw e1,Aw e2,Aw e6,Aw e7,Aw e8,Aw e11,Aw h15,Aw h16,Aw (λh=>e3 (.inl h)),Aw e4,Aw e5,Aw (λh=>e3 (.inr h)),Aw e10,Aw e12,Aw e14,Aw e9] at h;omega
def qK (w:Bb):Rs Tm->Ending->Bb->Prop
 | .ok (.mk k n ks)=>jH w k n ks
 | .no b=>λe w'=>e = .returned (.tuple #[.agg Zr,.int .i64 (dB b)])/\Bw w w'
def GtC (w:Bb)(r:Rs Unit)(e:Ending)(w':Bb):Prop:=e = .returned (.int .i64 r.cd)/\Bw w w'
theorem dP (b:Bool):(dB b != 0)=true:=by cases b<;>decide
theorem aAu:∀(f:Nat) (t:Tm),(redI cA f t).1=none->(redI cA f t).2≠0
 | f,t,h=>by
  rw [redI] at h⊢;cases hp:cA t with
  | none=>rw [hp] at h;cases h
  | some p=>
   rw [hp] at h;cases f with
   | zero=>simp
   | succ f=>
    simp only at h⊢;cases hc:pB t p with
    | none=>simp
    | some u=>rw [hc] at h;exact aAu f u h
theorem aBn {s:Tm}{b:Bool}(hv:aE s=true)(h:jB s = .no b):b=false/\∃c,redI cA 200 s=(none,c)/\c≠0:=by
 unfold jB at h;rw [Av hv] at h;have hc:=aAu 200 s;cases hh:redI cA 200 s with
 | mk o c=>
  rw [hh] at h hc;cases o with
  | some o=>cases h
  | none=>injection h with h;exact ⟨h.symm,c,rfl,hc rfl⟩
theorem aCa {s o:Tm}{kind:Int}(h:jB s = .ok o)(hk:o.k=kind):sK s kind=some o:=by
 have:=cR h;unfold sK;rw [Av this.1,this.2.2];simp [hk]
theorem iS (k1 n1:Int)(s1:List Tm)(A1:Ba)(c1:Nat)(kind:Int)(r:Rs Tm)(w:Bb)(hv:aE (.mk k1 n1 s1)=true)(hs:bd (some (jB (.mk k1 n1 s1))) (lX kind)=some r)(hr:Rd w A1 0 s1) :
  Calls prog 107 #[.agg (Ro k1 n1 A1 s1.length c1),.int .i64 kind] w (qK w r):=by
 rcases aM hs with ⟨b,h1,rfl⟩|⟨o,h1,h2⟩
 ·obtain ⟨rfl,cc,hh,hc⟩:=aBn hv (Option.some.inj h1);have hH:=aD (λ(w:Bb) (hr:Rd w A1 0 s1)=>(iF k1 n1 s1 A1 c1 200 w hv Ac hr).mono λe w' h=>sZ h (k:=0) (n:=0) (ks:=[]) (c:=cc) (by rw [hh];rfl) (by rw [hh]));have qc:(cc != 0)=true:=by simpa using hc
  clear hs h1 hh hc hv;go_enter func107,ntmps107;go_wp2_with (go_at_call 51;refine (hH.out _ ((hr.alloc _).alloc _)).mono ?_;rintro e w1 ⟨A3,c3,rfl,hl3,r3,hb1⟩;have hZ:=jI hb1;have g1:Bw w w1:=bN bw2 hb1;obtain ⟨d0,d1,d2,e0,e1,e2⟩:=bZ hZ;have lz:=hZ.lt;have n1':w.heap.size+1≠w1.heap.size:=Ac);have y:=λ(o:Obj)=>(((((hZ.set_ 0 (.int .i64 0)).set_ 1 (.int .i64 0)).set_ 2 (.slice none 0 0)).alloc o:Blk _ _ Zr)).three
  refine bodyPost_ret (v:=.tuple #[.agg Zr,.int .i64 2]) (by simp [results,results107,go_sem,y,d0,d1,d2]) rfl ⟨rfl,?_⟩;exact (bV g1).alloc (by simp [World.setCell];exact g1.size) _
 ·obtain ⟨ko,no,os⟩:=o;by_cases hk:ko=kind
  ·subst hk;have h3:r = .ok (.mk ko no os):=by simpa [lX,Tm.k] using h2.symm
   subst h3;exact mI k1 n1 s1 A1 c1 ko no os w (aCa (Option.some.inj h1) rfl) hr
  ·have h3:r = .no true:=by simpa [lX,Tm.k,hk] using h2.symm
   subst h3;have hh:=(cR (Option.some.inj h1)).2.2;have hH:=aD (λ(w:Bb) (hr:Rd w A1 0 s1)=>(iF k1 n1 s1 A1 c1 200 w hv Ac hr).mono λe w' h=>sZ h (k:=ko) (n:=no) (ks:=os) (c:=0) (by rw [hh];rfl) (by rw [hh]));have qc:(ko != kind)=true:=by simpa using hk
   clear hs h1 hh hk hv h2;go_enter func107,ntmps107;go_wp2_with (go_at_call 51;refine (hH.out _ ((hr.alloc _).alloc _)).mono ?_;rintro e w1 ⟨A3,c3,rfl,hl3,r3,hb1⟩;have hZ:=jI hb1;have g1:Bw w w1:=bN bw2 hb1;obtain ⟨d0,d1,d2,e0,e1,e2⟩:=bZ hZ;have lz:=hZ.lt;have n1':w.heap.size+1≠w1.heap.size:=Ac);have y:=λ(o:Obj)=>(((((hZ.set_ 0 (.int .i64 0)).set_ 1 (.int .i64 0)).set_ 2 (.slice none 0 0)).alloc o:Blk _ _ Zr)).three
   refine bodyPost_ret (v:=.tuple #[.agg Zr,.int .i64 1]) (by simp [results,results107,go_sem,y,d0,d1,d2]) rfl ⟨rfl,?_⟩;exact (bV g1).alloc (by simp [World.setCell];exact g1.size) _
theorem kE (k1 n1:Int)(s1:List Tm)(A1:Ba)(c1:Nat)(k2 n2:Int)(s2:List Tm)(A2:Ba)(c2:Nat)(w:Bb)(hv1:aE (.mk k1 n1 s1)=true)(hv2:aE (.mk k2 n2 s2)=true)(hr1:Rd w A1 0 s1)(hr2:Rd w A2 0 s2) :
  Calls prog 97 #[.agg (Ro k1 n1 A1 s1.length c1),.agg (Ro k2 n2 A2 s2.length c2)] w (GtC w (tR (.mk k1 n1 s1) (.mk k2 n2 s2))):=by
 have hC:=aD (λ(w:Bb) (hr1:Rd w A1 0 s1) (hr2:Rd w A2 0 s2)=>qN k1 n1 s1 A1 c1 k2 n2 s2 A2 c2 200 w Ac hv1 hv2 hr1 hr2);unfold tR;rw [Av ⟨hv1,hv2⟩];by_cases h1:dJ 200 (.mk k1 n1 s1) (.mk k2 n2 s2)=1
 ·rw [Av h1];rw [h1] at hC;clear hv1 hv2 h1;go_enter func97,ntmps97;go_wp2_with (go_at_call 52;refine (hC.out _ ((hr1.alloc _).alloc _) ((hr2.alloc _).alloc _)).mono ?_;rintro e w1 ⟨rfl,hb1⟩);go_ret;exact ⟨rfl,bw2.trans (hb1.mono Ai)⟩
 rw [Aw h1];by_cases h2:dJ 200 (.mk k1 n1 s1) (.mk k2 n2 s2)=2
 ·rw [Av h2];rw [h2] at hC;clear hv1 hv2 h1 h2;go_enter func97,ntmps97;go_wp2_with (go_at_call 52;refine (hC.out _ ((hr1.alloc _).alloc _) ((hr2.alloc _).alloc _)).mono ?_;rintro e w1 ⟨rfl,hb1⟩);go_ret;exact ⟨rfl,bw2.trans (hb1.mono Ai)⟩
 rw [Aw h2];generalize dJ 200 (.mk k1 n1 s1) (.mk k2 n2 s2)=x at *
 have q1:(x==1)=false:=by simpa using h1
 have q2:(x==2)=false:=by simpa using h2
 clear hv1 hv2 h1 h2;go_enter func97,ntmps97;go_wp2_with (go_at_call 52;refine (hC.out _ ((hr1.alloc _).alloc _) ((hr2.alloc _).alloc _)).mono ?_;rintro e w1 ⟨rfl,hb1⟩);go_ret;exact ⟨rfl,bw2.trans (hb1.mono Ai)⟩
theorem dG (k1 n1:Int)(s1:List Tm)(A1:Ba)(c1:Nat)(w:Bb)(hM:aG s1<=1000000)(hv:aE (.mk k1 n1 s1)=false)(hr:Rd w A1 0 s1) :
  Calls prog 99 #[.agg (Ro k1 n1 A1 s1.length c1),.bool true] w λe w'=>e = .returned (.tuple #[.agg Zr,.int .i64 2])/\Bw w w':=by
 have hv':=aD hv;clear hv;go_enter func99,ntmps99;go_wp2_with (go_at_call 58;refine (bB k1 n1 s1 A1 c1 _ Ac ((hr.alloc _).alloc _)).mono ?_;rw [hv'.out];rintro e w1 ⟨rfl,hb1⟩;have hZ:=jI hb1;have g1:Bw w w1:=bN bw2 hb1;obtain ⟨d0,d1,d2,e0,e1,e2⟩:=bZ hZ);refine bodyPost_ret (v:=.tuple #[.agg Zr,.int .i64 2]) (by simp [results,results99,go_sem,d0,d1,d2]) rfl ⟨rfl,?_⟩;exact bV g1
theorem iJ (w:Bb):Calls prog 99 #[.agg Zr,.bool false] w λe w'=>e = .returned (.tuple #[.agg Zr,.int .i64 2])/\Bw w w':=by
 go_enter func99,ntmps99;go_wp2_with fail;refine bodyPost_ret (v:=.tuple #[.agg Zr,.int .i64 2]) (by simp [results,results99,go_sem]) rfl ⟨rfl,?_⟩;exact bw2
def TyX (fc:Nat)(ev:Array Value)(w:Bb)(ty:Nat->Option (Rs Tm)):Prop:=Clo fc ev/\∀(i:Nat) (r:Rs Tm),i<4->ty i=some r->∀w',Bw w w'->∀args,args=#[.int .i64 i]++ev->Calls prog fc args w' (qK w' r)
def okO (ty:Nat->Option (Rs Tm))(i:Nat):Option Tm:=match ty i with|some (.ok t)=>some t|_=>none
theorem xI {ty:Nat->Option (Rs Tm)}{i:Nat}{t:Tm}(h:ty i=some (.ok t)):okO ty i=some t:=by simp [okO,h]
theorem aSi {ty:Nat->Option (Rs Tm)}{i:Nat}{t:Tm}(h:okO ty i=some t):ty i=some (.ok t):=by
 unfold okO at h;split at h
 ·injection h with h;subst h;assumption
 ·cases h
theorem TyX.ok {fc:Nat}{ev:Array Value}{w:Bb}{ty:Nat->Option (Rs Tm)}(h:TyX fc ev w ty):TyOk fc ev w (okO ty):=
 ⟨h.1,λi k n ks hi ht w' hw args ha=>h.2 i _ hi (aSi ht) w' hw args ha⟩
theorem TyX.below {fc:Nat}{ev:Array Value}{w w':Bb}{ty:Nat->Option (Rs Tm)}(h:TyX fc ev w ty)(hb:Bw w w'):TyX fc ev w' ty:=⟨h.1,λi r hi ht w2 hw2=>h.2 i r hi ht w2 (hb.trans (hw2.mono hb.size))⟩
def tF (ty:Nat->Option (Rs Tm)):Prop:=∀i s,ty i=some (.ok s)->aE s=true
theorem aBv {o:Option (Rs Tm)}{kind:Int}{r:Rs Tm}(h:sL o kind=some r):(∃b,o=some (.no b)/\r = .no b)\/∃s,o=some (.ok s)/\bd (some (jB s)) (lX kind)=some r:=aM h
theorem aQe {s t:Tm}{kind:Int}(h:bd (some (jB s)) (lX kind)=some (.ok t)):sK s kind=some t:=by
 rcases aM h with ⟨b,_,h2⟩|⟨o,h1,h2⟩
 ·cases h2
 ·unfold lX at h2;split at h2
  ·injection h2 with h2;injection h2 with h2;subst h2;exact aCa (Option.some.inj h1) ‹_›
  ·injection h2 with h2;cases h2
theorem pM {ty:Nat->Option (Rs Tm)}{i:Nat}{kind:Int}{t:Tm}(h:sL (ty i) kind=some (.ok t)):fmS (okO ty i) kind=some t:=by
 rcases aBv h with ⟨b,_,h2⟩|⟨s,h1,h2⟩
 ·cases h2
 ·rw [xI h1];exact aQe h2
theorem aNu (C:Ba)(m cc:Nat)(k n:Int)(A:Ba)(la c fc:Nat)(ev:Array Value)(i:Nat)(hi:i<4)(kind:Int)(b:Bool)(ty:Nat->Option (Rs Tm))(w:Bb)(hs:sL (ty i) kind=some (.no b))(hT:TyX fc ev w ty)(hv:tF ty) :
  Calls prog 141 #[.agg #[.slice C m cc,.int .i64 k,.int .i64 n,.slice A la c,.func (.func fc) #[] ev],.int .i64 i,.int .i64 kind] w (qK w (.no b)):=by
 have qb:=dP b;obtain ⟨b2,b3,rfl,rfl⟩:=hT.1;all_goals
  rcases aBv hs with ⟨b',h1,h2⟩|⟨s,h1,h2⟩
  ·injection h2 with h2;subst h2;have h1':=aD h1;clear hs h1;go_enter func141,ntmps141;go_wp2_with (go_at_call 116;refine (hT.2 i _ hi h1'.out _ bw2 _ (by rfl)).mono ?_;rintro e w1 ⟨rfl,hb1⟩;have hZ:=jI hb1;have g1:Bw w w1:=bN bw2 hb1;obtain ⟨d0,d1,d2,e0,e1,e2⟩:=bZ hZ;have lz:=hZ.lt;have n1':w.heap.size+1≠w1.heap.size:=Ac)
   have y:=λ(o:Obj)=>(((((hZ.set_ 0 (.int .i64 0)).set_ 1 (.int .i64 0)).set_ 2 (.slice none 0 0)).alloc o:Blk _ _ Zr)).three
   refine bodyPost_ret (v:=.tuple #[.agg Zr,.int .i64 (dB b)]) (by simp [results,results141,go_sem,y,d0,d1,d2]) rfl ⟨rfl,?_⟩;exact (bV g1).alloc (by simp [World.setCell];exact g1.size) _
  ·obtain ⟨k1,n1,s1⟩:=s;have hv1:=aD (hv _ _ h1);have h1':=aD h1;have h2':=aD h2;clear hs h1 h2;go_enter func141,ntmps141;go_wp2_with (first
    | (go_at_call 107;have _t:=tok1;refine (iS k1 n1 s1 A1 c1 kind (.no b) _ hv1.out h2'.out (r1.alloc _)).mono ?_;rintro e w2 ⟨rfl,hb2⟩;have hZ2:=(hZ.alloc (.cells (Ro k1 n1 A1 s1.length c1) 32)).keep hb2;have g2:=(g1.alloc g1.size (.cells (Ro k1 n1 A1 s1.length c1) 32)).trans (hb2.mono (by have:=g1.size;simp;omega));obtain ⟨d0,d1,d2,e0,e1,e2⟩:=bZ hZ2)
    | (go_at_call 116;refine (hT.2 i _ hi h1'.out _ bw2 _ (by rfl)).mono ?_;rintro e w1 ⟨A1,c1,rfl,hl1,r1,hb1⟩;have hZ:=jI hb1;have g1:Bw w w1:=bN bw2 hb1;have lz:=hZ.lt;have tok1:=trivial))
   refine bodyPost_ret (v:=.tuple #[.agg Zr,.int .i64 (dB b)]) (by simp [results,results141,go_sem,d0,d1,d2]) rfl ⟨rfl,?_⟩;exact bV g2
theorem jN (C:Ba)(m cc:Nat)(k n:Int)(A:Ba)(la c fc:Nat)(ev:Array Value)(i:Nat)(hi:i<4)(kind:Int)(r:Rs Tm)(ty:Nat->Option (Rs Tm))(w:Bb)(hs:sL (ty i) kind=some r)(hT:TyX fc ev w ty)(hv:tF ty) :
  Calls prog 141 #[.agg #[.slice C m cc,.int .i64 k,.int .i64 n,.slice A la c,.func (.func fc) #[] ev],.int .i64 i,.int .i64 kind] w (qK w r):=by
 cases r with
 | no b=>exact aNu C m cc k n A la c fc ev i hi kind b ty w hs hT hv
 | ok t=>
  have h:=pM hs;obtain ⟨n3,s3,rfl,_⟩:=oP h;exact iN C m cc k n A la c fc ev i hi kind n3 s3 _ w h hT.ok
def GtI (w:Bb):Rs Int->Ending->Bb->Prop
 | .ok l=>λe w'=>e = .returned (.tuple #[.int .i64 l,.int .i64 0])/\Bw w w'
 | .no b=>λe w'=>e = .returned (.tuple #[.int .i64 0,.int .i64 (dB b)])/\Bw w w'
theorem aBp {o:Option (Rs Tm)}{r:Rs Int}(h:qJ o=some r):(∃b,sL o 2=some (.no b)/\r = .no b)\/∃s3 l,sL o 2=some (.ok (.mk 2 l s3))/\r = .ok l:=by
 rcases aM h with ⟨b,h1,rfl⟩|⟨s,h1,h2⟩
 ·exact .inl ⟨b,by rw [sL,h1];rfl,rfl⟩
 ·rcases aM h2 with ⟨b,h3,rfl⟩|⟨t,h3,h4⟩
  ·exact .inl ⟨b,by rw [sL,h1,pR,h3];rfl,rfl⟩
  ·obtain ⟨kt,nt,st⟩:=t;unfold tB at h4;split at h4
   ·rename_i hk;injection h4 with h4;obtain rfl:kt=2:=hk;exact .inr ⟨st,nt,by rw [sL,h1,pR,h3];rfl,h4.symm⟩
   ·rename_i hk;injection h4 with h4;exact .inl ⟨true,by rw [sL,h1,pR,h3,pR,lX,Aw hk],h4.symm⟩
theorem gH (C:Ba)(m cc:Nat)(k n:Int)(A:Ba)(la c fc:Nat)(ev:Array Value)(i:Nat)(hi:i<4)(r:Rs Int)(ty:Nat->Option (Rs Tm))(w:Bb)(hs:qJ (ty i)=some r)(hT:TyX fc ev w ty)(hv:tF ty) :
  Calls prog 155 #[.agg #[.slice C m cc,.int .i64 k,.int .i64 n,.slice A la c,.func (.func fc) #[] ev],.int .i64 i] w (GtI w r):=by
 rcases aBp hs with ⟨b,h1,rfl⟩|⟨s3,l,h1,rfl⟩
 all_goals
  have h1':=aD h1;clear hs h1;go_enter func155,ntmps155
 ·go_wp2_with (go_at_call 141;refine (jN C m cc k n A la c fc ev i hi 2 _ ty _ h1'.out (hT.below bw1) hv).mono ?_;rintro e w1 ⟨rfl,hb1⟩;have g1:Bw w w1:=bN bw1 hb1);go_ret2;exact ⟨rfl,g1.alloc g1.size _⟩
 ·go_wp2_with (go_at_call 141;refine (jN C m cc k n A la c fc ev i hi 2 _ ty _ h1'.out (hT.below bw1) hv).mono ?_;rintro e w1 ⟨A3,c3,rfl,hl3,r3,hb1⟩;have g1:Bw w w1:=bN bw1 hb1);go_ret2;exact ⟨rfl,g1.alloc g1.size _⟩
theorem iA (C:Ba)(m cc:Nat)(k n:Int)(A:Ba)(la c fc:Nat)(ev:Array Value)(i:Nat)(hi:i<4)(k2 n2:Int)(s2:List Tm)(A2:Ba)(c2:Nat)(r:Rs Unit)(ty:Nat->Option (Rs Tm))(w:Bb)(hs:lC (ty i) (.mk k2 n2 s2)=some r)(hT:TyX fc ev w ty)(hv:tF ty)(hv2:aE (.mk k2 n2 s2)=true)(hr2:Rd w A2 0 s2) :
  Calls prog 138 #[.agg #[.slice C m cc,.int .i64 k,.int .i64 n,.slice A la c,.func (.func fc) #[] ev],.int .i64 i,.agg (Ro k2 n2 A2 s2.length c2)] w (GtC w r):=by
 obtain ⟨b2,b3,rfl,rfl⟩:=hT.1;all_goals
  rcases aM hs with ⟨b,h1,rfl⟩|⟨s,h1,h2⟩
  ·have qb:=dP b;have h1':=aD h1;clear hs h1;go_enter func138,ntmps138;go_wp2_with (go_at_call 116;refine (hT.2 i _ hi h1'.out _ bw2 _ (by rfl)).mono ?_;rintro e w1 ⟨rfl,hb1⟩;have g1:Bw w w1:=bN bw2 hb1);go_ret;exact ⟨rfl,g1.alloc g1.size _⟩
  ·obtain ⟨k1,n1,s1⟩:=s;have hv1:=aD (hv _ _ h1);have h1':=aD h1;obtain rfl:=Option.some.inj h2;have hv2':=aD hv2;clear hs h1 h2 hv2;go_enter func138,ntmps138;go_wp2_with (first
    | (go_at_call 97;have _t:=tok1;refine (kE k1 n1 s1 A1 c1 k2 n2 s2 A2 c2 _ hv1.out hv2'.out (r1.alloc _) ((hr2.below g1).alloc _)).mono ?_;rintro e w2 ⟨rfl,hb2⟩;have g2:=(g1.alloc g1.size (.cells (Ro k1 n1 A1 s1.length c1) 32)).trans (hb2.mono (by have:=g1.size;simp;omega)))
    | (go_at_call 116;refine (hT.2 i _ hi h1'.out _ bw2 _ (by rfl)).mono ?_;rintro e w1 ⟨A1,c1,rfl,hl1,r1,hb1⟩;have hZ:=jI hb1;have g1:Bw w w1:=bN bw2 hb1;have lz:=hZ.lt;obtain ⟨d0,d1,d2⟩:=hZ.three;have tok1:=trivial))
   go_ret;exact ⟨rfl,g2⟩
theorem nK (C:Ba)(m cc:Nat)(k n:Int)(A:Ba)(la c fc:Nat)(ev:Array Value)(i:Nat)(hi:i<4)(k2 n2:Int)(s2:List Tm)(A2:Ba)(c2:Nat)(r:Rs Unit)(ty:Nat->Option (Rs Tm))(w:Bb)(hs:lC (ty i) (.mk k2 n2 s2)=some r)(hT:TyX fc ev w ty)(hv:tF ty)(hv2:aE (.mk k2 n2 s2)=true)(hr2:Rd w A2 0 s2) :
  Calls prog 142 #[.agg #[.slice C m cc,.int .i64 k,.int .i64 n,.slice A la c,.func (.func fc) #[] ev],.int .i64 i,.agg (Ro k2 n2 A2 s2.length c2),.int .i64 0] w (GtC w r):=by
 have hs':=aD hs;have hv':=aD hv2;clear hs hv2;go_enter func142,ntmps142;go_wp2_with (go_at_call 138;refine (iA C m cc k n A la c fc ev i hi k2 n2 s2 A2 c2 r ty _ hs'.out (hT.below bw2) hv hv'.out ((hr2.alloc _).alloc _)).mono ?_;rintro e w1 ⟨rfl,hb1⟩;have g1:Bw w w1:=bN bw2 hb1);go_ret;exact ⟨rfl,g1⟩
theorem lH (C:Ba)(m cc:Nat)(k n:Int)(A:Ba)(la c fc:Nat)(ev:Array Value)(i:Nat)(hi:i<4)(b:Bool)(k2 n2:Int)(A2:Ba)(l2 c2:Nat)(w:Bb) :
  Calls prog 142 #[.agg #[.slice C m cc,.int .i64 k,.int .i64 n,.slice A la c,.func (.func fc) #[] ev],.int .i64 i,.agg (Ro k2 n2 A2 l2 c2),.int .i64 (dB b)] w (GtC w (.no b)):=by
 have qb:=dP b;go_enter func142,ntmps142;go_wp2_with fail;go_ret;exact ⟨rfl,bw2⟩
theorem oC {o:Option (Rs Tm)}{t:Tm}{k:Int}(h:sL o k=some (.ok t)):aE t=true/\t.k=k:=by
 rcases aBv h with ⟨b,_,h2⟩|⟨s,h1,h2⟩
 ·cases h2
 ·rcases aM h2 with ⟨b,_,h3⟩|⟨o,h3,h4⟩
  ·cases ‹Rs.ok _=Rs.no _›
  ·unfold lX at h4;split at h4
   ·injection h4 with h4;injection h4 with h4;subst h4;exact ⟨(cR (Option.some.inj h3)).2.1,‹_›⟩
   ·injection h4 with h4;cases h4
theorem wT {k n:Int}{ks:List Tm}(h:aE (.mk k n ks)=true)(hk:aX k=2):∃ka na sa kb nb sb,ks=[.mk ka na sa,.mk kb nb sb]:=by
 obtain ⟨⟨ka,na,sa⟩,⟨kb,nb,sb⟩,rfl⟩:=kP (l:=ks) (by have:=(bD h).1;omega);exact ⟨ka,na,sa,kb,nb,sb,rfl⟩
theorem uY (C:Ba)(m cc:Nat)(k n:Int)(A:Ba)(la c fc:Nat)(ev:Array Value)(i:Nat)(hi:i<4)(k2 n2:Int)(s2:List Tm)(A2:Ba)(c2:Nat)(r:Rs Unit)(ty:Nat->Option (Rs Tm))(w:Bb)(hs:faV (ty i) (.mk k2 n2 s2)=some r)(hT:TyX fc ev w ty)(hv:tF ty)(hv2:aE (.mk k2 n2 s2)=true)(hr2:Rd w A2 0 s2) :
  Calls prog 156 #[.agg #[.slice C m cc,.int .i64 k,.int .i64 n,.slice A la c,.func (.func fc) #[] ev],.int .i64 i,.agg (Ro k2 n2 A2 s2.length c2)] w (GtC w r):=by
 rcases aM hs with ⟨b,h1,rfl⟩|⟨t,h1,hs⟩
 ·have qb:=dP b;have h1':=aD h1;clear hs h1 hv2;go_enter func156,ntmps156;go_wp2_with (go_at_call 141;refine (jN C m cc k n A la c fc ev i hi 3 _ ty _ h1'.out (hT.below bw2) hv).mono ?_;rintro e w1 ⟨rfl,hb1⟩;have g1:Bw w w1:=bN bw2 hb1);go_ret;exact ⟨rfl,g1.alloc g1.size _⟩
 obtain ⟨hvt,hk⟩:=oC h1;obtain ⟨kt,n3,st⟩:=t;obtain rfl:kt=3:=hk;obtain ⟨ka,na,sa,kb,nb,sb,rfl⟩:=wT hvt rfl;have hva:=aD (aP hvt (t:=.mk ka na sa) Ag);have hvb:=aD (aP hvt (t:=.mk kb nb sb) Ag);have hv2':=aD hv2;have h1':=aD h1;have hk0:aI [Tm.mk ka na sa,.mk kb nb sb] 0 = .mk ka na sa:=rfl;have hk1:aI [Tm.mk ka na sa,.mk kb nb sb] 1 = .mk kb nb sb:=rfl;simp only [Tm.ks,hk0,hk1] at hs;have hcases:(∃b,tR (.mk ka na sa) (.mk k2 n2 s2) = .no b/\r = .no b)\/∃r',tR (.mk ka na sa) (.mk k2 n2 s2) = .ok ()/\bd (some (jB (.mk kb nb sb))) (lX 2)=some r'/\r.cd=r'.cd:=by
  rcases aM hs with ⟨b,h2,rfl⟩|⟨u,h2,h3⟩
  ·exact .inl ⟨b,Option.some.inj h2,rfl⟩
  ·refine .inr ?_;rcases aM h3 with ⟨b,h4,rfl⟩|⟨o,h4,h5⟩
   ·exact ⟨.no b,Option.some.inj h2,by rw [h4];rfl,rfl⟩
   ·unfold aKg at h5;split at h5
    ·rename_i ho;exact ⟨.ok o,Option.some.inj h2,by rw [h4,pR,lX,Av ho],by injection h5 with h5;subst h5;rfl⟩
    ·rename_i ho;exact ⟨.no true,Option.some.inj h2,by rw [h4,pR,lX,Aw ho],by injection h5 with h5;subst h5;rfl⟩
 clear hs h1 hv2 hvt hk0 hk1;rcases hcases with ⟨b,hsm,rfl⟩|⟨r',hsm,hsh,hcd⟩
 all_goals
  replace hsm:=aD hsm;go_enter func156,ntmps156;go_upto_region 4 with (go_at_call 141;refine (jN C m cc k n A la c fc ev i hi 3 _ ty _ h1'.out (hT.below bw2) hv).mono ?_;rintro e w1 ⟨A3,c3,rfl,hl3,r3,hb1⟩;have hY:Blk w1 (w.heap.size+1) (Ro k2 n2 A2 s2.length c2):=jI hb1;have g1:Bw w w1:=bN bw2 hb1;have r2:=hr2.below g1)
  refine aU ?_;intro wx hwx;have hT7x:Blk wx w1.heap.size (Ro 3 n3 A3 2 c3):=by rw [hwx];exact aC _ 32 _ rfl
  have hYx:Blk wx (w.heap.size+1) (Ro k2 n2 A2 s2.length c2):=by rw [hwx];exact hY.alloc _
  have gx:Bw w wx:=by rw [hwx];exact g1.alloc g1.size _
  have r3x:Rd wx A3 0 [.mk ka na sa,.mk kb nb sb]:=by rw [hwx];exact r3.alloc _
  have r2x:Rd wx A2 0 s2:=by rw [hwx];exact r2.alloc _
  clear hwx;obtain ⟨ba,oa,Aa,ca,rfl,i1,i2,i3,hla,ra⟩:=mU r3x;obtain ⟨Ab,cb,j1,j2,j3,hlb,rb⟩:=sB r3x;simp only [Nat.zero_mul,Nat.add_zero,Nat.one_mul,Nat.reduceMul] at i1 i2 i3 j1 j2 j3;obtain ⟨u0,u1,u2⟩:=fW hT7x;obtain ⟨v0,v1,v2⟩:=fW hYx;obtain ⟨y0,y1,y2⟩:=pG i1 i2 i3;refine eK wx [6] [0,1,2,3,4] 7 2 (lT:=[_,_,_,_,_]) ?_;intro q0 bq0;refine bU (aD ?_);refine aZ 5 ?_
 ·have qb:=dP b;go_wp2_with (go_at_call 97;refine (kE ka na sa Aa ca k2 n2 s2 A2 c2 _ hva.out hv2'.out (ra.below bq0) (r2x.below bq0)).mono ?_;rw [hsm.out];rintro e q1 ⟨he,hbq1⟩;obtain rfl:e = .returned (.int .i64 (dB b)):=he);refine aV bq0 hbq1 ?_;intro bq1 lq1;refine cK [6] (lB:=[_]) ?_;have gz:=gx.trans (bq1.mono gx.size);go_wp2_with fail;go_ret;exact ⟨rfl,gz⟩
 ·go_wp2_with (go_at_call 97;refine (kE ka na sa Aa ca k2 n2 s2 A2 c2 _ hva.out hv2'.out (ra.below bq0) (r2x.below bq0)).mono ?_;rw [hsm.out];rintro e q1 ⟨he,hbq1⟩;obtain rfl:e = .returned (.int .i64 0):=he);refine aV bq0 hbq1 ?_;intro bq1 lq1;refine cK [6] (lB:=[_]) ?_;have hT7:=hT7x.keep bq1;have gz:=gx.trans (bq1.mono gx.size);have rbz:=rb.below bq1;obtain ⟨p0,p1,p2⟩:=hT7.three;have lp:=hT7.lt;obtain ⟨z0,z1,z2⟩:=xW bq1 j1 j2 j3;obtain ⟨kr,hkr⟩:∃x,x=r.cd:=⟨_,rfl⟩;rw [<- hkr] at hcd;cases r' with
  | no b=>
   go_wp2_with (go_at_call 107;refine (iS kb nb sb Ab cb 2 _ _ hvb.out hsh rbz).mono ?_;rintro e w9 ⟨rfl,hb9⟩);go_ret;exact ⟨by rw [<- hkr,hcd];rfl,gz.trans (hb9.mono gz.size)⟩
  | ok o=>
   obtain ⟨ko,no,so⟩:=o;go_wp2_with (go_at_call 107;refine (iS kb nb sb Ab cb 2 _ _ hvb.out hsh rbz).mono ?_;rintro e w9 ⟨A9,c9,rfl,hl9,r9,hb9⟩);go_ret;exact ⟨by rw [<- hkr,hcd];rfl,gz.trans (hb9.mono gz.size)⟩
theorem xJ {ty:Nat->Option (Rs Tm)}{i:Nat}{l:Int}(h:qJ (ty i)=some (.ok l)):lvS (okO ty i)=some l:=by
 rcases aBp h with ⟨b,_,h2⟩|⟨s3,l',h1,h2⟩
 ·cases h2
 ·injection h2 with h2;subst h2;have h3:=pM h1;cases hs:okO ty i with
  | none=>rw [hs] at h3;cases h3
  | some s=>rw [hs] at h3;show (sK s 2).map (λh=>h.n)=some l;rw [show sK s 2=some (.mk 2 l s3) from h3];rfl
theorem xM (C:Ba)(m cc:Nat)(k n:Int)(A:Ba)(c fc:Nat)(ev:Array Value)(la:Nat)(r:Rs Tm)(ty:Nat->Option (Rs Tm))(w:Bb)(hs:(bd (qJ (ty 0)) λi=>bd (qJ (ty 1)) λj=>some (.ok (.mk 2 (if j<i then i else j) [])))=some r)(hT:TyX fc ev w ty)(hv:tF ty) :
  Calls prog 139 #[.agg #[.slice C m cc,.int .i64 k,.int .i64 n,.slice A la c,.func (.func fc) #[] ev]] w (qK w r):=by
 rcases aM hs with ⟨b,h1,rfl⟩|⟨i,h1,hs⟩
 ·have qb:=dP b;replace h1:=aD h1;clear hs;go_enter func139,ntmps139;go_wp2_with (go_at_call 155;refine (gH C m cc k n A la c fc ev 0 Ac _ ty _ h1.out (hT.below bw2) hv).mono ?_;rintro e w1 ⟨rfl,hb1⟩;have hZ1:=jI hb1;have g1:Bw w w1:=bN bw2 hb1;obtain ⟨d0,d1,d2,e0,e1,e2⟩:=bZ hZ1);refine bodyPost_ret (v:=.tuple #[.agg Zr,.int .i64 (dB b)]) (by simp [results,results139,go_sem,d0,d1,d2]) rfl ⟨rfl,?_⟩;exact bV g1
 rcases aM hs with ⟨b,h2,rfl⟩|⟨j,h2,hs⟩
 ·have qb:=dP b;replace h1:=aD h1;replace h2:=aD h2;clear hs;go_enter func139,ntmps139;go_wp2_with (first
   | (go_at_call 155;have _t:=tok1;refine (gH C m cc k n A la c fc ev 1 Ac _ ty _ h2.out (hT.below g1) hv).mono ?_;rintro e w2 ⟨rfl,hb2⟩;have hZ2:=hZ1.keep hb2;have g2:=g1.trans (hb2.mono g1.size);obtain ⟨d0,d1,d2,e0,e1,e2⟩:=bZ hZ2)
   | (go_at_call 155;refine (gH C m cc k n A la c fc ev 0 Ac _ ty _ h1.out (hT.below bw2) hv).mono ?_;rintro e w1 ⟨rfl,hb1⟩;have hZ1:=jI hb1;have hJ1:=((aC w 105 #[.slice C m cc,.int .i64 k,.int .i64 n,.slice A la c,.func (.func fc) #[] ev] rfl).alloc (.cells Zr 32)).keep hb1;have g1:Bw w w1:=bN bw2 hb1;have j0:=hJ1.at_ (i:=0) rfl;have j1:=hJ1.at_ (i:=1) rfl;have j2:=hJ1.at_ (i:=2) rfl;have j3:=hJ1.at_ (i:=3) rfl;have j4:=hJ1.at_ (i:=4) rfl;have tok1:=trivial))
  refine bodyPost_ret (v:=.tuple #[.agg Zr,.int .i64 (dB b)]) (by simp [results,results139,go_sem,d0,d1,d2]) rfl ⟨rfl,?_⟩;exact bV g2
 obtain rfl:=(Option.some.inj hs).symm;have hmx:(if j<i then i else j)=(if i<j then j else i):=by split<;>split<;>omega
 rw [hmx];exact aGk C m cc k n A c fc ev la i j _ w (xJ h1) (xJ h2) hT.ok
theorem zD (C:Ba)(m cc:Nat)(k n:Int)(A:Ba)(c fc:Nat)(ev:Array Value)(l ka na:Int)(sa:List Tm)(a1:Tm)(kb nb:Int)(sb:List Tm)(ty:Nat->Option Tm)(w:Bb)(h1:lvS (ty 0)=some l)(h2:ty 1=some (.mk kb nb sb))(hv:aE (.mk 3 0 [.mk ka na sa,.mk kb nb sb])=false)(hva:aE (.mk ka na sa)=true)(hvb:aE (.mk kb nb sb)=true)(hT:TyOk fc ev w ty)(hr:Rd w A 0 [.mk ka na sa,a1]) :
  Calls prog 140 #[.agg #[.slice C m cc,.int .i64 k,.int .i64 n,.slice A 2 c,.func (.func fc) #[] ev]] w (qK w (.no false)):=by
 obtain ⟨b2,b3,rfl,rfl⟩:=hT.1;all_goals
  have hv':=aD hv;have hsz:Hid (aG [Tm.mk ka na sa,.mk kb nb sb]<=1000000):=aD (by have z1:=aH  hva;have z2:=aH  hvb;simp only [aG,Tm.size];omega);replace h1:=aD h1;replace h2:=aD h2;clear hv hva hvb;obtain ⟨ba,oa,Aa,ca,rfl,i1,i2,i3,hla,ra0⟩:=mU hr;simp only [Nat.zero_mul,Nat.add_zero,Nat.one_mul,Nat.reduceMul] at i1 i2 i3;go_enter func140,ntmps140;go_upto_region 7 with (first
   | (go_at_call 116;have _t:=tok1;refine (hT.2 1 kb nb sb Ac h2.out _ g1 _ (by rfl)).mono ?_;rintro e w2 ⟨Ab,cb,rfl,hlb,rb1,hb2⟩;have hZ2:=hZ1.keep hb2;have hJ2:=hJ1.keep hb2;have g2:=g1.trans (hb2.mono g1.size))
   | (go_at_call 155;refine (jR C m cc k n _ 2 c 116 #[.pointer (some ⟨b2,0,none⟩),.pointer (some ⟨b3,0,none⟩)] 0 Ac l ty _ h1.out (hT.below bw2)).mono ?_;rintro e w1 ⟨rfl,hb1⟩;have hZ1:=jI hb1;have hJ1:=((aC w 105 #[.slice C m cc,.int .i64 k,.int .i64 n,.slice (some ⟨ba,oa,none⟩) 2 c,.func (.func 116) #[] #[.pointer (some ⟨b2,0,none⟩),.pointer (some ⟨b3,0,none⟩)]] rfl).alloc (.cells Zr 32)).keep hb1;have g1:Bw w w1:=bN bw2 hb1;have j0:=hJ1.at_ (i:=0) rfl;have j1:=hJ1.at_ (i:=1) rfl;have j2:=hJ1.at_ (i:=2) rfl;have j3:=hJ1.at_ (i:=3) rfl;have j4:=hJ1.at_ (i:=4) rfl;have tok1:=trivial))
  refine aU ?_;intro wx hwx;have hT6:Blk wx w2.heap.size (Ro kb nb Ab sb.length cb):=by rw [hwx];exact aC _ 32 _ rfl
  have hZx:=(show Blk wx (w.heap.size+1) _ by rw [hwx];exact hZ2.alloc _);have hJx:=(show Blk wx w.heap.size _ by rw [hwx];exact hJ2.alloc _);have gx:Bw w wx:=by rw [hwx];exact g2.alloc g2.size _
  have rb:Rd wx Ab 0 sb:=by rw [hwx];exact rb1.alloc _
  clear hwx;have ra:=ra0.below gx;have u3:=aF (hJx.at_ (i:=3) rfl);obtain ⟨v0,v1,v2⟩:=fW hT6;have y0:=aF ((cM gx) _ _ i1);have y1:=aF ((cM gx) _ _ i2);have y2:=aF ((cM gx) _ _ i3);go_cut [7,8] (λvc vp wy=>∃gz:Nat,vp = .pointer (some ⟨gz,0,none⟩)/\vc = .int .i64 2/\Blk wy gz Zr/\Bw wx wy/\wx.heap.size<=gz)
  case first=>
   refine eK wx [9,10,11,13,14] [0,1,2,3,4,5] 15 9 (lT:=[_,_,_,_,_,_]) ?_;intro q0 bq0;refine bU (aD ?_);refine mW 6 12 ?_ ?_
   ·go_wp2_with fail;refine iU ?_;intro q1 hbq1 zq1 seq1;have rq1:Rd q1 (some ⟨q0.heap.size,0,none⟩) 0 [.mk ka na sa,.mk kb nb sb]:=dW (s0:=sa) (s1:=sb) zq1 hla hlb ((ra.below bq0).below hbq1) ((rb.below bq0).below hbq1);refine aV bq0 hbq1 ?_;intro bq1 lq1;refine mW 7 12 ?_ ?_
    ·go_wp2_with (go_at_call 71;refine (aQ 3 _ ⟨_,_,_,rfl⟩ _).mono ?_;rintro e q2 ⟨rfl,hbq2⟩);have Pq2:=rq1.below hbq2;refine aV bq1 hbq2 ?_;intro bq2 lq2;refine mW 8 12 ?_ ?_
     ·go_wp2_with (go_at_call 99;refine (dG 3 0 [.mk ka na sa,.mk kb nb sb] _ 2 _ hsz.out hv'.out Pq2).mono ?_;rintro e q3 ⟨rfl,hbq3⟩);have Pq3:=Pq2.below hbq3;refine aV bq2 hbq3 ?_;intro bq3 lq3;refine fB [9,10,11] 3 (lT:=[_,_,_]) ?_;refine bU (aD ?_);refine aZ 12 ?_
      ·go_wp2_with fail;refine iU ?_;intro q4 hbq4 zq4 seq4;have Pq4:=Pq3.below hbq4;refine aV bq3 hbq4 ?_;intro bq4 lq4;refine cK [13,14] (lB:=[_,_]) ?_;obtain ⟨d0,d1,d2,e0,e1,e2⟩:=bZ zq4;have szb:wx.heap.size<=q3.heap.size:=by first|exact bq0.size|exact bq3.size
       go_wp2_with fail;go_meet
       exact ⟨q3.heap.size,rfl,rfl,((zq4.set_ 0 _).set_ 1 _).set_ 2 _,((bq4.setCell szb _).setCell szb _).setCell szb _,szb⟩
     ·go_wp2_with fail;refine iU ?_;intro q5 hbq5 zq5 seq5;have Pq5:=Pq2.below hbq5;refine aV bq2 hbq5 ?_;intro bq5 lq5;refine aZ 8 ?_
      ·go_wp2_with (go_at_call 99;refine (dG 3 0 [.mk ka na sa,.mk kb nb sb] _ 2 _ hsz.out hv'.out Pq5).mono ?_;rintro e q6 ⟨rfl,hbq6⟩);have Pq6:=Pq5.below hbq6;have Zq6:=zq5.keep hbq6;refine aV bq5 hbq6 ?_;intro bq6 lq6;refine fB [9,10,11] 2 (lT:=[_,_,_]) ?_;refine bU (aD ?_);refine cK [13,14] (lB:=[_,_]) ?_;obtain ⟨d0,d1,d2,e0,e1,e2⟩:=bZ Zq6;have szb:wx.heap.size<=q2.heap.size:=by first|exact bq0.size|exact bq2.size
       go_wp2_with fail;go_meet
       exact ⟨q2.heap.size,rfl,rfl,((Zq6.set_ 0 _).set_ 1 _).set_ 2 _,((bq6.setCell szb _).setCell szb _).setCell szb _,szb⟩
    ·go_wp2_with fail;refine iU ?_;intro q7 hbq7 zq7 seq7;have Pq7:=rq1.below hbq7;refine aV bq1 hbq7 ?_;intro bq7 lq7;refine aZ 7 ?_
     ·go_wp2_with (go_at_call 71;refine (aQ 3 _ ⟨_,_,_,rfl⟩ _).mono ?_;rintro e q8 ⟨rfl,hbq8⟩);have Pq8:=Pq7.below hbq8;have Zq8:=zq7.keep hbq8;refine aV bq7 hbq8 ?_;intro bq8 lq8;refine aZ 8 ?_
      ·go_wp2_with (go_at_call 99;refine (dG 3 0 [.mk ka na sa,.mk kb nb sb] _ 2 _ hsz.out hv'.out Pq8).mono ?_;rintro e q9 ⟨rfl,hbq9⟩);have Pq9:=Pq8.below hbq9;have Zq9:=Zq8.keep hbq9;refine aV bq8 hbq9 ?_;intro bq9 lq9;refine fB [9,10,11] 2 (lT:=[_,_,_]) ?_;refine bU (aD ?_);refine cK [13,14] (lB:=[_,_]) ?_;obtain ⟨d0,d1,d2,e0,e1,e2⟩:=bZ Zq9;have szb:wx.heap.size<=q1.heap.size:=by first|exact bq0.size|exact bq1.size
       go_wp2_with fail;go_meet
       exact ⟨q1.heap.size,rfl,rfl,((Zq9.set_ 0 _).set_ 1 _).set_ 2 _,((bq9.setCell szb _).setCell szb _).setCell szb _,szb⟩
   ·go_wp2_with fail;refine iU ?_;intro q10 hbq10 zq10 seq10;refine aV bq0 hbq10 ?_;intro bq10 lq10;refine aZ 6 ?_
    ·go_wp2_with fail;refine iU ?_;intro q11 hbq11 zq11 seq11;have rq11:Rd q11 (some ⟨q10.heap.size,0,none⟩) 0 [.mk ka na sa,.mk kb nb sb]:=dW (s0:=sa) (s1:=sb) zq11 hla hlb ((ra.below bq10).below hbq11) ((rb.below bq10).below hbq11);have Zq11:=zq10.keep hbq11;refine aV bq10 hbq11 ?_;intro bq11 lq11;refine aZ 7 ?_
     ·go_wp2_with (go_at_call 71;refine (aQ 3 _ ⟨_,_,_,rfl⟩ _).mono ?_;rintro e q12 ⟨rfl,hbq12⟩);have Zq12:=Zq11.keep hbq12;have Pq12:=rq11.below hbq12;refine aV bq11 hbq12 ?_;intro bq12 lq12;refine aZ 8 ?_
      ·go_wp2_with (go_at_call 99;refine (dG 3 0 [.mk ka na sa,.mk kb nb sb] _ 2 _ hsz.out hv'.out Pq12).mono ?_;rintro e q13 ⟨rfl,hbq13⟩);have Zq13:=Zq12.keep hbq13;have Pq13:=Pq12.below hbq13;refine aV bq12 hbq13 ?_;intro bq13 lq13;refine fB [9,10,11] 2 (lT:=[_,_,_]) ?_;refine bU (aD ?_);refine cK [13,14] (lB:=[_,_]) ?_;obtain ⟨d0,d1,d2,e0,e1,e2⟩:=bZ Zq13;have szb:wx.heap.size<=q0.heap.size:=by first|exact bq0.size|exact bq0.size
       go_wp2_with fail;go_meet
       exact ⟨q0.heap.size,rfl,rfl,((Zq13.set_ 0 _).set_ 1 _).set_ 2 _,((bq13.setCell szb _).setCell szb _).setCell szb _,szb⟩
  case rest=>
   obtain ⟨gz,rfl,rfl,hTz,hxy,hgz⟩:=hcut;have gy:=gx.trans (hxy.mono gx.size);have hZy:=hZx.keep hxy;have hJy:=hJx.keep hxy;have j0:=hJy.at_ (i:=0) rfl;have j1:=hJy.at_ (i:=1) rfl;have j2:=hJy.at_ (i:=2) rfl;have j3:=hJy.at_ (i:=3) rfl;have j4:=hJy.at_ (i:=4) rfl;obtain ⟨p0,p1,p2⟩:=hTz.three;have lzz:=hTz.lt;obtain ⟨d0,d1,d2,e0,e1,e2,lz9⟩:=dN hZy;go_wp2_with fail;have hyy:=λ(o:Obj)=>(((((hZy.set_ 0 (.int .i64 0)).set_ 1 (.int .i64 0)).set_ 2 (.slice none 0 0)).alloc o:Blk _ _ Zr)).three
   refine bodyPost_ret (v:=.tuple #[.agg Zr,.int .i64 2]) (by simp [results,results140,go_sem,hyy,d0,d1,d2]) rfl ⟨rfl,?_⟩;first|exact (bV gy).alloc (by simp [World.setCell];exact gy.size) _|exact bV gy
end Go.Proofs.YtjlaenhcemacdaaGreat
