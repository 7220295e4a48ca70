/- Parts of the proof. No condition. -/
import Derived.Test.YtjlaenhcemacdaaGreatK8
import Derived.Deep.RegionHeld3
import Derived.Deep.DeepCutAuto
open Go.Proofs.Tryz
namespace Go.Proofs.YtjlaenhcemacdaaGreat
open Go.RowKit
set_option maxHeartbeats 8000000
set_option maxRecDepth 100000
set_option linter.unusedSimpArgs false
set_option linter.unusedVariables false
def aGe (v:Tm)(m:Nat)(w:Bb)(e:Ending)(w':Bb):Prop:=∃k n ks,v = .mk k n ks/\aVg (λ_=>False) w k n ks e w'/\aG ks+1<=m
theorem yA (n:Int)(t0 t1 t2 t3:Tm)(A:Ba)(c:Nat)(w:Bb)(hM:aG [t0,t1,t2,t3]<=400)(hrd:rdx 9 [t0,t1,t2,t3]=2)(hr:Rd w A 0 [t0,t1,t2,t3]) :
  Calls prog 128 #[.agg #[.int .i64 9,.int .i64 n,.slice A ([t0,t1,t2,t3]:List Tm).length c]] w (aGe t1 190000 w):=by
 have hrd:=aD hrd;obtain ⟨b,off,k1,n1,ks1,A1,c1,hA,hk1,p1,q1,r1,hl1,hr1⟩:=hr.at_ (j:=1) Ag;have hk1:t1 = .mk k1 n1 ks1:=hk1;subst hk1 hA;simp only [Nat.reduceMul,Nat.zero_mul,Nat.add_zero] at p1 q1 r1;have hsz:aG ks1<=400:=by simp only [aG,Tm.size] at hM;omega
 go_enter func128,ntmps128;go_wp2_with (first
  | (go_at_call 35;have _t:=tok;refine (dF _ k1 n1 ks1 A1 c1 _ (mV _) Ac (hr1.keeps K1)).mono ?_;rintro e w2 ⟨A2,c2,rfl,hl2,hf2,hb2⟩;replace hZ:=hZ.keep hb2;obtain ⟨d0,d1,d2,e0,e1,e2⟩:=bZ hZ;replace g1:=g1.trans (hb2.mono g1.size))
  | (go_at_call 127;refine (eG 9 n [t0,.mk k1 n1 ks1,t2,t3] _ c _ Ag rfl ((hr.alloc _).alloc _)).mono ?_;rw [hrd.out];rintro e w1 ⟨rfl,hb1⟩;have hB:Blk w1 w.heap.size #[.int .i64 9,.int .i64 n,.slice (some ⟨b,off,none⟩) ([t0,.mk k1 n1 ks1,t2,t3]:List Tm).length c]:=((aC w 32 _ rfl).alloc _).keep hb1;have hZ:Blk w1 (w.heap.size+1) Zr:=(aC _ 32 _ Ag).keep hb1;have g1:Bw w w1:=bN bw2 hb1;have s1:=hZ.lt;have K1:=cM g1;have x2:=hB.at_ (i:=2) rfl;have tok:=trivial;replace p1:=K1 _ _ p1;replace q1:=K1 _ _ q1;replace r1:=K1 _ _ r1))
 refine bodyPost_ret (v:=.agg (Ro k1 n1 A2 ks1.length c2)) (by simp [results,results128,go_sem,d0,d1,d2]) rfl ⟨k1,n1,ks1,rfl,⟨A2,c2,rfl,hl2,?_,?_⟩,by omega⟩
 ·exact (Fresh.rdp (vF hf2)).mono (λb hb=>.inr (by have h0:w1.drew.heap.size=w1.heap.size:=rfl;have:=hb.1;omega))
 ·exact bV g1
theorem yH (n:Int)(t0 t1 t2:Tm)(A:Ba)(c:Nat)(w:Bb)(hM:aG [t0,t1,t2]<=400)(hrd:rdx 12 [t0,t1,t2]=4)(hr:Rd w A 0 [t0,t1,t2]) :
  Calls prog 128 #[.agg #[.int .i64 12,.int .i64 n,.slice A ([t0,t1,t2]:List Tm).length c]] w (aGe t2 190000 w):=by
 have hrd:=aD hrd;obtain ⟨b,off,k1,n1,ks1,A1,c1,hA,hk1,p1,q1,r1,hl1,hr1⟩:=hr.at_ (j:=2) Ag;have hk1:t2 = .mk k1 n1 ks1:=hk1;subst hk1 hA;simp only [Nat.reduceMul,Nat.zero_mul,Nat.add_zero] at p1 q1 r1;have hsz:aG ks1<=400:=by simp only [aG,Tm.size] at hM;omega
 go_enter func128,ntmps128;go_wp2_with (first
  | (go_at_call 35;have _t:=tok;refine (dF _ k1 n1 ks1 A1 c1 _ (mV _) Ac (hr1.keeps K1)).mono ?_;rintro e w2 ⟨A2,c2,rfl,hl2,hf2,hb2⟩;replace hZ:=hZ.keep hb2;obtain ⟨d0,d1,d2,e0,e1,e2⟩:=bZ hZ;replace g1:=g1.trans (hb2.mono g1.size))
  | (go_at_call 127;refine (eG 12 n [t0,t1,.mk k1 n1 ks1] _ c _ Ag rfl ((hr.alloc _).alloc _)).mono ?_;rw [hrd.out];rintro e w1 ⟨rfl,hb1⟩;have hB:Blk w1 w.heap.size #[.int .i64 12,.int .i64 n,.slice (some ⟨b,off,none⟩) ([t0,t1,.mk k1 n1 ks1]:List Tm).length c]:=((aC w 32 _ rfl).alloc _).keep hb1;have hZ:Blk w1 (w.heap.size+1) Zr:=(aC _ 32 _ Ag).keep hb1;have g1:Bw w w1:=bN bw2 hb1;have s1:=hZ.lt;have K1:=cM g1;have x2:=hB.at_ (i:=2) rfl;have tok:=trivial;replace p1:=K1 _ _ p1;replace q1:=K1 _ _ q1;replace r1:=K1 _ _ r1))
 refine bodyPost_ret (v:=.agg (Ro k1 n1 A2 ks1.length c2)) (by simp [results,results128,go_sem,d0,d1,d2]) rfl ⟨k1,n1,ks1,rfl,⟨A2,c2,rfl,hl2,?_,?_⟩,by omega⟩
 ·exact (Fresh.rdp (vF hf2)).mono (λb hb=>.inr (by have h0:w1.drew.heap.size=w1.heap.size:=rfl;have:=hb.1;omega))
 ·exact bV g1
theorem yS (n n0:Int)(s0 s1 s2:Tm)(A:Ba)(c:Nat)(w:Bb)(hM:aG [.mk 14 n0 [s0,s1,s2]]<=400)(hr:Rd w A 0 [.mk 14 n0 [s0,s1,s2]]) :
  Calls prog 128 #[.agg #[.int .i64 15,.int .i64 n,.slice A ([.mk 14 n0 [s0,s1,s2]]:List Tm).length c]] w (aGe s1 190000 w):=by
 have hrd:=aD (show rdx 15 [.mk 14 n0 [s0,s1,s2]]=5 from rfl);obtain ⟨b,off,k0',n0',ks0,A0,c0,hA,hk0,p0,q0,r0,hl0,hr0⟩:=hr.at_ (j:=0) Ag;injection hk0 with h1 h2 h3;subst h1 h2 h3;obtain ⟨b1,off1,k1,n1,ks1,A1,c1,hA0,hk1,p1,q1,r1,hl1,hr1⟩:=hr0.at_ (j:=1) Ag;have hk1:s1 = .mk k1 n1 ks1:=hk1;subst hk1 hA hA0;simp only [Nat.reduceMul,Nat.zero_mul,Nat.add_zero] at p0 q0 r0 p1 q1 r1
 have hsz:aG ks1<=400:=by simp only [aG,Tm.size] at hM;omega
 go_enter func128,ntmps128;go_wp2_with (first
  | (go_at_call 35;have _t:=tok;refine (dF _ k1 n1 ks1 A1 c1 _ (mV _) Ac (hr1.keeps K1)).mono ?_;rintro e w2 ⟨A2,c2,rfl,hl2,hf2,hb2⟩;replace hZ:=hZ.keep hb2;obtain ⟨d0,d1,d2,e0,e1,e2⟩:=bZ hZ;replace g1:=g1.trans (hb2.mono g1.size))
  | (go_at_call 127;refine (eG 15 n [.mk 14 n0 [s0,.mk k1 n1 ks1,s2]] _ c _ Ag rfl ((hr.alloc _).alloc _)).mono ?_;rw [hrd.out];rintro e w1 ⟨rfl,hb1⟩;have hB:Blk w1 w.heap.size #[.int .i64 15,.int .i64 n,.slice (some ⟨b,off,none⟩) ([.mk 14 n0 [s0,.mk k1 n1 ks1,s2]]:List Tm).length c]:=((aC w 32 _ rfl).alloc _).keep hb1;have hZ:Blk w1 (w.heap.size+1) Zr:=(aC _ 32 _ Ag).keep hb1;have g1:Bw w w1:=bN bw2 hb1;have s1:=hZ.lt;have K1:=cM g1;have x2:=hB.at_ (i:=2) rfl;have tok:=trivial;replace p0:=K1 _ _ p0;replace q0:=K1 _ _ q0;replace r0:=K1 _ _ r0;replace p1:=K1 _ _ p1;replace q1:=K1 _ _ q1;replace r1:=K1 _ _ r1))
 refine bodyPost_ret (v:=.agg (Ro k1 n1 A2 ks1.length c2)) (by simp [results,results128,go_sem,d0,d1,d2]) rfl ⟨k1,n1,ks1,rfl,⟨A2,c2,rfl,hl2,?_,?_⟩,by omega⟩
 ·exact (Fresh.rdp (vF hf2)).mono (λb hb=>.inr (by have h0:w1.drew.heap.size=w1.heap.size:=rfl;have:=hb.1;omega))
 ·exact bV g1
theorem yQ (n n0:Int)(s0 s1 s2:Tm)(A:Ba)(c:Nat)(w:Bb)(hM:aG [.mk 14 n0 [s0,s1,s2]]<=400)(hr:Rd w A 0 [.mk 14 n0 [s0,s1,s2]]) :
  Calls prog 128 #[.agg #[.int .i64 16,.int .i64 n,.slice A ([.mk 14 n0 [s0,s1,s2]]:List Tm).length c]] w (aGe s2 190000 w):=by
 have hrd:=aD (show rdx 16 [.mk 14 n0 [s0,s1,s2]]=6 from rfl);obtain ⟨b,off,k0',n0',ks0,A0,c0,hA,hk0,p0,q0,r0,hl0,hr0⟩:=hr.at_ (j:=0) Ag;injection hk0 with h1 h2 h3;subst h1 h2 h3;obtain ⟨b1,off1,k1,n1,ks1,A1,c1,hA0,hk1,p1,q1,r1,hl1,hr1⟩:=hr0.at_ (j:=2) Ag;have hk1:s2 = .mk k1 n1 ks1:=hk1;subst hk1 hA hA0;simp only [Nat.reduceMul,Nat.zero_mul,Nat.add_zero] at p0 q0 r0 p1 q1 r1
 have hsz:aG ks1<=400:=by simp only [aG,Tm.size] at hM;omega
 go_enter func128,ntmps128;go_wp2_with (first
  | (go_at_call 35;have _t:=tok;refine (dF _ k1 n1 ks1 A1 c1 _ (mV _) Ac (hr1.keeps K1)).mono ?_;rintro e w2 ⟨A2,c2,rfl,hl2,hf2,hb2⟩;replace hZ:=hZ.keep hb2;obtain ⟨d0,d1,d2,e0,e1,e2⟩:=bZ hZ;replace g1:=g1.trans (hb2.mono g1.size))
  | (go_at_call 127;refine (eG 16 n [.mk 14 n0 [s0,s1,.mk k1 n1 ks1]] _ c _ Ag rfl ((hr.alloc _).alloc _)).mono ?_;rw [hrd.out];rintro e w1 ⟨rfl,hb1⟩;have hB:Blk w1 w.heap.size #[.int .i64 16,.int .i64 n,.slice (some ⟨b,off,none⟩) ([.mk 14 n0 [s0,s1,.mk k1 n1 ks1]]:List Tm).length c]:=((aC w 32 _ rfl).alloc _).keep hb1;have hZ:Blk w1 (w.heap.size+1) Zr:=(aC _ 32 _ Ag).keep hb1;have g1:Bw w w1:=bN bw2 hb1;have s1:=hZ.lt;have K1:=cM g1;have x2:=hB.at_ (i:=2) rfl;have tok:=trivial;replace p0:=K1 _ _ p0;replace q0:=K1 _ _ q0;replace r0:=K1 _ _ r0;replace p1:=K1 _ _ p1;replace q1:=K1 _ _ q1;replace r1:=K1 _ _ r1))
 refine bodyPost_ret (v:=.agg (Ro k1 n1 A2 ks1.length c2)) (by simp [results,results128,go_sem,d0,d1,d2]) rfl ⟨k1,n1,ks1,rfl,⟨A2,c2,rfl,hl2,?_,?_⟩,by omega⟩
 ·exact (Fresh.rdp (vF hf2)).mono (λb hb=>.inr (by have h0:w1.drew.heap.size=w1.heap.size:=rfl;have:=hb.1;omega))
 ·exact bV g1
theorem vD (n n0:Int)(s0 t:Tm)(k1 n1 ku nu:Int)(us:List Tm)(ks1:List Tm)(A:Ba)(c:Nat)(w:Bb)(ht:t = .mk k1 n1 ks1)(hM:aG [.mk 4 n0 [s0,t],.mk ku nu us]<=400)(hs:shape 30 t=true)(hsu:shape 30 (.mk ku nu us)=true)(hr:Rd w A 0 [.mk 4 n0 [s0,t],.mk ku nu us]) :
  Calls prog 128 #[.agg #[.int .i64 5,.int .i64 n,.slice A ([.mk 4 n0 [s0,t],.mk ku nu us]:List Tm).length c]] w (aGe (bT (.mk ku nu us) 0 0 t) 190000 w):=by
 subst ht;have hrd:=aD (show rdx 5 [.mk 4 n0 [s0,.mk k1 n1 ks1],.mk ku nu us]=1 from rfl);obtain ⟨b,off,k0',n0',ks0,A0,c0,hA,hk0,p0,q0,r0,hl0,hr0⟩:=hr.at_ (j:=0) Ag;injection hk0 with h1 h2 h3;subst h1 h2 h3;obtain ⟨b1,off1,k1',n1',ks1',A1,c1,hA0,hk1,p1,q1,r1,hl1,hr1⟩:=hr0.at_ (j:=1) Ag;injection hk1 with h1 h2 h3;subst h1 h2 h3;obtain ⟨b',off',ku',nu',us',U,cu,hA',hk2,p2,q2,r2,hl2,hr2⟩:=hr.at_ (j:=1) Ag;injection hk2 with h1 h2 h3;subst h1 h2 h3;subst hA hA0;injection hA' with hA';injection hA' with h1 h2;subst h1 h2;simp only [Nat.reduceMul,Nat.zero_mul,Nat.add_zero] at p0 q0 r0 p1 q1 r1 p2 q2 r2
 have hsz:aG ks1<=400/\aG us<=400/\(Tm.mk k1 n1 ks1).size+(Tm.mk ku nu us).size<=400:=by simp only [aG,Tm.size] at hM⊢;omega
 obtain ⟨k2,n2,ks2,h2⟩:=gQ (bT (.mk ku nu us) 0 0 (.mk k1 n1 ks1));have hbig:aG ks2+1<=190000:=by
  have h3:=sQ (.mk ku nu us) (m:=400) Ac Ac (.mk k1 n1 ks1) 0 0;rw [h2,Tm.size] at h3;have:(Tm.mk k1 n1 ks1).size*400<=400*400:=Nat.mul_le_mul_right _ Ac;omega
 have h2':=aD h2;have hs':=aD hs;have hsu':=aD hsu;clear h2 hs hsu;go_enter func128,ntmps128;go_wp2_with (first
  | (go_at_call 127;refine (eG 5 n [.mk 4 n0 [s0,.mk k1 n1 ks1],.mk ku nu us] _ c _ Ag rfl ((hr.alloc _).alloc _)).mono ?_;rw [hrd.out];rintro e w1 ⟨rfl,hb1⟩;have hB:Blk w1 w.heap.size #[.int .i64 5,.int .i64 n,.slice (some ⟨b,off,none⟩) ([.mk 4 n0 [s0,.mk k1 n1 ks1],.mk ku nu us]:List Tm).length c]:=((aC w 32 _ rfl).alloc _).keep hb1;have hZ:Blk w1 (w.heap.size+1) Zr:=(aC _ 32 _ Ag).keep hb1;have g1:Bw w w1:=bN bw2 hb1;have s1:=hZ.lt;have K1:=cM g1;have x2:=hB.at_ (i:=2) rfl;have tok:=trivial;replace p0:=K1 _ _ p0;replace q0:=K1 _ _ q0;replace r0:=K1 _ _ r0;replace p1:=K1 _ _ p1;replace q1:=K1 _ _ q1;replace r1:=K1 _ _ r1;replace p2:=K1 _ _ p2;replace q2:=K1 _ _ q2;replace r2:=K1 _ _ r2;skip))
 obtain ⟨y2,y3,y4⟩:=pG x2 r0 p1;obtain ⟨y5,y6,y7⟩:=pG q1 r1 p2;have y8:=aF q2;have y9:=aF r2;refine bQ (λw'=>Bw w1 w') [0,1,2,3,4,5,6,7,8,9,10] [11] [12] [_,_,_,_,_,_,_,_,_,_,_] [_] [_] (by kernel_rfl) (by kernel_rfl) rfl rfl rfl (λ_ _ d _ _ h=>by cases d<;>exact h) (eI _ _).drew ?_;refine bU (aD ?_);refine bO ?_;go_wp2_with (go_at_call 92;refine (xD ku nu us hsu'.out Ac _ k1 n1 ks1 _ _ _ _ 0 0 30 _ (mV _) Ac hs'.out Ac Ac Ac Ac (hr1.keeps K1).drew (hr2.keeps K1).drew k2 n2 ks2 h2'.out).mono ?_;rintro e w2 ⟨A2,c2,rfl,hl2,hf2,hb2⟩);have hx1:Bw w1 w2:=(eI _ _).drew.trans hb2;refine aS hx1 (eB ?_);replace hZ:=hZ.keep hx1;obtain ⟨d0,d1,d2,e0,e1,e2⟩:=bZ hZ;replace g1:=g1.trans (hx1.mono g1.size);clear y2 y3 y4 y5 y6 y7 y8 y9;go_wp2_with fail;refine bodyPost_ret (v:=.agg (Ro k2 n2 A2 ks2.length c2)) (by simp [results,results128,go_sem,d0,d1,d2]) rfl ⟨k2,n2,ks2,h2'.out,⟨A2,c2,rfl,hl2,?_,?_⟩,hbig⟩
 ·exact (Fresh.rdp (vF hf2)).mono (λb hb=>.inr (by have h0:w1.drew.heap.size=w1.heap.size:=rfl;have:=hb.1;omega))
 ·exact bV g1
def mY:Prop:=∀(n n8:Int) (t0 t1 t2 m:Tm) (A:Ba) (c:Nat) (w:Bb),aG [t0,t1,t2,.mk 8 n8 [m]]<=400->Rd w A 0 [t0,t1,t2,.mk 8 n8 [m]]->
 Calls prog 128 #[.agg #[.int .i64 9,.int .i64 n,.slice A ([t0,t1,t2,.mk 8 n8 [m]]:List Tm).length c]] w (aGe (.mk 5 0 [.mk 5 0 [t2,m],.mk 9 0 [t0,t1,t2,m]]) 190000 w)
theorem aKf {ks:List Tm}(h:ks.length=1):∃a,ks=[a]:=List.length_eq_one_iff.1 h
theorem aLc {ks:List Tm}(h:ks.length=2):∃a b,ks=[a,b]:=by
 match ks,h with
 | [a,b],_=>exact ⟨a,b,rfl⟩
theorem aHv {ks:List Tm}(h:ks.length=3):∃a b c,ks=[a,b,c]:=by
 match ks,h with
 | [a,b,c],_=>exact ⟨a,b,c,rfl⟩
theorem aXe {ks:List Tm}(h:ks.length=4):∃a b c d,ks=[a,b,c,d]:=by
 match ks,h with
 | [a,b,c,d],_=>exact ⟨a,b,c,d,rfl⟩
theorem qZ (hC:mY)(d:Nat)(hd:d<=30)(k n:Int)(ks:List Tm)(A:Ba)(c:Nat)(w:Bb)(hM:aG ks<=400)(hs:shape d (.mk k n ks)=true)(hx:rdx k ks≠0)(hr:Rd w A 0 ks) :
  Calls prog 128 #[.agg (Ro k n A ks.length c)] w (aGe (eF (.mk k n ks)) 190000 w):=by
 obtain ⟨d,rfl,ha,_,_,hk⟩:=cD hs;by_cases h5:k=5
 ·subst h5;obtain ⟨a,b,rfl⟩:=aLc (ks:=ks) (by have h:aX 5=2:=rfl;omega);obtain ⟨k0,n0,ls⟩:=a;have h4:k0=4:=by
   rcases Classical.em (k0=4) with h|h
   ·exact h
   ·exact absurd (by simp [rdx,gN,Tm.k,h]) hx
  subst h4;obtain ⟨d,rfl,ha0,_,_,hk0⟩:=cD (hk (.mk 4 n0 ls) Ag);obtain ⟨s0,t,rfl⟩:=aLc (ks:=ls) (by have h:aX 4=2:=rfl;omega);obtain ⟨ku,nu,us⟩:=b;obtain ⟨k1,n1,ks1⟩:=t;rw [show eF _=bT (.mk ku nu us) 0 0 (.mk k1 n1 ks1) from by simp [eF,rdx,gN,Tm.k,Tm.ks,aI]];exact vD n n0 s0 _ k1 n1 ku nu us ks1 A c w rfl hM (sH Ac _ (hk0 _ Ag)) (sH Ac _ (hk _ Ag)) hr
 ·by_cases h9:k=9
  ·subst h9;obtain ⟨a,b,e,f,rfl⟩:=aXe (ks:=ks) (by have h:aX 9=4:=rfl;omega);obtain ⟨k3,n3,ls⟩:=f;by_cases h7:k3=7
   ·subst h7;rw [show eF _=b from by simp [eF,rdx,gN,Tm.k,Tm.ks,aI]];exact yA n a b e _ A c w hM (by simp [rdx,gN,Tm.k]) hr
   ·have h8:k3=8:=by
     rcases Classical.em (k3=8) with h|h
     ·exact h
     ·exact absurd (by simp [rdx,gN,Tm.k,h,h7]) hx
    subst h8;obtain ⟨d,rfl,ha0,_,_,hk0⟩:=cD (hk (.mk 8 n3 ls) Ag);obtain ⟨m,rfl⟩:=aKf (ks:=ls) (by have h:aX 8=1:=rfl;omega);rw [show eF _=(.mk 5 0 [.mk 5 0 [e,m],.mk 9 0 [a,b,e,m]]) from by simp [eF,rdx,gN,Tm.k,Tm.ks,aI]];exact hC n n3 a b e m A c w hM hr
  ·by_cases h12:k=12
   ·subst h12;obtain ⟨a,b,e,rfl⟩:=aHv (ks:=ks) (by have h:aX 12=3:=rfl;omega);obtain ⟨k3,n3,ls⟩:=b;have h8:k3=11:=by
     rcases Classical.em (k3=11) with h|h
     ·exact h
     ·exact absurd (by simp [rdx,gN,Tm.k,h]) hx
    subst h8;rw [show eF _=e from by simp [eF,rdx,gN,Tm.k,Tm.ks,aI]];exact yH n a _ e A c w hM (by simp [rdx,gN,Tm.k]) hr
   ·by_cases h15:k=15
    ·subst h15;obtain ⟨a,rfl⟩:=aKf (ks:=ks) (by have h:aX 15=1:=rfl;omega);obtain ⟨k3,n3,ls⟩:=a;have h8:k3=14:=by
      rcases Classical.em (k3=14) with h|h
      ·exact h
      ·exact absurd (by simp [rdx,gN,Tm.k,h]) hx
     subst h8;obtain ⟨d,rfl,ha0,_,_,hk0⟩:=cD (hk (.mk 14 n3 ls) Ag);obtain ⟨s0,s1,s2,rfl⟩:=aHv (ks:=ls) (by have h:aX 14=3:=rfl;omega);rw [show eF _=s1 from by simp [eF,rdx,gN,Tm.k,Tm.ks,aI]];exact yS n n3 s0 s1 s2 A c w hM hr
    ·by_cases h16:k=16
     ·subst h16;obtain ⟨a,rfl⟩:=aKf (ks:=ks) (by have h:aX 16=1:=rfl;omega);obtain ⟨k3,n3,ls⟩:=a;have h8:k3=14:=by
       rcases Classical.em (k3=14) with h|h
       ·exact h
       ·exact absurd (by simp [rdx,gN,Tm.k,h]) hx
      subst h8;obtain ⟨d,rfl,ha0,_,_,hk0⟩:=cD (hk (.mk 14 n3 ls) Ag);obtain ⟨s0,s1,s2,rfl⟩:=aHv (ks:=ls) (by have h:aX 14=3:=rfl;omega);rw [show eF _=s2 from by simp [eF,rdx,gN,Tm.k,Tm.ks,aI]];exact yQ n n3 s0 s1 s2 A c w hM hr
     ·exact absurd (aCv ks Ac) hx
theorem uA:∀(ks:List Tm) (j:Nat) (t:Tm),aG (ks.set j t)<=aG ks+t.size
 | [],j,t=>by simp [aG]
 | a::ks,0,t=>by simp only [List.set_cons_zero,aG];omega
 | a::ks,j+1,t=>by have:=uA ks j t;simp only [List.set_cons_succ,aG];omega
theorem rdp_lt {p:Nat->Prop}{w:Bb}:(∀t b off i,RdPC p w b off i t->RdPC (λb=>p b/\b<w.heap.size) w b off i t)/\(∀ks A i,RdP p w A i ks->RdP (λb=>p b/\b<w.heap.size) w A i ks):=by
 refine bA (λk n ks ih b off i hh=>?_) (λ_ _ _=>RdP.nil) (λt ts h1 h2 A i hh=>?_)
 ·rw [RdPC.iff] at hh⊢;obtain ⟨h0,h1,h2,A,c,h3,h4,h5⟩:=hh;exact ⟨⟨h0,kF _ _ h1⟩,h1,h2,A,c,h3,h4,ih _ _ h5⟩
 ·rw [RdP.cons_iff] at hh⊢;obtain ⟨⟨b,off,hA,hc⟩,hr⟩:=hh;exact ⟨⟨b,off,hA,h1 _ _ _ hc⟩,h2 _ _ hr⟩
theorem RdP.lt_ {p:Nat->Prop}{w:Bb}{A:Ba}{i:Nat}{ks:List Tm}(h:RdP p w A i ks):RdP (λb=>p b/\b<w.heap.size) w A i ks:=rdp_lt.2 _ _ _ h
theorem aOy (ks:List Tm)(j:Nat)(v:Tm):∀(i:Nat) (t:Tm),ks[i]?=some t->(ks.set j v)[i]?=some (if i=j then v else t):=by
 intro i t h;have hl:i<ks.length:=(List.getElem?_eq_some_iff.1 h).1;rw [List.getElem?_set];by_cases e:j=i
 ·subst e;rw [Av rfl,Av hl,Av rfl]
 ·rw [Aw e,Aw (λh=>e h.symm),h]
def aSp (t0:Tm)(m:Nat)(w:Bb)(e:Ending)(w':Bb):Prop:=
 ∃(k n:Int) (ks:List Tm) (A:Ba) (c:Nat) (b:Bool),.mk k n ks=(eA t0).getD t0/\b=(eA t0).isSome/\e = .returned (.tuple #[.agg (Ro k n A ks.length c),.bool b])/\ks.length<=9223372036854775807/\aG ks+1<=m/\RdP (λx=>if b=true then w.heap.size<=x else x<w.heap.size) w' A 0 ks/\Bw w w'
theorem aCp {o:Option Tm}{t u:Tm}(h:u=o.getD t){b:Bool}(hb:b=o.isSome)(hbt:b=true):o=some u:=by
 subst hbt;cases o with
 | none=>cases hb
 | some v=>rw [h];rfl
theorem aJl {o:Option Tm}{b:Bool}(hb:b=o.isSome)(hbt:b=false):o=none:=by
 subst hbt;cases o with
 | none=>rfl
 | some v=>cases hb
theorem tO:∀(ks:List Tm) (j:Nat) (h:j<ks.length) (u:Tm),(∀i,(hi:i<ks.length)->i<j->eA ks[i]=none)->eA ks[j]=some u->gO ks=some (ks.set j u)
 | t::ts,0,h,u,hn,hs=>by rw [gO];simp only [List.getElem_cons_zero] at hs;rw [hs];rfl
 | t::ts,j+1,h,u,hn,hs=>by
  have h0:eA t=none:=hn 0 Ag Ac;rw [gO,h0,tO ts j (by simpa using h) u (λi hi hij=>hn (i+1) (by simpa using hi) Ac) (by simpa using hs)];rfl
theorem tX:∀(ks:List Tm),(∀i,(hi:i<ks.length)->eA ks[i]=none)->gO ks=none
 | [],_=>rfl
 | t::ts,hn=>by
  have h0:eA t=none:=hn 0 Ag;rw [gO,h0,tX ts (λi hi=>hn (i+1) (by simpa using hi))];rfl
theorem aLx (hC:mY)(N:Nat):∀(d:Nat) (k n:Int) (ks:List Tm) (A:Ba) (c:Nat) (w:Bb),d<=30->aG ks<N->aG ks<=400->shape d (.mk k n ks)=true->Rd w A 0 ks->
  Calls prog 154 #[.agg (Ro k n A ks.length c),.bool false] w (aSp (.mk k n ks) (190000+401*d) w):=by
 induction N with
 | zero=>intro d k n ks A c w _ hN;exact absurd hN (Nat.not_lt_zero _)
 | succ N ih=>
 intro d k n ks A c w hd hN hM hs hr;have hlen:=aJ ks;obtain ⟨d,rfl,ha,_,_,hk⟩:=cD hs;have hk':=aD hk;have ha':=aD ha;have hs':=aD hs;clear hk ha hs;by_cases hx:rdx k ks=0
 ·have hrd:=aD hx;clear hx;go_enter func154,ntmps154;go_wp2_with (go_at_call 127;refine (eG k n ks A c _ Ac ha'.out ((hr.alloc _).alloc _)).mono ?_;rw [hrd.out];rintro e w1 ⟨rfl,hb1⟩;have hB:Blk w1 w.heap.size (Ro k n A ks.length c):=((aC w 32 _ rfl).alloc _).keep hb1;have hZ:Blk w1 (w.heap.size+1) Zr:=(aC _ 32 _ Ag).keep hb1;have g1:Bw w w1:=bN bw2 hb1);go_loopw [6] (λjv wr=>∃j:Nat,j<=ks.length/\Hid (∀i,(hi:i<ks.length)->i<j->eA ks[i]=none)/\jv = .int .i64 j/\Blk wr (w.heap.size+1) Zr/\Blk wr w.heap.size (Ro k n A ks.length c)/\Bw w wr)
   (λjv _=>ks.length - (intOf jv).toNat)
  case atStart=>exact ⟨0,Nat.zero_le _,aD (λi hi h=>absurd h Ac),rfl,hZ,hB,g1⟩
  case round=>
   clear hZ hB g1;obtain ⟨j,hj,hnj,rfl,hZ,hB,g1⟩:=hrel;obtain ⟨x0,x1,x2⟩:=hB.three;have sr:=g1.size;have lz0:=hZ.lt;by_cases hlt:j<ks.length
   ·obtain ⟨b,off,k',n',ks',A',c',rfl,hkj,hc1,hc2,hc3,hl',hr'⟩:=(hr.below g1).at_ hlt;have hsz:=cG (gM hlt);have hsk:=hk'.out _ (gM hlt);rw [hkj] at hsz hsk;simp only [Tm.size] at hsz;have H4:=aD hsk;have H5:=aD hkj;clear hkj hsk;have bl:b<wr.heap.size:=kF _ _ hc1;go_wp2_with (first
     | (go_at_call 154;refine (ih d k' n' ks' A' c' _ Ac Ac Ac H4.out hr').mono ?_;rintro e w2 ⟨k2,n2,ks2,A2,c2,bb,hv2,hv3,rfl,hl2,hs2,hr2,hb2⟩;replace hv2:=aD hv2;replace hv3:=aD hv3;have hrw:=((hr.below g1).below hb2).alloc (.cells (Ro k2 n2 A2 ks2.length c2) 32);replace hZ:=(hZ.keep hb2).alloc (.cells (Ro k2 n2 A2 ks2.length c2) 32);replace hB:=(hB.keep hb2).alloc (.cells (Ro k2 n2 A2 ks2.length c2) 32);replace g1:=(g1.trans (hb2.mono g1.size)).alloc (by have:=hb2.size;omega) (.cells (Ro k2 n2 A2 ks2.length c2) 32);have hr2':=hr2.alloc (.cells (Ro k2 n2 A2 ks2.length c2) 32);have s2:=hb2.size;have hK2:=aC w2 32 (Ro k2 n2 A2 ks2.length c2) rfl;obtain ⟨y0,y1,y2⟩:=hK2.three;clear x0 x1 x2;obtain ⟨x0,x1,x2⟩:=hB.three;have tok:=trivial))
    ·have hbb:bb=true:=by assumption
     have hrx:RdP (λx=>wr.heap.size<=x/\x<w2.heap.size) w2 A2 0 ks2:=(hr2.lt_).mono (λx hx=>⟨by have h1:=hx.1;rw [hbb] at h1;simpa using h1,hx.2⟩);refine (aAs (p:=λx=>wr.heap.size<=x/\x<w2.heap.size) k n ks _ c j k2 n2 ks2 A2 c2 (ks.set j (.mk k2 n2 ks2)) Ag (aOy ks j _) _ Ac hl2 hrw (hrx.alloc _) (λx hx=>by have:=hx.2;simp;omega)).mono ?_;rintro e w3 ⟨A3,c3,rfl,hl3,hr3,hb3⟩;replace hZ:=hZ.keep hb3;obtain ⟨d0,d1,d2,e0,e1,e2⟩:=bZ hZ;replace g1:=g1.trans (hb3.mono g1.size);go_wp2_with fail;have hsz2:=uA ks j (.mk k2 n2 ks2);rw [Tm.size] at hsz2;refine bodyPost_ret (v:=.tuple #[.agg #[.int .i64 k,.int .i64 n,.slice A3 (ks.set j (.mk k2 n2 ks2)).length c3],.bool true]) (by simp [results,results154,go_sem,d0,d1,d2]) rfl ⟨k,n,ks.set j (.mk k2 n2 ks2),A3,c3,true,(by rw [eA,Av hrd.out,tO ks j hlt _ hnj.out (by rw [H5.out];exact aCp hv2.out hv3.out hbb)];rfl),(by rw [eA,Av hrd.out,tO ks j hlt _ hnj.out (by rw [H5.out];exact aCp hv2.out hv3.out hbb)];rfl),rfl,by simp;omega,by omega,?_,?_⟩
     ·have hr4:=hr3.mono (q:=λx=>w.heap.size+2<=x) (λx hx=>hx.elim (λh=>by have:=h.1;omega) (λh=>by simp at h;omega));exact (((hr4.setCell Ag _).setCell Ag _).setCell Ag _).mono (λx hx=>by simp;omega)
     ·exact bV g1
    ·have hbb:bb=false:=by first|assumption|(cases bb with|false=>rfl|true=>simp_all)
     refine ⟨⟨j+1,by omega,aD (λi hi hij=>?_),by go_num,hZ,hB,g1⟩,by simp [intOf];omega⟩;by_cases hij2:i=j
     ·subst hij2;rw [H5.out];exact aJl hv3.out hbb
     ·exact hnj.out i hi Ac
   ·have hje:j=ks.length:=by omega
    subst hje;obtain ⟨d0,d1,d2,e0,e1,e2⟩:=bZ hZ;go_wp2_with fail;refine bodyPost_ret (v:=.tuple #[.agg (Ro k n A ks.length c),.bool false]) (by simp [results,results154,go_sem,d0,d1,d2]) rfl ⟨k,n,ks,A,c,false,(by rw [eA,Av hrd.out,tX ks (λi hi=>hnj.out i hi hi)];rfl),(by rw [eA,Av hrd.out,tX ks (λi hi=>hnj.out i hi hi)];rfl),rfl,by omega,by omega,?_,?_⟩
    ·exact ((((hr.rdp.below g1).setCell Ag _).setCell Ag _).setCell Ag _).mono (λx hx=>by simpa using hx)
    ·exact bV g1
 ·have hq:(rdx k ks==0)=false:=by simpa using hx
  have hc:=aD (λw A c hr=>qZ hC (d+1) hd k n ks A c w hM hs'.out hx hr);obtain ⟨rr,hrr⟩:∃rr,rdx k ks=rr:=⟨_,rfl⟩;rw [hrr] at hq;have hrd:=aD hrr;have hst:=aD (show eA (.mk k n ks)=some (eF (.mk k n ks)) from by rw [eA,Aw hx]);clear hx hrr;go_enter func154,ntmps154;go_wp2_with (first
   | (go_at_call 128;have _t:=tok;refine (hc.out _ A c hr1).mono ?_;rintro e w2 ⟨k2,n2,ks2,hv2,⟨A2,c2,rfl,hl2,hr2,hb2⟩,hs2⟩;replace hv2:=aD hv2;replace hZ:=hZ.keep hb2;obtain ⟨d0,d1,d2,e0,e1,e2⟩:=bZ hZ;replace g1:=g1.trans (hb2.mono g1.size))
   | (go_at_call 127;refine (eG k n ks A c _ Ac ha'.out ((hr.alloc _).alloc _)).mono ?_;rw [hrd.out];rintro e w1 ⟨rfl,hb1⟩;have hB:Blk w1 w.heap.size (Ro k n A ks.length c):=((aC w 32 _ rfl).alloc _).keep hb1;have hZ:Blk w1 (w.heap.size+1) Zr:=(aC _ 32 _ Ag).keep hb1;have g1:Bw w w1:=bN bw2 hb1;have hr1:=hr.below g1;have s1:=hZ.lt;obtain ⟨x0,x1,x2⟩:=hB.three;have tok:=trivial))
  refine bodyPost_ret (v:=.tuple #[.agg (Ro k2 n2 A2 ks2.length c2),.bool true]) (by simp [results,results154,go_sem,d0,d1,d2]) rfl ⟨k2,n2,ks2,A2,c2,true,(by rw [hst.out,hv2.out];rfl),(by rw [hst.out];rfl),rfl,hl2,by omega,?_,?_⟩
  ·exact ((((hr2.mono (q:=λx=>w.heap.size+2<=x) (λx hx=>hx.elim (λh=>h.elim) (λh=>by omega))).setCell Ag _).setCell Ag _).setCell Ag _).mono (λx hx=>by simp;omega)
  ·exact bV g1
theorem wK {b:Bool}(h:(!b)=false):b=true:=by cases b with|true=>rfl|false=>cases h
theorem xT {b:Bool}(h:(!b)=true):b=false:=by cases b with|false=>rfl|true=>cases h
def oR (t:Tm):Tm × Nat:=match eA t with|none=>(t,0)|some u=>if aE u=true then (u,1) else (.mk 0 0 [],2)
theorem aLh {t:Tm}(h:eA t=none):oR t=(t,0):=by rw [oR,h]
theorem zM {t u:Tm}(h:eA t=some u)(hv:aE u=true):oR t=(u,1):=by rw [oR,h];exact Av hv
theorem wU {t u:Tm}(h:eA t=some u)(hv:aE u=false):oR t=(.mk 0 0 [],2):=by rw [oR,h];exact Aw (by simp [hv])
theorem aHu {t:Tm}{f:Nat}(h:(oR t).2=0):fQ f t=(some (oR t).1,0):=by
 unfold oR at h⊢;rw [fQ];cases hs:eA t with
 | none=>rfl
 | some u=>rw [hs] at h;simp only at h;split at h<;>cases h
theorem aHr {t:Tm}(h:(oR t).2≠0):fQ 0 t=(none,1):=by
 unfold oR at h;rw [fQ];cases hs:eA t with
 | none=>rw [hs] at h;exact absurd rfl h
 | some u=>rfl
theorem aFi {t:Tm}{f:Nat}(h:(oR t).2=2):fQ (f+1) t=(none,2):=by
 unfold oR at h;rw [fQ];cases hs:eA t with
 | none=>rw [hs] at h;cases h
 | some u=>
  rw [hs] at h;simp only at h⊢;split at h
  ·cases h
  ·rename_i hv;rw [Aw hv]
theorem aGh {t:Tm}{f:Nat}(h0:(oR t).2≠0)(h2:(oR t).2≠2):fQ (f+1) t=fQ f (oR t).1:=by
 unfold oR at h0 h2⊢;rw [fQ];cases hs:eA t with
 | none=>rw [hs] at h0;exact absurd rfl h0
 | some u=>
  rw [hs] at h0 h2;simp only at h0 h2⊢;split at h2
  ·rename_i hv;simp only [Av hv]
  ·exact absurd rfl h2
def aTq (R:Option Tm × Int)(w:Bb)(e:Ending)(w':Bb):Prop:=
 ∃(k n:Int) (ks:List Tm) (A:Ba) (c:Nat),R.1.getD (.mk 0 0 []) = .mk k n ks/\e = .returned (.tuple #[.agg (Ro k n A ks.length c),.int .i64 R.2])/\ks.length<=9223372036854775807/\RdP (λx=>w.heap.size<=x) w' A 0 ks/\Bw w w'
def aYf (t0:Tm)(w:Bb)(e:Ending)(w':Bb):Prop:=
 ∃(k n:Int) (ks:List Tm) (A:Ba) (c code:Nat),.mk k n ks=(oR t0).1/\code=(oR t0).2/\e = .returned (.tuple #[.agg (Ro k n A ks.length c),.int .i64 code])/\code<=2/\ks.length<=9223372036854775807/\aG ks<=400/\(code≠2->aE (.mk k n ks)=true)/\RdP (λx=>w.heap.size<=x) w' A 0 ks/\Bw w w'
theorem aNw (hC:mY)(k n:Int)(ks:List Tm)(A:Ba)(c:Nat)(w:Bb)(hv:aE (.mk k n ks)=true)(hl:ks.length<=9223372036854775807)(hr:Rd w A 0 ks) :
  Calls prog 131 #[.agg (Ro k n A ks.length c),.bool false] w (aYf (.mk k n ks) w):=by
 have hM:=aH hv;have hsh:=aD (aY hv);have hv':=aD hv;clear hv;go_enter func131,ntmps131;go_wp2_with (go_at_call 154;refine (aLx hC _ 30 k n ks A c _ Ac (mV _) hM hsh.out (((hr.alloc _).alloc _))).mono ?_;rintro e w1 ⟨k2,n2,ks2,A2,c2,bb,hx2,hx3,rfl,hl2,hs2,hr2,hb1⟩;replace hx2:=aD hx2;replace hx3:=aD hx3;have hB:=(((aC w 32 (Ro k n A ks.length c) rfl).alloc (.cells Zr 32)).keep hb1).alloc (.cells (Ro k2 n2 A2 ks2.length c2) 32);have hZ:Blk (w1.alloc (.cells (Ro k2 n2 A2 ks2.length c2) 32)) (w.heap.size+1) Zr:=((aC (w.alloc (.cells (Ro k n A ks.length c) 32)) 32 Zr Ag).keep hb1).alloc _;have g1:Bw w w1:=bN bw2 hb1;have s1:w.heap.size+2<=w1.heap.size:=(by have:=hb1.size;simpa using this);have g2:=g1.alloc g1.size (.cells (Ro k2 n2 A2 ks2.length c2) 32);have hK:=aC w1 32 (Ro k2 n2 A2 ks2.length c2) rfl;obtain ⟨x0,x1,x2⟩:=hB.three;obtain ⟨y0,y1,y2⟩:=hK.three)
 ·have hbf:bb=false:=xT (by assumption);have ho:=aD (aLh (aJl hx3.out hbf));refine (dF _ k n ks A c _ (mV _) Ac ((hr.below g1).alloc _)).mono ?_;rintro e w3 ⟨A3,c3,rfl,hl3,hf3,hb3⟩;replace hZ:=hZ.keep hb3;obtain ⟨d0,d1,d2,e0,e1,e2⟩:=bZ hZ;replace g2:=g2.trans (hb3.mono g2.size);go_wp2_with fail;refine bodyPost_ret (v:=.tuple #[.agg (Ro k n A3 ks.length c3),.int .i64 0]) (by simp [results,results131,go_sem,d0,d1,d2]) rfl ⟨k,n,ks,A3,c3,0,(by rw [ho.out]),(by rw [ho.out]),rfl,by omega,hl3,by omega,λ_=>hv'.out,?_,?_⟩
  ·exact (Fresh.rdp (vF hf3)).mono (λb hb=>by have:=hb.1;simp at this;omega)
  ·exact bV g2
 ·have hbb:bb=true:=wK (by assumption);have hst:=aD (aCp hx2.out hx3.out hbb);have hrx:RdP (λx=>w.heap.size+2<=x) w1 A2 0 ks2:=hr2.mono (λx hx=>by rw [hbb] at hx;simp at hx;omega);clear hr2;obtain ⟨vv,hvv0⟩:∃vv,aE (.mk k2 n2 ks2)=vv:=⟨_,rfl⟩;have hvv:=aD hvv0;refine (aR k2 n2 ks2 A2 c2 _ Ac (hrx.alloc _).rd).mono ?_;rw [hvv0];rintro e w3 ⟨rfl,hb3⟩;clear hvv0;replace hZ:=hZ.keep hb3;replace hK:=hK.keep hb3;clear y0 y1 y2;obtain ⟨y0,y1,y2⟩:=hK.three;obtain ⟨d0,d1,d2,e0,e1,e2⟩:=bZ hZ;replace g2:=g2.trans (hb3.mono g2.size);have hrx3:=(hrx.alloc (.cells (Ro k2 n2 A2 ks2.length c2) 32)).below hb3;cases vv with
  | false=>
   go_wp2_with fail;refine bodyPost_ret (v:=.tuple #[.agg Zr,.int .i64 2]) (by simp [results,results131,go_sem,d0,d1,d2]) rfl ⟨0,0,[],none,0,2,(by rw [wU hst.out hvv.out]),(by rw [wU hst.out hvv.out]),rfl,by omega,by simp,by simp [aG],λh=>absurd rfl h,RdP.nil,?_⟩;exact bV g2
  | true=>
   have hs400:=aH hvv.out;go_wp2_with fail;refine bodyPost_ret (v:=.tuple #[.agg (Ro k2 n2 A2 ks2.length c2),.int .i64 1]) (by simp [results,results131,go_sem,d0,d1,d2]) rfl ⟨k2,n2,ks2,A2,c2,1,(by rw [zM hst.out hvv.out]),(by rw [zM hst.out hvv.out]),rfl,by omega,hl2,hs400,λ_=>hvv.out,?_,?_⟩
   ·exact (((hrx3.setCell Ag _).setCell Ag _).setCell Ag _).mono (λb hb=>by omega)
   ·exact bV g2
theorem iP (hC:mY)(k n:Int)(ks:List Tm)(A:Ba)(c:Nat)(F:Nat)(hF:F<=1000)(w:Bb)(hv:aE (.mk k n ks)=true)(hl:ks.length<=9223372036854775807)(hr:Rd w A 0 ks) :
  Calls prog 105 #[.agg (Ro k n A ks.length c),.int .i64 F,.bool false] w (aTq (fQ F (.mk k n ks)) w):=by
 obtain ⟨R,hR⟩:∃R,fQ F (.mk k n ks)=R:=⟨_,rfl⟩;rw [hR];replace hR:=aD hR;go_enter func105,ntmps105;go_wp2_with fail;go_loopw [1,8,9] (λfv _ _ wr=>∃(f:Nat) (k n:Int) (ks:List Tm) (A:Ba) (c:Nat),f<=F/\Hid (fQ f (.mk k n ks)=R)/\fv = .int .i64 f/\aE (.mk k n ks)=true/\ks.length<=9223372036854775807/\Blk wr w.heap.size (Ro k n A ks.length c)/\Blk wr (w.heap.size+1) Zr/\RdP (λb=>b<w.heap.size\/w.heap.size+2<=b) wr A 0 ks/\Bw w wr)
  (λfv _ _ _ => (intOf fv).toNat)
 case atStart=>exact ⟨F,k,n,ks,A,c,mC _,hR,rfl,hv,hl,(aC _ _ _ rfl).alloc _,aC _ _ _ Ag,((hr.rdp.alloc _).alloc _).mono (λb hb=>.inl hb),bw2⟩
 case round=>
  clear hv hl hr hR;obtain ⟨f,k,n,ks,A,c,hf,hRf,rfl,hv,hl,hB,hZ,hrd,hb⟩:=hrel;have hv':=aD hv;clear hv;obtain ⟨x0,x1,x2⟩:=hB.three;have lz0:=hZ.lt;go_wp2_with (go_at_call 131;refine (aNw hC k n ks A c _ hv'.out hl hrd.rd).mono ?_;rintro e w1 ⟨k2,n2,ks2,A2,c2,code,hx2,hx3,rfl,hcd,hl2,hs2,hv2,hr2,hb1⟩;replace hB:=(hB.keep hb1).alloc (.cells (Ro k2 n2 A2 ks2.length c2) 32);replace hZ:=(hZ.keep hb1).alloc (.cells (Ro k2 n2 A2 ks2.length c2) 32);have s1:=hb1.size;have g1:=(hb.trans (hb1.mono hb.size)).alloc (by have:=hb.size;omega) (.cells (Ro k2 n2 A2 ks2.length c2) 32);have hK:=aC w1 32 (Ro k2 n2 A2 ks2.length c2) rfl;have hr3:=(hr2.alloc (.cells (Ro k2 n2 A2 ks2.length c2) 32)).mono (q:=λb=>w.heap.size+2<=b) (λb hb=>by omega);have hv3:=aD hv2;replace hx2:=aD hx2;replace hx3:=aD hx3;clear hv2 x0 x1 x2;obtain ⟨x0,x1,x2⟩:=hB.three;obtain ⟨y0,y1,y2⟩:=hK.three;obtain ⟨d0,d1,d2,e0,e1,e2⟩:=bZ hZ;obtain ⟨z0,z1,z2⟩:=bkf hB)
  ·have hc0:code=0:=by rename_i h0;have:=eq_of_beq h0;omega
   obtain rfl:R=(some (.mk k2 n2 ks2),0):=by rw [<- hRf.out,aHu (by rw [<- hx3.out];exact hc0),<- hx2.out]
   refine bodyPost_ret (v:=.tuple #[.agg (Ro k2 n2 A2 ks2.length c2),.int .i64 0]) (by simp [results,results105,go_sem,d0,d1,d2]) rfl ⟨k2,n2,ks2,A2,c2,rfl,rfl,hl2,?_,?_⟩
   ·exact (((hr3.setCell Ag _).setCell Ag _).setCell Ag _).mono (λb hb=>by omega)
   ·exact bV g1
  ·have hcb:((code:Int)==0)=false:=by assumption
   have hc0:¬(code:Int)=0:=ne_of_beq_false hcb;obtain rfl:f=0:=by omega
   obtain rfl:R=(none,1):=by rw [<- hRf.out,aHr (by rw [<- hx3.out];omega)]
   refine bodyPost_ret (v:=.tuple #[.agg Zr,.int .i64 1]) (by simp [results,results105,go_sem,d0,d1,d2]) rfl ⟨0,0,[],none,0,rfl,rfl,by simp,RdP.nil,?_⟩;exact bV g1
  ·have hc2:(code:Int)=2:=by rename_i h0;exact eq_of_beq h0
   obtain ⟨f,rfl⟩:∃g,f=g+1:=⟨f - 1,by omega⟩;obtain rfl:R=(none,2):=by rw [<- hRf.out,aFi (by rw [<- hx3.out];omega)]
   refine bodyPost_ret (v:=.tuple #[.agg Zr,.int .i64 2]) (by simp [results,results105,go_sem,d0,d1,d2]) rfl ⟨0,0,[],none,0,rfl,rfl,by simp,RdP.nil,?_⟩;exact bV g1
  ·have hc2:¬(code:Int)=2:=by rename_i h0;exact ne_of_beq_false h0
   have hcb:((code:Int)==0)=false:=by assumption
   have hc0:¬(code:Int)=0:=ne_of_beq_false hcb;have hf1:1<=f:=by omega
   have hRg:fQ (f - 1) (.mk k2 n2 ks2)=R:=by rw [<- hRf.out,show f=(f - 1)+1 from by omega,aGh (by rw [<- hx3.out];omega) (by rw [<- hx3.out];omega),<- hx2.out];rfl
   refine ⟨⟨f - 1,k2,n2,ks2,A2,c2,by omega,aD hRg,by go_num,hv3.out Ac,hl2,((hB.set_ 0 _).set_ 1 _).set_ 2 _,((hZ.far Ag _).far Ag _).far Ag _,(((hr3.setCell Ag _).setCell Ag _).setCell Ag _).mono (λb hb=>.inr hb),(bV g1)⟩,by simp [intOf];omega⟩
theorem RdX.oneCell {p:Nat->Prop}{w:Bb}:∀{ts:List Tm} {xs:List Value},RdX p w ts xs->∀u,u∈xs->u.oneCell'=true
 | [],xs,h,u,hu=>by have h:xs=[]:=h;subst h;cases hu
 | .mk k n ks::ts,xs,h,u,hu=>by
  obtain ⟨A,c,ys,rfl,hl,hr,hx⟩:=h;simp only [List.mem_cons] at hu;rcases hu with rfl|rfl|rfl|hu
  ·rfl
  ·rfl
  ·rfl
  ·exact hx.oneCell u hu
theorem tT {w:Bb}{us:List Tm}{x1:List Value}{g:Nat}{lo:Nat->Prop}(hg:w.heap[g]?=some (.cells #[] 32 (0,0)))(hlo:∀b,lo b->b<g)(hgw:g<w.heap.size)
  (ht : RdX lo w us x1) (hlen : us.length <= 1099511627776) (ad : Addr) (c : Nat) (hc : ∀ j u, x1[j]? = some u -> w.cell? (ad.add j) = some u) (ty : TypeId) :
  ∃A c' w',(Builtin.append_ #[29,29] ty #[.slice (some ⟨g,0,none⟩) 0 0,.slice (some ad) us.length c]).run prog w = .ok (.slice A us.length c') w'/\RdP (λb=>lo b\/g<=b) w' A 0 us/\w.grownBy w' (some g):=by
 obtain ⟨i,hi,hz,hz1,hz2⟩:=info_parts mJ;have k1:w.ownsRow g 32 3 (.slice (some ⟨g,0,none⟩) 0 0) 0 []:=⟨by simp,.inr ⟨g,0,#[],rfl,mC _,hg,mC _,by simp [maxLen],by simp,by simp⟩⟩;obtain ⟨v',w',hrun,hown,hgr,_,hat⟩:=run_append_own_at (P:=prog) w g 29 ty 32 i _ 3 40 Tryz.underlying29 hi hz hz1 hz2 rfl Ac _ 0 [] k1 ad us.length c x1 ht.length hc ht.oneCell
  (by simp only [maxLen]; omega) Ac Ac
 rw [Nat.zero_add,List.nil_append] at hown;obtain ⟨h2,h3⟩:=hown;rcases h3 with ⟨rfl,h0⟩|⟨g',cap,cur,rfl,hb',hg',_,_,_,htk⟩
 ·have:us=[]:=lEn h0;subst this;exact ⟨none,0,w',hrun,RdP.nil,hgr⟩
 ·refine ⟨_,_,w',hrun,RdX.rdp (.inr hb') (ht.keep (λb hb=>.inl hb) λb hb hl=>hgr.block b hl (λe=>by injection e with e;have e:b=g:=e;have:=hlo b hb;omega)) λj u hu=>?_,hgr⟩;rw [show 0+0*3+j=j by omega,cell_of_row w' g' j cur 32 (0,0) hg'];rw [<- htk,List.getElem?_take] at hu;split at hu
  ·simpa using hu
  ·cases hu
theorem qV {w:Bb}{us:List Tm}{x1:List Value}{g:Nat}{lo:Nat->Prop}(hg:w.heap[g]?=some (.cells #[] 32 (0,0)))(hlo:∀b,lo b->b<g)(hgw:g<w.heap.size)
  (ht : RdX lo w us x1) (hlen : us.length <= 1099511627776) (ad : Addr) (c : Nat) (hc : ∀ j u, x1[j]? = some u -> w.cell? (ad.add j) = some u)
  {ops:Array Oper} {rest:List Oper} {o:Oper} {a:Act} {Q:Exit->Act->Bb->Prop} (hgd:o.guard=none) (s x:Operand)
  (ho : o.op = .call { callee := .builtin .append, args := #[s, x], argTypes := #[29, 29] }) (hse : a.eval s = .slice (some ⟨g, 0, none⟩) 0 0) (hx : a.eval x = .slice (some ad) us.length c)
  (h : ∀ A' c' w', RdP (λb => lo b \/ g <= b) w' A' 0 us -> w.grownBy w' (some g) -> wpList prog ops Q rest (a.put o.dst (.slice A' us.length c')) w') :
  wpList prog ops Q (o::rest) a w:=by
 refine wpList_plain hgd λK hK=>?_
 obtain ⟨A',c',w',hrun,h2,h3⟩:=tT hg hlo hgw ht hlen ad c hc o.type;unfold Oper.wp execOp;simp only [ho,resolve,invoke,builtin,Sem.run_bind,Sem.run_pure,Result.andThen_ok,List.map_toArray,List.map_cons,List.map_nil,hse,hx,hrun];exact hK _ _ (h A' c' w' h2 h3)
theorem kN {p:Nat->Prop}{w:Bb}{us:List Tm}{x1:List Value}(k:Int)(ht:RdX p w us x1)(hpw:∀b,p b->b<w.heap.size)(hlen:us.length<=1099511627776)(g c:Nat)(hb:Blk w g x1.toArray) :
  Calls prog 67 #[.int .i64 k,.slice (some ⟨g,0,none⟩) us.length c] w (aVg p w k 0 us):=by
 have hgl:=hb.lt;go_enter func67,ntmps67;have H1:=aD (show ((w.alloc (.cells Zr 32)).alloc (.cells #[] 32)).heap[w.heap.size+1]?=some (.cells #[] 32 (0,0)) by simpa using heap_alloc_new (w.alloc (.cells Zr 32)) (.cells #[] 32));have H2:=aD (show RdX p ((w.alloc (.cells Zr 32)).alloc (.cells #[] 32)) us x1 from ht.keep (λ_ h=>h) λb hb _=>(Below.heap_alloc _ _ b (by have:=hpw b hb;simp;omega)).trans (Below.heap_alloc _ _ b (hpw b hb)));have H3:=aD (show ∀j u,x1[j]?=some u->((w.alloc (.cells Zr 32)).alloc (.cells #[] 32)).cell? (Addr.add ⟨g,0,none⟩ j)=some u from λj u hj=>by
  have:=((hb.alloc (.cells Zr 32)).alloc (.cells #[] 32)).at_ (i:=j) (v:=u) (by simpa using hj);rw [aLo];exact this)
 go_wp2_with (at_builtin;(refine qV (us:=us) (x1:=x1) (g:=w.heap.size+1) (lo:=p) H1.out (λb hb=>by have:=hpw b hb;omega) Ag H2.out hlen ⟨g,0,none⟩ c H3.out rfl _ _ rfl rfl rfl ?_);intro A' c' w2 hfr hg2;have hT:Blk w2 w.heap.size Zr:=((aC w 32 Zr rfl).alloc _).grown hg2 Ag;have d0:=hT.at_ (i:=0) rfl;have d1:=hT.at_ (i:=1) rfl;have d2:=hT.at_ (i:=2) rfl;obtain ⟨e0,e1,e2⟩:=bkf hT;have hb2:Bw w w2:=bw2.trans ⟨hg2.os,hg2.tape,hg2.output,hg2.size,λb hb=>hg2.block b Ai (λe=>by injection e with e;omega)⟩);have hzz:¬(p w.heap.size\/w.heap.size+1<=w.heap.size):=λh=>h.elim (λh=>by have:=hpw _ h;omega) (λh=>by omega)
 refine bodyPost_ret (v:=.agg (Ro k 0 A' us.length c')) (by simp [results,results67,go_sem,d0,d1,d2]) rfl ⟨A',c',rfl,by omega,?_,(bV hb2)⟩;exact (((hfr.setCell hzz _).setCell hzz _).setCell hzz _).mono (λb hb=>hb.imp id (λh=>by omega))
theorem iH {p:Nat->Prop}{w:Bb}{k n:Int}{ks:List Tm}{A:Ba}{c:Nat}{ts:List Tm}{ys:List Value}(hl:ks.length<=9223372036854775807)(hr:RdP p w A 0 ks)(hx:RdX p w ts ys):RdX p w (.mk k n ks::ts) (.int .i64 k :: .int .i64 n :: .slice A ks.length c::ys):=⟨A,c,ys,rfl,hl,hr,hx⟩
theorem kM {P:Program}{f:FuncId}{args:Array Value}{w:Bb}{Q:Ending->Bb->Prop}(h:∀wx,wx=w->Calls P f args wx Q):Calls P f args w Q:=h w rfl
theorem dH {W w:Bb}(h:Bw W w)(o:Obj):Bw W (w.alloc o):=h.alloc h.size o
theorem jE {W w:Bb}(h:Bw W w):Bw W w.drew:=h.drew
theorem oI (W:Bb):Bw W W:=eI _ _
theorem aIw {W w:Bb}(h:Bw W w){g:Nat}(hg:W.heap.size<=g)(x y z:Value):Bw W (((w.setCell ⟨g,0,none⟩ x).setCell ⟨g,1,none⟩ y).setCell ⟨g,2,none⟩ z):=((h.setCell hg _).setCell hg _).setCell hg _
theorem eC {W w:Bb}(h:Bw W w){b o:Nat}{v:Value}(hc:W.cell? ⟨b,o,none⟩=some v):w.cell? ⟨b,o,none⟩=some v:=cM h _ _ hc
theorem gK:mY:=by
 intro n n8 t0 t1 t2 m A c w hM hr;obtain ⟨b0,off0,k0,n0,ks0,A0,c0,hA0,hk0,p0,q0,r0,hl0,hr0⟩:=hr.at_ (j:=0) Ag;have hk0:t0 = .mk k0 n0 ks0:=hk0;obtain ⟨b1,off1,k1,n1,ks1,A1,c1,hA1,hk1,p1,q1,r1,hl1,hr1⟩:=hr.at_ (j:=1) Ag;have hk1:t1 = .mk k1 n1 ks1:=hk1;obtain ⟨b2,off2,k2,n2,ks2,A2,c2,hA2,hk2,p2,q2,r2,hl2,hr2⟩:=hr.at_ (j:=2) Ag;have hk2:t2 = .mk k2 n2 ks2:=hk2;obtain ⟨b3,off3,k3,n3,ks3,A3,c3,hA3,hk3,p3,q3,r3,hl3,hr3⟩:=hr.at_ (j:=3) Ag;injection hk3 with h1 h2 h3;subst h1 h2 h3;obtain ⟨bm,offm,km,nm,ksm,Am,cm,hAm,hkm,pm,qm,rm,hlm,hrm⟩:=hr3.at_ (j:=0) Ag;have hkm:m = .mk km nm ksm:=hkm;subst hk0 hk1 hk2 hkm hA0 hAm;injection hA1 with hA1;injection hA1 with h1 h2;subst h1 h2;injection hA2 with hA2;injection hA2 with h1 h2;subst h1 h2;injection hA3 with hA3;injection hA3 with h1 h2;subst h1 h2;simp only [Nat.reduceMul,Nat.zero_mul,Nat.add_zero] at p0 q0 r0 p1 q1 r1 p2 q2 r2 p3 q3 r3 pm qm rm
 have hsz:aG ks0+aG ks1+aG ks2+aG ksm<=400:=by simp only [aG,Tm.size] at hM;omega
 have hrd:=aD (show rdx 9 [.mk k0 n0 ks0,.mk k1 n1 ks1,.mk k2 n2 ks2,.mk 8 n8 [.mk km nm ksm]]=3 from rfl);go_enter func128,ntmps128;go_wp2_with (go_at_call 127;refine (eG 9 n [.mk k0 n0 ks0,.mk k1 n1 ks1,.mk k2 n2 ks2,.mk 8 n8 [.mk km nm ksm]] _ c _ Ag rfl ((hr.alloc _).alloc _)).mono ?_;rw [hrd.out];rintro e w1 ⟨rfl,hb1⟩;have hB:Blk w1 w.heap.size #[.int .i64 9,.int .i64 n,.slice (some ⟨b0,off0,none⟩) ([.mk k0 n0 ks0,.mk k1 n1 ks1,.mk k2 n2 ks2,.mk 8 n8 [.mk km nm ksm]]:List Tm).length c]:=((aC w 32 _ rfl).alloc _).keep hb1;have hZ:Blk w1 (w.heap.size+1) Zr:=(aC _ 32 _ Ag).keep hb1;have g1:Bw w w1:=bN bw2 hb1;have s1:=hZ.lt;have K1:=cM g1;have x2:=hB.at_ (i:=2) rfl;replace p0:=K1 _ _ p0;replace q0:=K1 _ _ q0;replace r0:=K1 _ _ r0;replace p1:=K1 _ _ p1;replace q1:=K1 _ _ q1;replace r1:=K1 _ _ r1;replace p2:=K1 _ _ p2;replace q2:=K1 _ _ q2;replace r2:=K1 _ _ r2;replace p3:=K1 _ _ p3;replace q3:=K1 _ _ q3;replace r3:=K1 _ _ r3;replace pm:=K1 _ _ pm;replace qm:=K1 _ _ qm;replace rm:=K1 _ _ rm;  have tok:=trivial);refine aU ?_;intro W hW;have hBW:Blk W w.heap.size #[.int .i64 9,.int .i64 n,.slice (some ⟨b0,off0,none⟩) ([.mk k0 n0 ks0,.mk k1 n1 ks1,.mk k2 n2 ks2,.mk 8 n8 [.mk km nm ksm]]:List Tm).length c]:=by rw [hW];exact hB.alloc _
 have hZW:Blk W (w.heap.size+1) Zr:=by rw [hW];exact hZ.alloc _
 have hTW:Blk W w1.heap.size (Ro km nm Am ksm.length cm):=by rw [hW];exact aC _ _ _ rfl
 have gW:Bw w W:=by rw [hW];exact g1.alloc g1.size _
 have KW:=cM gW;have sW:=gW.size;have lt1:=hTW.lt;have ls1:=hZW.lt;have sD:W.drew.heap.size=W.heap.size:=rfl;have x2:=hBW.at_ (i:=2) rfl;obtain ⟨m0,m1,m2⟩:=hTW.three;have kw:Keeps w1 W:=by rw [hW];exact Keeps.alloc _ _
 replace p0:=kw _ _ p0;replace r0:=kw _ _ r0;replace p1:=kw _ _ p1;replace r1:=kw _ _ r1;replace p2:=kw _ _ p2;replace r2:=kw _ _ r2;have q0':=kw _ _ q0;have q1':=kw _ _ q1;have q2':=kw _ _ q2;clear q0 q1 q2 hW;have e0:=hr0.below gW;have e1:=hr1.below gW;have e2:=hr2.below gW;have em:=hrm.below gW;have lWd:W.drew.heap.size=W.heap.size:=rfl;have hSof:=aD (show ∀w':Bb,Bw W w'->(λw'=>w'.cell? ⟨w.heap.size,2,none⟩=some (.slice (some ⟨b0,off0,none⟩) ([.mk k0 n0 ks0,.mk k1 n1 ks1,.mk k2 n2 ks2,.mk 8 n8 [.mk km nm ksm]]:List Tm).length c)/\w'.cell? ⟨b0,off0,none⟩=some (.int .i64 k0)/\w'.cell? ⟨b0,off0+1,none⟩=some (.int .i64 n0)/\w'.cell? ⟨b0,off0+2,none⟩=some (.slice A0 ks0.length c0)/\w'.cell? ⟨b0,off0+3,none⟩=some (.int .i64 k1)/\w'.cell? ⟨b0,off0+3+1,none⟩=some (.int .i64 n1)/\w'.cell? ⟨b0,off0+3+2,none⟩=some (.slice A1 ks1.length c1)/\w'.cell? ⟨b0,off0+6,none⟩=some (.int .i64 k2)/\w'.cell? ⟨b0,off0+6+1,none⟩=some (.int .i64 n2)/\w'.cell? ⟨b0,off0+6+2,none⟩=some (.slice A2 ks2.length c2)/\w'.cell? ⟨w1.heap.size,0,none⟩=some (.int .i64 km)/\w'.cell? ⟨w1.heap.size,1,none⟩=some (.int .i64 nm)/\w'.cell? ⟨w1.heap.size,2,none⟩=some (.slice Am ksm.length cm)) w' from λw' hb=>⟨eC hb x2,eC hb p0,eC hb q0',eC hb r0,eC hb p1,eC hb q1',eC hb r1,eC hb p2,eC hb q2',eC hb r2,eC hb m0,eC hb m1,eC hb m2⟩)
 go_cut [4] (λs4 wx=>∃(g4:Nat) (A9:Ba) (c9:Nat),s4 = .pointer (some ⟨g4,0,none⟩)/\Blk wx g4 (Ro 9 0 A9 4 c9)/\RdP (λb=>W.heap.size<=b) wx A9 0 [.mk k0 n0 ks0,.mk k1 n1 ks1,.mk k2 n2 ks2,.mk km nm ksm]/\Bw W wx/\W.heap.size<=g4)
 case first=>
  go_region_held3 (λw'=>w'.cell? ⟨w.heap.size,2,none⟩=some (.slice (some ⟨b0,off0,none⟩) ([.mk k0 n0 ks0,.mk k1 n1 ks1,.mk k2 n2 ks2,.mk 8 n8 [.mk km nm ksm]]:List Tm).length c)/\w'.cell? ⟨b0,off0,none⟩=some (.int .i64 k0)/\w'.cell? ⟨b0,off0+1,none⟩=some (.int .i64 n0)/\w'.cell? ⟨b0,off0+2,none⟩=some (.slice A0 ks0.length c0)/\w'.cell? ⟨b0,off0+3,none⟩=some (.int .i64 k1)/\w'.cell? ⟨b0,off0+3+1,none⟩=some (.int .i64 n1)/\w'.cell? ⟨b0,off0+3+2,none⟩=some (.slice A1 ks1.length c1)/\w'.cell? ⟨b0,off0+6,none⟩=some (.int .i64 k2)/\w'.cell? ⟨b0,off0+6+1,none⟩=some (.int .i64 n2)/\w'.cell? ⟨b0,off0+6+2,none⟩=some (.slice A2 ks2.length c2)/\w'.cell? ⟨w1.heap.size,0,none⟩=some (.int .i64 km)/\w'.cell? ⟨w1.heap.size,1,none⟩=some (.int .i64 nm)/\w'.cell? ⟨w1.heap.size,2,none⟩=some (.slice Am ksm.length cm)) (((refine hSof.out _ ?_);(first|((with_reducible (repeat (first|exact B7|exact B6|exact B5|exact B4|exact B3|exact oI _|refine dH ?_ _|refine jE ?_)))<;>fail)|((with_reducible refine aIw ?_ ?_ _ _ _);(rotate_left);omega;(with_reducible (repeat (first|exact B7|exact B6|exact B5|exact B4|exact B3|exact oI _|refine dH ?_ _|refine jE ?_))))))) (first
   | (go_at_call 67;have _t:=tk6;refine kM ?_;intro wx7 hwx;have Bx:Bw W wx7:=(by rw [hwx];with_reducible (repeat (first|exact B7|exact B6|exact B5|exact B4|exact B3|exact oI _|refine dH ?_ _|refine jE ?_)));have f0x:RdP (λb=>wx3.heap.size<=b/\b<w3.heap.size) wx7 B0 0 ks0:=(by rw [hwx];with_reducible (repeat (first|exact f0|refine RdP.alloc ?_ _|refine RdP.drew ?_)));have f1x:RdP (λb=>wx4.heap.size<=b/\b<w4.heap.size) wx7 B1 0 ks1:=(by rw [hwx];with_reducible (repeat (first|exact f1|refine RdP.alloc ?_ _|refine RdP.drew ?_)));have f2x:RdP (λb=>wx5.heap.size<=b/\b<w5.heap.size) wx7 B2 0 ks2:=(by rw [hwx];with_reducible (repeat (first|exact f2|refine RdP.alloc ?_ _|refine RdP.drew ?_)));have fmx:RdP (λb=>wx6.heap.size<=b/\b<w6.heap.size) wx7 Bm 0 ksm:=(by rw [hwx];with_reducible (repeat (first|exact fm|refine RdP.alloc ?_ _|refine RdP.drew ?_)));have sx7:=congrArg (λw:Bb=>w.heap.size) hwx;(try simp [lWd] at sx7);(first|(refine (λ(hQx:Blk wx7 (W.heap.size) Zr)=>?_) ?_;rotate_left;(rw [hwx];((repeat (first|with_reducible exact hQ|((with_reducible refine aC _ 32 _ ?_);(first|rfl|(simp [lWd]<;>fail)))|(with_reducible refine Blk.drew ?_)|(with_reducible refine Blk.alloc ?_ _)))<;>fail)))|(refine (λ(hQx:Blk wx7 (w3.heap.size) Zr)=>?_) ?_;rotate_left;(rw [hwx];((repeat (first|with_reducible exact hQ|((with_reducible refine aC _ 32 _ ?_);(first|rfl|(simp [lWd]<;>fail)))|(with_reducible refine Blk.drew ?_)|(with_reducible refine Blk.alloc ?_ _)))<;>fail)))|(refine (λ(hQx:Blk wx7 (w4.heap.size) Zr)=>?_) ?_;rotate_left;(rw [hwx];((repeat (first|with_reducible exact hQ|((with_reducible refine aC _ 32 _ ?_);(first|rfl|(simp [lWd]<;>fail)))|(with_reducible refine Blk.drew ?_)|(with_reducible refine Blk.alloc ?_ _)))<;>fail)))|(refine (λ(hQx:Blk wx7 (w5.heap.size) Zr)=>?_) ?_;rotate_left;(rw [hwx];((repeat (first|with_reducible exact hQ|((with_reducible refine aC _ 32 _ ?_);(first|rfl|(simp [lWd]<;>fail)))|(with_reducible refine Blk.drew ?_)|(with_reducible refine Blk.alloc ?_ _)))<;>fail)))|(refine (λ(hQx:Blk wx7 (w6.heap.size) Zr)=>?_) ?_;rotate_left;(rw [hwx];((repeat (first|with_reducible exact hQ|((with_reducible refine aC _ 32 _ ?_);(first|rfl|(simp [lWd]<;>fail)))|(with_reducible refine Blk.drew ?_)|(with_reducible refine Blk.alloc ?_ _)))<;>fail)))|(refine (λ(hQx:Blk wx7 (w6.heap.size+1) Zr)=>?_) ?_;rotate_left;(rw [hwx];((repeat (first|with_reducible exact hQ|((with_reducible refine aC _ 32 _ ?_);(first|rfl|(simp [lWd]<;>fail)))|(with_reducible refine Blk.drew ?_)|(with_reducible refine Blk.alloc ?_ _)))<;>fail)))|skip);refine (kN (p:=(λb=>(wx3.heap.size<=b/\b<w3.heap.size)\/(wx4.heap.size<=b/\b<w4.heap.size)\/(wx5.heap.size<=b/\b<w5.heap.size)\/(wx6.heap.size<=b/\b<w6.heap.size))) (us:=[.mk k0 n0 ks0,.mk k1 n1 ks1,.mk k2 n2 ks2,.mk km nm ksm]) 9 (iH hl0 (f0x.mono (λb hb=>by omega)) (iH hl1 (f1x.mono (λb hb=>by omega)) (iH hl2 (f2x.mono (λb hb=>by omega)) (iH hlm (fmx.mono (λb hb=>by omega)) rfl)))) (λb hb=>by omega) Ag _ 4 (by rw [hwx];first|exact aC _ 32 _ rfl|exact aC _ 32 _ Ag|exact (aC _ 32 _ rfl).alloc _)).mono ?_;clear hwx;rintro e w7 ⟨B9,d9,rfl,hl9,hr9,hb7⟩;have B7:Bw W w7:=Bx.trans (hb7.mono Bx.size);replace hr9:RdP (λb=>((wx3.heap.size<=b/\b<w3.heap.size)\/(wx4.heap.size<=b/\b<w4.heap.size)\/(wx5.heap.size<=b/\b<w5.heap.size)\/(wx6.heap.size<=b/\b<w6.heap.size))\/wx7.heap.size<=b) w7 B9 0 [.mk k0 n0 ks0,.mk k1 n1 ks1,.mk k2 n2 ks2,.mk km nm ksm]:=hr9;(try clear hQ);(try (have hQ:=hQx.keep hb7));(try clear hQx);(try (obtain ⟨q0,q1,q2⟩:=hQ.three));(try (have z0:=hQ.frozen 0));(try (have z1:=hQ.frozen 1));(try (have z2:=hQ.frozen 2));(try (have lq:=hQ.lt));have y7:=hb7.size;have v7:=B7.size;clear Bx f0x f1x f2x fmx)
   | (go_at_call 35;have _t:=tk5;refine kM ?_;intro wx6 hwx;have Bx:Bw W wx6:=(by rw [hwx];with_reducible (repeat (first|exact B7|exact B6|exact B5|exact B4|exact B3|exact oI _|refine dH ?_ _|refine jE ?_)));have f0x:RdP (λb=>wx3.heap.size<=b/\b<w3.heap.size) wx6 B0 0 ks0:=(by rw [hwx];with_reducible (repeat (first|exact f0|refine RdP.alloc ?_ _|refine RdP.drew ?_)));have f1x:RdP (λb=>wx4.heap.size<=b/\b<w4.heap.size) wx6 B1 0 ks1:=(by rw [hwx];with_reducible (repeat (first|exact f1|refine RdP.alloc ?_ _|refine RdP.drew ?_)));have f2x:RdP (λb=>wx5.heap.size<=b/\b<w5.heap.size) wx6 B2 0 ks2:=(by rw [hwx];with_reducible (repeat (first|exact f2|refine RdP.alloc ?_ _|refine RdP.drew ?_)));have sx6:=congrArg (λw:Bb=>w.heap.size) hwx;(try simp [lWd] at sx6);(first|(refine (λ(hQx:Blk wx6 (W.heap.size) Zr)=>?_) ?_;rotate_left;(rw [hwx];((repeat (first|with_reducible exact hQ|((with_reducible refine aC _ 32 _ ?_);(first|rfl|(simp [lWd]<;>fail)))|(with_reducible refine Blk.drew ?_)|(with_reducible refine Blk.alloc ?_ _)))<;>fail)))|(refine (λ(hQx:Blk wx6 (w3.heap.size) Zr)=>?_) ?_;rotate_left;(rw [hwx];((repeat (first|with_reducible exact hQ|((with_reducible refine aC _ 32 _ ?_);(first|rfl|(simp [lWd]<;>fail)))|(with_reducible refine Blk.drew ?_)|(with_reducible refine Blk.alloc ?_ _)))<;>fail)))|(refine (λ(hQx:Blk wx6 (w4.heap.size) Zr)=>?_) ?_;rotate_left;(rw [hwx];((repeat (first|with_reducible exact hQ|((with_reducible refine aC _ 32 _ ?_);(first|rfl|(simp [lWd]<;>fail)))|(with_reducible refine Blk.drew ?_)|(with_reducible refine Blk.alloc ?_ _)))<;>fail)))|(refine (λ(hQx:Blk wx6 (w5.heap.size) Zr)=>?_) ?_;rotate_left;(rw [hwx];((repeat (first|with_reducible exact hQ|((with_reducible refine aC _ 32 _ ?_);(first|rfl|(simp [lWd]<;>fail)))|(with_reducible refine Blk.drew ?_)|(with_reducible refine Blk.alloc ?_ _)))<;>fail)))|skip);refine (dF _ km nm ksm Am cm _ (mV _) Ac (em.keeps (cM Bx))).mono ?_;clear hwx;rintro e w6 ⟨Bm,dm,rfl,hlm',hfm,hb6⟩;have B6:Bw W w6:=Bx.trans (hb6.mono Bx.size);have fm:RdP (λb=>wx6.heap.size<=b/\b<w6.heap.size) w6 Bm 0 ksm:=Fresh.rdp hfm;replace f0:=f0x.below hb6;clear f0x;replace f1:=f1x.below hb6;clear f1x;replace f2:=f2x.below hb6;clear f2x;(try clear hQ);(try (have hQ:=hQx.keep hb6));(try clear hQx);(try (obtain ⟨q0,q1,q2⟩:=hQ.three));(try (have z0:=hQ.frozen 0));(try (have z1:=hQ.frozen 1));(try (have z2:=hQ.frozen 2));(try (have lq:=hQ.lt));have y6:=hb6.size;have v6:=B6.size;clear Bx;have tk6:=trivial)
   | (go_at_call 35;have _t:=tk4;refine kM ?_;intro wx5 hwx;have Bx:Bw W wx5:=(by rw [hwx];with_reducible (repeat (first|exact B7|exact B6|exact B5|exact B4|exact B3|exact oI _|refine dH ?_ _|refine jE ?_)));have f0x:RdP (λb=>wx3.heap.size<=b/\b<w3.heap.size) wx5 B0 0 ks0:=(by rw [hwx];with_reducible (repeat (first|exact f0|refine RdP.alloc ?_ _|refine RdP.drew ?_)));have f1x:RdP (λb=>wx4.heap.size<=b/\b<w4.heap.size) wx5 B1 0 ks1:=(by rw [hwx];with_reducible (repeat (first|exact f1|refine RdP.alloc ?_ _|refine RdP.drew ?_)));have sx5:=congrArg (λw:Bb=>w.heap.size) hwx;(try simp [lWd] at sx5);(first|(refine (λ(hQx:Blk wx5 (W.heap.size) Zr)=>?_) ?_;rotate_left;(rw [hwx];((repeat (first|with_reducible exact hQ|((with_reducible refine aC _ 32 _ ?_);(first|rfl|(simp [lWd]<;>fail)))|(with_reducible refine Blk.drew ?_)|(with_reducible refine Blk.alloc ?_ _)))<;>fail)))|(refine (λ(hQx:Blk wx5 (w3.heap.size) Zr)=>?_) ?_;rotate_left;(rw [hwx];((repeat (first|with_reducible exact hQ|((with_reducible refine aC _ 32 _ ?_);(first|rfl|(simp [lWd]<;>fail)))|(with_reducible refine Blk.drew ?_)|(with_reducible refine Blk.alloc ?_ _)))<;>fail)))|(refine (λ(hQx:Blk wx5 (w4.heap.size) Zr)=>?_) ?_;rotate_left;(rw [hwx];((repeat (first|with_reducible exact hQ|((with_reducible refine aC _ 32 _ ?_);(first|rfl|(simp [lWd]<;>fail)))|(with_reducible refine Blk.drew ?_)|(with_reducible refine Blk.alloc ?_ _)))<;>fail)))|skip);refine (dF _ k2 n2 ks2 A2 c2 _ (mV _) Ac (e2.keeps (cM Bx))).mono ?_;clear hwx;rintro e w5 ⟨B2,d2,rfl,hl2',hf2,hb5⟩;have B5:Bw W w5:=Bx.trans (hb5.mono Bx.size);have f2:RdP (λb=>wx5.heap.size<=b/\b<w5.heap.size) w5 B2 0 ks2:=Fresh.rdp hf2;replace f0:=f0x.below hb5;clear f0x;replace f1:=f1x.below hb5;clear f1x;(try clear hQ);(try (have hQ:=hQx.keep hb5));(try clear hQx);(try (obtain ⟨q0,q1,q2⟩:=hQ.three));(try (have z0:=hQ.frozen 0));(try (have z1:=hQ.frozen 1));(try (have z2:=hQ.frozen 2));(try (have lq:=hQ.lt));have y5:=hb5.size;have v5:=B5.size;clear Bx;have tk5:=trivial)
   | (go_at_call 35;have _t:=tk3;refine kM ?_;intro wx4 hwx;have Bx:Bw W wx4:=(by rw [hwx];with_reducible (repeat (first|exact B7|exact B6|exact B5|exact B4|exact B3|exact oI _|refine dH ?_ _|refine jE ?_)));have f0x:RdP (λb=>wx3.heap.size<=b/\b<w3.heap.size) wx4 B0 0 ks0:=(by rw [hwx];with_reducible (repeat (first|exact f0|refine RdP.alloc ?_ _|refine RdP.drew ?_)));have sx4:=congrArg (λw:Bb=>w.heap.size) hwx;(try simp [lWd] at sx4);(first|(refine (λ(hQx:Blk wx4 (W.heap.size) Zr)=>?_) ?_;rotate_left;(rw [hwx];((repeat (first|with_reducible exact hQ|((with_reducible refine aC _ 32 _ ?_);(first|rfl|(simp [lWd]<;>fail)))|(with_reducible refine Blk.drew ?_)|(with_reducible refine Blk.alloc ?_ _)))<;>fail)))|(refine (λ(hQx:Blk wx4 (w3.heap.size) Zr)=>?_) ?_;rotate_left;(rw [hwx];((repeat (first|with_reducible exact hQ|((with_reducible refine aC _ 32 _ ?_);(first|rfl|(simp [lWd]<;>fail)))|(with_reducible refine Blk.drew ?_)|(with_reducible refine Blk.alloc ?_ _)))<;>fail)))|skip);refine (dF _ k1 n1 ks1 A1 c1 _ (mV _) Ac (e1.keeps (cM Bx))).mono ?_;clear hwx;rintro e w4 ⟨B1,d1,rfl,hl1',hf1,hb4⟩;have B4:Bw W w4:=Bx.trans (hb4.mono Bx.size);have f1:RdP (λb=>wx4.heap.size<=b/\b<w4.heap.size) w4 B1 0 ks1:=Fresh.rdp hf1;replace f0:=f0x.below hb4;clear f0x;(try clear hQ);(try (have hQ:=hQx.keep hb4));(try clear hQx);(try (obtain ⟨q0,q1,q2⟩:=hQ.three));(try (have z0:=hQ.frozen 0));(try (have z1:=hQ.frozen 1));(try (have z2:=hQ.frozen 2));(try (have lq:=hQ.lt));have y4:=hb4.size;have v4:=B4.size;clear Bx;have tk4:=trivial)
   | (go_at_call 35;refine kM ?_;intro wx3 hwx;have Bx:Bw W wx3:=(by rw [hwx];with_reducible (repeat (first|exact B7|exact B6|exact B5|exact B4|exact B3|exact oI _|refine dH ?_ _|refine jE ?_)));have sx3:=congrArg (λw:Bb=>w.heap.size) hwx;(try simp [lWd] at sx3);(first|(refine (λ(hQx:Blk wx3 (W.heap.size) Zr)=>?_) ?_;rotate_left;(rw [hwx];((repeat (first|with_reducible exact hQ|((with_reducible refine aC _ 32 _ ?_);(first|rfl|(simp [lWd]<;>fail)))|(with_reducible refine Blk.drew ?_)|(with_reducible refine Blk.alloc ?_ _)))<;>fail)))|skip);refine (dF _ k0 n0 ks0 A0 c0 _ (mV _) Ac (e0.keeps (cM Bx))).mono ?_;clear hwx;rintro e w3 ⟨B0,d0,rfl,hl0',hf0,hb3⟩;have B3:Bw W w3:=Bx.trans (hb3.mono Bx.size);have f0:RdP (λb=>wx3.heap.size<=b/\b<w3.heap.size) w3 B0 0 ks0:=Fresh.rdp hf0;(try clear hQ);(try (have hQ:=hQx.keep hb3));(try clear hQx);(try (obtain ⟨q0,q1,q2⟩:=hQ.three));(try (have z0:=hQ.frozen 0));(try (have z1:=hQ.frozen 1));(try (have z2:=hQ.frozen 2));(try (have lq:=hQ.lt));have y3:=hb3.size;have v3:=B3.size;clear Bx;have tk3:=trivial))
  all_goals
   go_wp2_with fail;go_meet
   exact ⟨_,B9,d9,rfl,(by first|exact ((hQ.set_ 0 _).set_ 1 _).set_ 2 _|exact aC _ 32 _ rfl),(by first|exact (hr9.alloc _).mono (λb hb=>by omega)|exact (((hr9.setCell Ai _).setCell Ai _).setCell Ai _).mono (λb hb=>by omega)),(by first|exact dH B7 _|exact aIw B7 Ac _ _ _),by omega⟩
 case rest=>
  obtain ⟨g4,A9,c9,rfl,hT4,hk9,Bc,lg4⟩:=hcut;have X2:=aF (eC Bc x2);have P2:=aF (eC Bc p2);have Q2:=aF (eC Bc q2');have R2:=aF (eC Bc r2);have M0:=aF (eC Bc m0);have M1:=aF (eC Bc m1);have M2:=aF (eC Bc m2);have T0:=hT4.rule (i:=0) rfl;have T1:=hT4.rule (i:=1) rfl;have T2:=hT4.rule (i:=2) rfl;have Z0:=aD hSof;clear hSof x2 p0 q0' r0 p1 q1' r1 p2 q2' r2 m0 m1 m2 p3 q3 r3 pm qm rm;go_wp2_with fail;refine bQ (λw'=>Bw wc w') [0,1,2,3,5,9] [4,6,7,8,10,11] [12] [_,_,_,_,_,_] [_,_,_,_,_,_] [_] (by kernel_rfl) (by kernel_rfl) rfl rfl rfl (λ_ _ d _ _ h=>by cases d<;>exact h) (eI _ _).drew ?_;refine bU (aD ?_);refine bO ?_;go_wp2_with (go_at_call 35;refine (dF _ k2 n2 ks2 A2 c2 _ (mV _) Ac (e2.keeps (cM (jE Bc)))).mono ?_;rintro e u4 ⟨D4,h4,rfl,hl4',hf4,hb4⟩;have C4:Bw W u4:=(jE Bc).trans (hb4.mono (jE Bc).size);have f4:RdP (λb=>W.heap.size<=b) u4 D4 0 ks2:=(Fresh.rdp hf4).mono (λb hb=>Nat.le_trans (jE Bc).size hb.1));have G4:Bw wc u4:=(eI _ _).drew.trans hb4;have k9:=hk9.drew.below hb4;refine aS G4 (bO ?_);go_wp2_with (go_at_call 35;refine (dF _ km nm ksm Am cm _ (mV _) Ac (em.keeps (cM C4))).mono ?_;rintro e u6 ⟨D6,h6,rfl,hl6',hf6,hb6⟩;have C6:Bw W u6:=C4.trans (hb6.mono C4.size);have f6:RdP (λb=>W.heap.size<=b) u6 D6 0 ksm:=(Fresh.rdp hf6).mono (λb hb=>Nat.le_trans C4.size hb.1));have G6:Bw wc u6:=G4.trans (hb6.mono G4.size);replace k9:=k9.below hb6;replace f4:=f4.below hb6;refine aS G6 (bO ?_);go_wp2_with fail
  refine aS (dH G6 _) (bO ?_);go_wp2_with (go_at_call 67;refine (kN (us:=[.mk k2 n2 ks2,.mk km nm ksm]) 5 (iH hl2 ((f4.alloc _).lt_) (iH hlm ((f6.alloc _).lt_) rfl)) (λb hb=>hb.2) Ag _ 2 (aC _ 32 _ rfl)).mono ?_;rintro e u8 ⟨D8,h8,rfl,hl8',hk8,hb8⟩;have C8:Bw W u8:=(dH C6 _).trans (hb8.mono (dH C6 _).size);replace hk8:RdP (λb=>W.heap.size<=b) u8 D8 0 [.mk k2 n2 ks2,.mk km nm ksm]:=hk8.mono (λb hb=>hb.elim (λh=>h.1) (λh=>Nat.le_trans (dH C6 _).size h)));have G8:Bw wc u8:=(dH G6 _).trans (hb8.mono (dH G6 _).size);replace k9:=(k9.alloc _).below hb8;refine aS G8 (bO ?_);go_wp2_with fail;refine aS (dH G8 _) (bO ?_);go_wp2_with (go_at_call 67;refine (kN (us:=[.mk 5 0 [.mk k2 n2 ks2,.mk km nm ksm],.mk 9 0 [.mk k0 n0 ks0,.mk k1 n1 ks1,.mk k2 n2 ks2,.mk km nm ksm]]) 5 (iH Ag ((hk8.alloc _).lt_) (iH Ag ((k9.alloc _).lt_) rfl)) (λb hb=>hb.2) Ag _ 2 (aC _ 32 _ rfl)).mono ?_;rintro e u11 ⟨D11,h11,rfl,hl11',hk11,hb11⟩;have C11:Bw W u11:=(dH C8 _).trans (hb11.mono (dH C8 _).size);replace hk11:RdP (λb=>W.heap.size<=b) u11 D11 0 [.mk 5 0 [.mk k2 n2 ks2,.mk km nm ksm],.mk 9 0 [.mk k0 n0 ks0,.mk k1 n1 ks1,.mk k2 n2 ks2,.mk km nm ksm]]:=hk11.mono (λb hb=>hb.elim (λh=>h.1) (λh=>Nat.le_trans (dH C8 _).size h)));have G11:Bw wc u11:=(dH G8 _).trans (hb11.mono (dH G8 _).size);refine aS G11 (eB ?_);have hZ11:=hZW.keep C11;obtain ⟨d0,d1,d2⟩:=hZ11.three;have e0':=hZ11.frozen 0;have e1':=hZ11.frozen 1;have e2':=hZ11.frozen 2;have s11:=C11.size;clear X2 P2 Q2 R2 M0 M1 M2 T0 T1 T2;go_wp2_with fail
  refine bodyPost_ret (v:=.agg (Ro 5 0 D11 2 h11)) ?_ rfl ?_
  ·simp [results,results128,go_sem,d0,d1,d2]
  ·refine ⟨5,0,[.mk 5 0 [.mk k2 n2 ks2,.mk km nm ksm],.mk 9 0 [.mk k0 n0 ks0,.mk k1 n1 ks1,.mk k2 n2 ks2,.mk km nm ksm]],rfl,⟨D11,h11,rfl,by simp,?_,?_⟩,by simp only [aG,Tm.size];omega⟩
   ·exact (((hk11.setCell Ai _).setCell Ai _).setCell Ai _).mono (λb hb=>.inr Ac)
   ·exact (((gW.trans (C11.mono gW.size)).setCell Ag _).setCell Ag _).setCell Ag _
inductive Rs (α:Type) where
 | ok (a:α)
 | no (b:Bool)
def dB (b:Bool):Int:=if b=true then 1 else 2
def Rs.cd {α:Type}:Rs α->Int
 | .ok _=>0
 | .no b=>dB b
def bd {α β:Type}(o:Option (Rs α))(f:α->Option (Rs β)):Option (Rs β):=
 match o with
 | none=>none
 | some (.no b)=>some (.no b)
 | some (.ok a)=>f a
theorem pR {α β:Type}(a:α)(f:α->Option (Rs β)):bd (some (.ok a)) f=f a:=rfl
theorem aM {α β:Type}{o:Option (Rs α)}{f:α->Option (Rs β)}{r:Rs β}(h:bd o f=some r):(∃b,o=some (.no b)/\r = .no b)\/∃a,o=some (.ok a)/\f a=some r:=by
 cases o with
 | none=>cases h
 | some x=>cases x with
  | no b=>injection h with h;exact .inl ⟨b,rfl,h.symm⟩
  | ok a=>exact .inr ⟨a,rfl,h⟩
def jB (s:Tm):Rs Tm:=if aE s=true then (match (redI cA 200 s).1 with|some o=>.ok o|none=>.no false) else .no false
def tR (a b:Tm):Rs Unit:=if aE a=true/\aE b=true then (if dJ 200 a b=1 then .ok () else if dJ 200 a b=2 then .no true else .no false) else .no false
abbrev aUj:=List Tm->Tm->Option (Rs Tm)
section
variable (rec_:aUj)(ctx:List Tm)
def tB (h:Tm):Option (Rs Int):=if h.k=2 then some (.ok h.n) else some (.no true)
def iT (t:Tm):Option (Rs Int):=bd (rec_ ctx t) λs=>bd (some (jB s)) tB
def lX (kind:Int)(h:Tm):Option (Rs Tm):=if h.k=kind then some (.ok h) else some (.no true)
def yU (t:Tm)(kind:Int):Option (Rs Tm):=bd (rec_ ctx t) λs=>bd (some (jB s)) (lX kind)
def gP (t want:Tm):Option (Rs Unit):=bd (rec_ ctx t) λs=>some (tR s want)
def yR (a b:Tm):Option (Rs Tm):=bd (iT rec_ ctx a) λi=>bd (iT rec_ (ctx++[a]) b) λj=>some (.ok (.mk 2 (if j<i then i else j) []))
def aKl (a b:Tm):Option (Rs Tm):=bd (iT rec_ ctx a) λ_=>bd (rec_ (ctx++[a]) b) λu=>bd (yR rec_ ctx a u) λ_=>some (.ok (.mk 3 0 [a,u]))
def aSh (f u:Tm):Option (Rs Tm):=bd (yU rec_ ctx f 3) λh=>bd (gP rec_ ctx u (aI h.ks 0)) λ_=>some (.ok (bT u 0 0 (aI h.ks 1)))
def aKg (h:Tm):Option (Rs Unit):=if h.k=2 then some (.ok ()) else some (.no true)
def aFt (p from_:Tm):Option (Rs Unit):=bd (yU rec_ ctx p 3) λf=>bd (some (tR (aI f.ks 0) from_)) λ_=>bd (some (jB (aI f.ks 1))) aKg
def nT:Tm:=.mk 6 0 []
def eH (a b:Tm):Tm:=.mk 5 0 [a,b]
def nM (p:Tm):Tm:=.mk 3 0 [nT,.mk 3 0 [eH (bR 1 0 p) (.mk 1 0 []),eH (bR 2 0 p) (.mk 8 0 [.mk 1 1 []])]]
def aRl (p z s n:Tm):Option (Rs Tm):=bd (aFt rec_ ctx p nT) λ_=>bd (gP rec_ ctx z (eH p (.mk 7 0 []))) λ_=>bd (gP rec_ ctx s (nM p)) λ_=>bd (gP rec_ ctx n nT) λ_=>some (.ok (eH p n))
def aRi (a x y:Tm):Option (Rs Tm):=bd (iT rec_ ctx a) λi=>bd (gP rec_ ctx x a) λ_=>bd (gP rec_ ctx y a) λ_=>some (.ok (.mk 2 i []))
def aSb (p e z:Tm):Option (Rs Tm):=bd (yU rec_ ctx e 10) λh=>bd (aFt rec_ ctx p (aI h.ks 0)) λ_=>bd (gP rec_ ctx z (eH p (aI h.ks 1))) λ_=>some (.ok (eH p (aI h.ks 2)))
def aQr (s a b:Tm):Option (Rs Tm):=bd (iT rec_ ctx s) λ_=>bd (some (jB s)) λh=>bd (lX 13 h) λh=>bd (gP rec_ ctx a (aI h.ks 0)) λ_=>bd (gP rec_ ctx b (bT a 0 0 (aI h.ks 1))) λ_=>some (.ok s)
def aPg (k:Int)(p:Tm):Option (Rs Tm):=bd (yU rec_ ctx p 13) λh=>if k=15 then some (.ok (aI h.ks 0)) else some (.ok (bT (.mk 15 0 [p]) 0 0 (aI h.ks 1)))
def aUq (t:Tm):Option (Rs Tm):=bd (gP rec_ ctx t nT) λ_=>some (.ok nT)
def aRg (a:Tm):Option (Rs Tm):=bd (rec_ ctx a) λs=>bd (iT rec_ ctx s) λ_=>some (.ok (.mk 10 0 [s,a,a]))
def aEp (n:Int):Option (Rs Tm):=if (ctx.length:Int)<=n then some (.no true) else some (.ok (bR (n+1) 0 (ctx.getD (ctx.length - 1 - n.toNat) default)))
def dU:Tm->Option (Rs Tm)
 | .mk k n ks=>
  if k=3\/k=13 then yR rec_ ctx (aI ks 0) (aI ks 1)
  else if k=4 then aKl rec_ ctx (aI ks 0) (aI ks 1)
  else if k=5 then aSh rec_ ctx (aI ks 0) (aI ks 1)
  else if k=9 then aRl rec_ ctx (aI ks 0) (aI ks 1) (aI ks 2) (aI ks 3)
  else if k=10 then aRi rec_ ctx (aI ks 0) (aI ks 1) (aI ks 2)
  else if k=12 then aSb rec_ ctx (aI ks 0) (aI ks 1) (aI ks 2)
  else if k=14 then aQr rec_ ctx (aI ks 0) (aI ks 1) (aI ks 2)
  else if k=1 then aEp ctx n
  else if k=2 then (if 3<=n then some (.no true) else some (.ok (.mk 2 (n+1) [])))
  else if k=6 then some (.ok (.mk 2 0 []))
  else if k=7 then some (.ok nT)
  else if k=8 then aUq rec_ ctx (aI ks 0)
  else if k=11 then aRg rec_ ctx (aI ks 0)
  else aPg rec_ ctx k (aI ks 0)
end
def fV (o:Tm):Option (Rs Tm):=if aE o=true then some (.ok o) else some (.no false)
def bE:Nat->List Tm->Tm->Option (Rs Tm)
 | 0,_,_=>none
 | N+1,ctx,t=>if aE t=true/\ctx.length<=20 then bd (dU (bE N) ctx t) fV else some (.no false)
theorem dD {N:Nat}{ctx:List Tm}{t s:Tm}(h:bE N ctx t=some (.ok s)):aE s=true:=by
 cases N with
 | zero=>cases h
 | succ N=>
  rw [bE] at h;split at h
  ·rcases aM h with ⟨b,_,hb⟩|⟨a,_,ha⟩
   ·cases hb
   ·unfold fV at ha;split at ha
    ·injection ha with ha;injection ha with ha;subst ha;assumption
    ·injection ha with ha;cases ha
  ·injection h with h;cases h
theorem cR {s o:Tm}(h:jB s = .ok o):aE s=true/\aE o=true/\redI cA 200 s=(some o,0):=by
 unfold jB at h;split at h
 ·rename_i hv;split at h
  ·rename_i o' he;injection h with h;subst h;have h2:∀(f:Nat) (t:Tm),aE t=true->∀o,(redI cA f t).1=some o->aE o=true/\redI cA f t=(some o,0):=by
    intro f;induction f with
    | zero=>
     intro t ht o;rw [redI];cases cA t with
     | none=>intro h;injection h with h;subst h;exact ⟨ht,rfl⟩
     | some p=>intro h;cases h
    | succ f ih=>
     intro t ht o;rw [redI];cases cA t with
     | none=>intro h;injection h with h;subst h;exact ⟨ht,rfl⟩
     | some p=>
      simp only;cases hc:pB t p with
      | none=>intro h;cases h
      | some t'=>
       refine ih t' ?_ o;unfold pB at hc;split at hc
       ·cases hc
       ·split at hc
        ·cases hc
        ·unfold vO at hc;split at hc
         ·injection hc with hc;subst hc;assumption
         ·cases hc
   have:=h2 200 s hv _ he;exact ⟨hv,this.1,this.2⟩
  ·cases h
 ·cases h
theorem aDc (ku nu:Int)(us:List Tm)(hus:shape 31 (.mk ku nu us)=true)(huz:aG us<=1000000)(N:Nat):∀(k n:Int) (ks:List Tm) (A:Ba) (c:Nat) (U:Ba) (cu:Nat) (x d:Int) (q:Nat) (w:Bb),aG ks<N->aG ks<=1000000->shape q (.mk k n ks)=true->0<=x->x+q<=900->0<=d->d+q<=900->Rd w A 0 ks->Rd w U 0 us->
  ∀(k2 n2:Int) (ks2:List Tm),bT (.mk ku nu us) x d (.mk k n ks) = .mk k2 n2 ks2->
  Calls prog 92 #[.agg (Ro k n A ks.length c),.int .i64 x,.agg (Ro ku nu U us.length cu),.int .i64 d] w (rQ w k2 n2 ks2):=by
 induction N with
 | zero=>intro k n ks A c U cu x d q w hN;exact absurd hN (Nat.not_lt_zero _)
 | succ N ih=>
 intro k n ks A c U cu x d q w hN hM hsh hx0 hxq hd0 hdq hr hru kr nr ksr hfl;have hlen:=aJ ks;obtain ⟨q,rfl⟩:∃q',q=q'+1:=by cases q with|zero=>simp [shape] at hsh|succ q=>exact ⟨q,rfl⟩
 obtain ⟨ha,hm1,hm2,hkids⟩:=(bH q k n ks).1 hsh;rw [bT] at hfl;have hus':=aD hus;by_cases hk:k=1
 ·subst hk;have hks:ks=[]:=by
   have h0:aX 1=0:=rfl;rw [h0] at ha;exact lEn Ac
  subst hks;have h20:dL 1=20:=rfl;rw [h20] at hm2;clear hkids hsh ha h20;by_cases hnx:n=x
  ·rw [Av ⟨rfl,hnx⟩,bR] at hfl;injection hfl with h1 h2 h3;subst h1 h2 h3;obtain ⟨n2,hn2⟩:∃n2,(if ku=1/\0<=nu then nu+d else nu)=n2:=⟨_,rfl⟩;have hn2':=aD hn2;rw [hn2];clear hn2;subst hnx;go_enter func92,ntmps92;go_wp2_with (go_at_call 29;refine (gI _ ku nu us U cu d 0 31 _ (mV _) Ac hus'.out Ac Ac Ac (((hru.alloc _).alloc _).alloc _)).mono ?_;rw [hn2'.out];rintro e w1 ⟨A1,c1,rfl,hl1,hf1,hb1⟩;have hT:Blk w1 (w.heap.size+1+1) Zr:=(aC _ 32 _ Ag).keep hb1;obtain ⟨d0,d1,d2,e0,e1,e2⟩:=bZ hT;replace hf1:Fresh (w.heap.size+3) w1 A1 (bK d ku 0 0 us):=hf1.mono Ag;replace hb1:Bw w w1:=bw3.trans (hb1.mono Ai))
   refine bodyPost_ret (v:=.agg #[.int .i64 ku,.int .i64 n2,.slice A1 (bK d ku 0 0 us).length c1]) (by simp [results,results92,go_sem,d0,d1,d2]) rfl ⟨A1,c1,by simp,hl1,?_,?_⟩
   ·exact (vF hf1).mono Ac
   ·exact bV hb1
  ·rw [Aw (by rintro ⟨-,h⟩;exact hnx h)] at hfl;have q0:(n==x)=false:=by simpa using hnx
   by_cases hxn:x<n
   ·rw [Av ⟨rfl,hxn⟩] at hfl;injection hfl with h1 h2 h3;subst h1 h2 h3;have q2:decide (x<n)=true:=by simpa using hxn
    clear hnx;go_enter func92,ntmps92;go_wp2_with fail;go_loopw [10] (λi wr=>i = .int .i64 0/\Blk wr (w.heap.size+1+1+1) (Ro 1 (n - 1) none 0 0)/\Blk wr (w.heap.size+1+1) Zr/\Blk wr w.heap.size (Ro 1 n A 0 c)/\Bw w wr)
     (λ_ _=>0)
    case atStart=>exact ⟨rfl,aC _ _ _ Ag,(aC _ _ _ Ag).alloc _,(((aC _ _ _ rfl).alloc _).alloc _).alloc _,bw4⟩
    case round=>
     obtain ⟨rfl,hB3,hB2,hB1,hb⟩:=hrel;have b2:=hB1.at_ (i:=2) rfl;obtain ⟨c0,c1,c2⟩:=hB3.three;obtain ⟨d0,d1,d2,e0,e1,e2⟩:=bZ hB2;go_wp2_with fail;refine bodyPost_ret (v:=.agg (Ro 1 (n - 1) none 0 0)) (by simp [results,results92,go_sem,d0,d1,d2]) rfl ⟨none,0,by simp [cE],by simp [cE],?_,?_⟩
     ·simpa [cE] using (Fresh.nil:Fresh w.heap.size _ none [])
     ·exact bV hb
   ·rw [Aw (by rintro ⟨-,h⟩;exact hxn h)] at hfl;injection hfl with h1 h2 h3;subst h1 h2 h3;have q2:decide (x<n)=false:=by simpa using hxn
    clear hnx;go_enter func92,ntmps92;go_wp2_with fail;go_loopw [10] (λi wr=>i = .int .i64 0/\Blk wr (w.heap.size+1+1+1) (Ro 1 (n) none 0 0)/\Blk wr (w.heap.size+1+1) Zr/\Blk wr w.heap.size (Ro 1 n A 0 c)/\Bw w wr)
     (λ_ _=>0)
    case atStart=>exact ⟨rfl,aC _ _ _ Ag,(aC _ _ _ Ag).alloc _,(((aC _ _ _ rfl).alloc _).alloc _).alloc _,bw4⟩
    case round=>
     obtain ⟨rfl,hB3,hB2,hB1,hb⟩:=hrel;have b2:=hB1.at_ (i:=2) rfl;obtain ⟨c0,c1,c2⟩:=hB3.three;obtain ⟨d0,d1,d2,e0,e1,e2⟩:=bZ hB2;go_wp2_with fail;refine bodyPost_ret (v:=.agg (Ro 1 (n) none 0 0)) (by simp [results,results92,go_sem,d0,d1,d2]) rfl ⟨none,0,by simp [cE],by simp [cE],?_,?_⟩
     ·simpa [cE] using (Fresh.nil:Fresh w.heap.size _ none [])
     ·exact bV hb
 ·have hn:¬(k=1/\n=x):=by rintro ⟨h,-⟩;exact hk h
  rw [Aw hn,Aw (by rintro ⟨h,-⟩;exact hk h)] at hfl;injection hfl with h1 h2 h3;subst h1 h2 h3;have hkids':=aD hkids;have hm2':=aD hm2;clear hkids ha hsh hm2;have q1:(k==1)=false:=by simpa using hk
  clear hn hk;go_enter func92,ntmps92;go_wp2_with fail;go_loopw [10,11] (λi _ wr=>∃(j:Nat) (v:Value),j<=ks.length/\i = .int .i64 j/\Part (w.heap.size+4) wr v (cE (.mk ku nu us) k x d 0 (ks.take j))/\Blk wr (w.heap.size+1+1+1) #[.int .i64 k,.int .i64 (n),v]/\Blk wr (w.heap.size+1+1) Zr/\Blk wr (w.heap.size+1) (Ro ku nu U us.length cu)/\Blk wr w.heap.size (Ro k n A ks.length c)/\Bw w wr)
   (λi _ _=>ks.length - (intOf i).toNat)
  case atStart=>exact ⟨0,_,Nat.zero_le _,rfl,Part.nil,aC _ _ _ Ag,(aC _ _ _ Ag).alloc _,((aC _ _ _ Ag).alloc _).alloc _,(((aC _ _ _ rfl).alloc _).alloc _).alloc _,bw4⟩
  case round=>
   obtain ⟨j,v,hj,rfl,hp,hB3,hB2,hBu,hB1,hb⟩:=hrel;have c12:=hB1.at_ (i:=2) rfl;have c10:=hB1.at_ (i:=0) rfl;by_cases hlt:j<ks.length
   ·obtain ⟨b,off,k',n',ks',A',c',rfl,hkj,hc1,hc2,hc3,hl',hr'⟩:=(hr.below hb).at_ hlt;have hsz:=cG (gM hlt);have hsk:=hkids'.out _ (gM hlt);rw [hkj] at hsz hsk;simp only [Tm.size] at hsz;have H3:=aD hkj;have H4:=aD hsk;clear hkj hsk;have hz:=hB3.lt;obtain ⟨k2,n2,ks2,hct⟩:∃k2 n2 ks2,bT (.mk ku nu us) (x+aN k j) (d+aN k j) (.mk k' n' ks') = .mk k2 n2 ks2:=gQ _;have hct':=aD hct;clear hct;have hun:=dA k j;go_wp2_with (go_at_call 44;refine (nR _ _ _).mono ?_;rintro e w9 ⟨rfl,rfl⟩);have x2:=hB3.rule (i:=2) rfl;have a0:=hBu.rule (i:=0) rfl;have a1:=hBu.rule (i:=1) rfl;have a2:=hBu.rule (i:=2) rfl;have b2:=hB1.rule (i:=2) rfl;obtain ⟨y0,y1,y2⟩:=pG hc1 hc2 hc3;refine bQ (λw'=>Bw wr w') [0,1,2,3,4,5,6,7,8,9,10,11,12,13] [14,15] [16,17,18] [_,_,_,_,_,_,_,_,_,_,_,_,_,_] [_,_] [_,_,_] (by kernel_rfl) (by kernel_rfl) rfl rfl rfl (λ_ _ d _ _ h=>by cases d<;>exact h) (eI _ _).drew ?_;refine bU (aD ?_);refine bO ?_;go_wp2_with (go_at_call 92;refine (ih k' n' ks' A' c' U cu (x+aN k j) (d+aN k j) q _ Ac Ac H4.out Ac Ac Ac Ac hr'.drew (hru.below hb).drew k2 n2 ks2 hct'.out).mono ?_;rintro e w1 ⟨A1,c1,rfl,hl1,hf1,hb1⟩);have hx1:Bw wr w1:=(eI _ _).drew.trans hb1;refine aS hx1 (bO ?_);go_wp2_with fail
    refine aS (hx1.alloc hx1.size _) (eB ?_);refine cZ (B:=w.heap.size+4) (m:=j) hp.drew hb1 Ai hf1 hl1 (by rw [dQ];simp;omega) Ac rfl (.tmp 54) (.tmp 68) rfl rfl rfl ?_;intro A2 c2 w2 hp2 hb2 hg2;have q3:Blk w2 (w.heap.size+1+1+1) #[.int .i64 k,.int .i64 (n),v]:=(hB3.below hx1 Ac).below hb2 Ac;have q2:Blk w2 (w.heap.size+1+1) Zr:=(hB2.below hx1 Ac).below hb2 Ac;have qu:Blk w2 (w.heap.size+1) (Ro ku nu U us.length cu):=(hBu.below hx1 Ac).below hb2 Ac;have q1':Blk w2 w.heap.size (Ro k n (some ⟨b,off,none⟩) ks.length c):=(hB1.below hx1 Ac).below hb2 Ac;have c3:w2.cell? ⟨w.heap.size+1+1+1,2,none⟩=some v:=q3.at_ rfl;have z3:=q3.frozen 2;have hbf:Bw w w2:=(hb.trans (hx1.mono Ac)).trans (hb2.mono Ac);clear x2 y0 y1 y2 b2 a0 a1 a2;go_wp2_with fail;go_roundw
    case rel=>exact ⟨j+1,_,by omega,by go_num,by rw [zS _ k x d hlt,H3.out,hct'.out];exact hp2.setCell Ag _,q3.set_ 2 _,q2.far Ag _,qu.far Ag _,q1'.far Ai _,hbf.setCell Ai _⟩
    case measure=>simp [intOf];omega
   ·have hjl:j=ks.length:=by omega
    subst hjl;rw [List.take_length] at hp;obtain ⟨Ar,cr,rfl,hfr⟩:=hp.fresh;obtain ⟨c0,c1,c2⟩:=hB3.three;obtain ⟨d0,d1,d2,e0,e1,e2⟩:=bZ hB2;go_wp2_with fail;refine bodyPost_ret (v:=.agg #[.int .i64 k,.int .i64 (n),.slice Ar (cE (.mk ku nu us) k x d 0 ks).length cr]) (by simp [results,results92,go_sem,d0,d1,d2]) rfl ⟨Ar,cr,rfl,by rw [dQ];omega,?_,?_⟩
    ·exact (vF hfr).mono Ac
    ·exact bV hb
def vb {α:Type}(t:Tm)(f:Option (Rs α)):Option (Rs α):=if aE t=true then f else some (.no false)
theorem qP {α:Type}{t:Tm}{f:Option (Rs α)}{r:Rs α}(h:vb t f=some r):(aE t=true/\f=some r)\/(aE t=false/\r = .no false):=by
 unfold vb at h;split at h
 ·exact .inl ⟨‹_›,h⟩
 ·exact .inr ⟨Bool.eq_false_iff.2 ‹_›,(Option.some.inj h).symm⟩
theorem aDa {α:Type}{t:Tm}{f:Option (Rs α)}{a:α}(h:vb t f=some (.ok a)):aE t=true/\f=some (.ok a):=by
 rcases qP h with h|⟨_,h⟩
 ·exact h
 ·cases h
theorem nD {t:Tm}{r:Rs Tm}(h:fV t=some r):(aE t=true/\r = .ok t)\/(aE t=false/\r = .no false):=by
 unfold fV at h;split at h
 ·exact .inl ⟨‹_›,(Option.some.inj h).symm⟩
 ·exact .inr ⟨Bool.eq_false_iff.2 ‹_›,(Option.some.inj h).symm⟩
def qJ (o:Option (Rs Tm)):Option (Rs Int):=bd o λs=>bd (some (jB s)) tB
def sL (o:Option (Rs Tm))(kind:Int):Option (Rs Tm):=bd o λs=>bd (some (jB s)) (lX kind)
def lC (o:Option (Rs Tm))(want:Tm):Option (Rs Unit):=bd o λs=>some (tR s want)
def faV (o:Option (Rs Tm))(t:Tm):Option (Rs Unit):=bd (sL o 3) λf=>bd (some (tR (aI f.ks 0) t)) λ_=>bd (some (jB (aI f.ks 1))) aKg
def jS (rec_:Tm->Option (Rs Tm))(ctx:List Tm)(t:Tm)(ty:Nat->Option (Rs Tm)):Option (Rs Tm):=
 if t.k=1 then (if (ctx.length:Int)<=t.n then some (.no true) else fV (bR (t.n+1) 0 (ctx.getD (ctx.length - 1 - t.n.toNat) default)))
 else if t.k=2 then (if t.n=3 then some (.no true) else some (.ok (.mk 2 (t.n+1) [])))
 else if t.k=6 then some (.ok (.mk 2 0 []))
 else if t.k=7 then some (.ok nT)
 else if t.k=8 then bd (lC (ty 0) nT) λ_=>some (.ok nT)
 else if t.k=3\/t.k=13 then bd (qJ (ty 0)) λi=>bd (qJ (ty 1)) λj=>some (.ok (.mk 2 (if j<i then i else j) []))
 else if t.k=4 then bd (qJ (ty 0)) λ_=>bd (ty 1) λu=>bd (rec_ (.mk 3 0 [aI t.ks 0,u])) λ_=>fV (.mk 3 0 [aI t.ks 0,u])
 else if t.k=5 then bd (sL (ty 0) 3) λh=>bd (lC (ty 1) (aI h.ks 0)) λ_=>fV (bT (aI t.ks 1) 0 0 (aI h.ks 1))
 else if t.k=9 then bd (faV (ty 0) nT) λ_=>vb (eH (aI t.ks 0) (.mk 7 0 [])) (bd (lC (ty 1) (eH (aI t.ks 0) (.mk 7 0 []))) λ_=>vb (nM (aI t.ks 0)) (bd (lC (ty 2) (nM (aI t.ks 0))) λ_=>bd (lC (ty 3) nT) λ_=>fV (eH (aI t.ks 0) (aI t.ks 3))))
 else if t.k=10 then bd (qJ (ty 0)) λi=>bd (lC (ty 1) (aI t.ks 0)) λ_=>bd (lC (ty 2) (aI t.ks 0)) λ_=>some (.ok (.mk 2 i []))
 else if t.k=11 then bd (ty 0) λs=>bd (qJ (rec_ s)) λ_=>fV (.mk 10 0 [s,aI t.ks 0,aI t.ks 0])
 else if t.k=12 then bd (sL (ty 1) 10) λe=>bd (faV (ty 0) (aI e.ks 0)) λ_=>vb (eH (aI t.ks 0) (aI e.ks 1)) (bd (lC (ty 2) (eH (aI t.ks 0) (aI e.ks 1))) λ_=>fV (eH (aI t.ks 0) (aI e.ks 2)))
 else if t.k=14 then bd (qJ (ty 0)) λ_=>bd (some (jB (aI t.ks 0))) λh=>bd (lX 13 h) λh=>bd (lC (ty 1) (aI h.ks 0)) λ_=>vb (bT (aI t.ks 1) 0 0 (aI h.ks 1)) (bd (lC (ty 2) (bT (aI t.ks 1) 0 0 (aI h.ks 1))) λ_=>some (.ok (aI t.ks 0)))
 else if t.k=15 then bd (sL (ty 0) 13) λh=>some (.ok (aI h.ks 0))
 else bd (sL (ty 0) 13) λh=>fV (bT (.mk 15 0 [aI t.ks 0]) 0 0 (aI h.ks 1))
def jL (rec_:List Tm->Tm->Option (Rs Tm))(ctx:List Tm)(t:Tm)(i:Nat):Option (Rs Tm):=
 if aN t.k i=0 then rec_ ctx (aI t.ks i) else rec_ (ctx++[aI t.ks 0]) (aI t.ks i)
def hE (f:List Tm->Tm->Option (Rs Tm))(ctx:List Tm)(t:Tm):Option (Rs Tm):=if aE t=true then f ctx t else some (.no false)
theorem vS {f:List Tm->Tm->Option (Rs Tm)}{ctx:List Tm}{t:Tm}(h:aE t=true):hE f ctx t=f ctx t:=Av h
theorem aPn {f:List Tm->Tm->Option (Rs Tm)}{ctx:List Tm}{t:Tm}{r:Rs Tm}(h:hE f ctx t=some r)(hv:aE t=false):r = .no false:=by
 rw [hE,Aw (by rw [hv];decide)] at h;exact (Option.some.inj h).symm
def bW:Nat->List Tm->Tm->Option (Rs Tm)
 | 0,_,_=>none
 | N+1,ctx,t=>if aE t=true/\ctx.length<=20 then jS (hE (bW N) ctx) ctx t (jL (bW N) ctx t) else if aE t=true then some (.no false) else none
end Go.Proofs.YtjlaenhcemacdaaGreat
