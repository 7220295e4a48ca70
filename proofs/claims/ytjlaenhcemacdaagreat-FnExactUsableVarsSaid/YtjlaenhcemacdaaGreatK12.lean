/- Parts of the proof. No condition. -/
import Derived.Test.YtjlaenhcemacdaaGreatK11
open Go.Proofs.Tryz
namespace Go.Proofs.YtjlaenhcemacdaaGreat
open Go.RowKit
set_option maxHeartbeats 8000000
set_option maxRecDepth 100000
set_option linter.unusedSimpArgs false
set_option linter.unusedVariables false
def aTm (w:World)(u:Tm)(e:Ending)(w':World):Prop:=
 ∃k n ks A c,u = .mk k n ks∧e = .returned (.agg (Ro k n A ks.length c))∧ks.length≤9223372036854775807∧Rd w A 0 ks∧Bw w w'
theorem aAs (k n:Int)(ks:List Tm)(A:Option Addr)(c:Nat)(xs:List Int)(P:Option Addr)(cp:Nat)(w:World)(hM:aG ks≤1000000000)(hx:xs.length≤9223372036854775807)(hr:Rd w A 0 ks)(hi:RdI w P xs){u:Tm}(hu:mK (.mk k n ks) xs=some u) :
  Calls prog 134 #[.agg (Ro k n A ks.length c),.slice P xs.length cp] w (aTm w u):=by
 have hlen:=aJ ks;have hu':=aD hu;clear hu;go_enter func134,ntmps134;go_wp2_with fail
 go_loopw [9] (fun i wr=>∃(j:Nat) (k1 n1:Int) (ks1:List Tm) (A1:Option Addr) (c1:Nat),j≤xs.length∧i = .int .i64 j∧Hid (mK (.mk k n ks) (xs.take j)=some (.mk k1 n1 ks1))∧ks1.length≤9223372036854775807∧Rd w A1 0 ks1∧Blk wr w.heap.size (Ro k1 n1 A1 ks1.length c1)∧Blk wr (w.heap.size+1) Zr∧Bw w wr)
  (fun i _ => xs.length - (intOf i).toNat)
 case atStart=>exact ⟨0,k,n,ks,A,c,Nat.zero_le _,rfl,aD rfl,by omega,hr,(aC _ _ _ rfl).alloc _,aC _ _ _ (by simp),bw2⟩
 case round=>
  obtain ⟨j,k1,n1,ks1,A1,c1,hj,rfl,hat,hl1,hr1,hB1,hB2,hb⟩:=hrel;have lB2:=hB2.lt;by_cases hlt:j<xs.length
  ·obtain ⟨b,off,rfl,hc⟩:=hi.below hb j hlt;have hnx:=aMc hlt hat.out;have hne:mK (.mk k n ks) (xs.take (j+1))≠none:=fun h=>by have:=aLg h;rw [hu'.out] at this;cases this
   generalize hxj:xs[j]=x at hc hnx
   have hxj':=aD hxj;clear hxj;by_cases hin:0≤x∧x<ks1.length
   ·obtain ⟨i,rfl⟩:∃i:Nat,x=(i:Int):=⟨x.toNat,by omega⟩;have hik:i<ks1.length:=by omega
    obtain ⟨b3,off3,k3,n3,ks3,A3,c3,rfl,hkj3,hd1,hd2,hd3,hl3,hr3⟩:=hr1.at_ hik;have hst:mK (.mk k n ks) (xs.take (j+1))=some (.mk k3 n3 ks3):=by
     rw [hnx,if_pos (show 0≤(i:Int)∧(i:Int)<(Tm.mk k1 n1 ks1).kids.length from hin),Int.toNat_natCast,show (Tm.mk k1 n1 ks1).kids=ks1 from rfl,List.getD_eq_getElem?_getD,qR hik,Option.getD_some,hkj3]
    have hst':=aD hst;clear hkj3 hst hnx hne;have z2:=(cM hb) _ _ hd1;have z3:=(cM hb) _ _ hd2;have z4:=(cM hb) _ _ hd3;have cc2:wr.cell? ⟨w.heap.size,2,none⟩=some (.slice (some ⟨b3,off3,none⟩) ks1.length c1):=hB1.at_ rfl;have cc0:wr.cell? ⟨w.heap.size,0,none⟩=some (.int .i64 k1):=hB1.at_ rfl;have cc1:wr.cell? ⟨w.heap.size,1,none⟩=some (.int .i64 n1):=hB1.at_ rfl;obtain ⟨f0,f1,f2⟩:=bkf hB1;go_wp2_with fail
    go_roundw
    case rel=>exact ⟨j+1,k3,n3,ks3,A3,c3,by omega,by go_num,hst',hl3,hr3,((hB1.set_ 0 _).set_ 1 _).set_ 2 _,((hB2.far (by simp) _).far (by simp) _).far (by simp) _,(bP hb)⟩
    case measure=>simp [intOf];omega
   ·exact absurd (by rw [hnx,if_neg (show ¬(0≤x∧x<(Tm.mk k1 n1 ks1).kids.length) from hin)]) hne
  ·have hjl:j=xs.length:=by omega
   subst hjl;have hut:u = .mk k1 n1 ks1:=by have:=hat.out;rw [List.take_length,hu'.out] at this;exact Option.some.inj this
   subst hut;have cc0:wr.cell? ⟨w.heap.size,0,none⟩=some (.int .i64 k1):=hB1.at_ rfl;have cc1:wr.cell? ⟨w.heap.size,1,none⟩=some (.int .i64 n1):=hB1.at_ rfl;have cc2:wr.cell? ⟨w.heap.size,2,none⟩=some (.slice A1 ks1.length c1):=hB1.at_ rfl;have d0:wr.cell? ⟨w.heap.size+1,0,none⟩=some (.int .i64 0):=hB2.at_ rfl;have d1:wr.cell? ⟨w.heap.size+1,1,none⟩=some (.int .i64 0):=hB2.at_ rfl;have d2:wr.cell? ⟨w.heap.size+1,2,none⟩=some (.slice none 0 0):=hB2.at_ rfl;obtain ⟨e0,e1,e2⟩:=bkf hB2;go_wp2_with fail
   refine bodyPost_ret (v:=.agg (Ro k1 n1 A1 ks1.length c1)) (by simp [results,results134,go_sem,d0,d1,d2]) rfl ⟨_,_,_,A1,c1,rfl,rfl,hl1,hr1,?_⟩;exact bP hb
def aSy:Tm:=.mk 6 0 []
def rF (s:Tm)(kind:Int):Option Tm:=
 if aE s=true then (match redI bV 200 s with|(some o,c)=>if c=0∧o.k=kind then some o else none|(none,_)=>none) else none
def aBs (a b:Tm):Bool:=aE a && aE b && (eP 200 a b==1)
def lvS (o:Option Tm):Option Int:=match o with|none=>none|some s=>(rF s 2).map (fun h=>h.n)
def aDi (o:Option Tm)(want:Tm):Bool:=match o with|some s=>aBs s want|none=>false
def fmS (o:Option Tm)(kind:Int):Option Tm:=match o with|none=>none|some s=>rF s kind
def aEc (o:Option Tm)(t:Tm):Bool:=match fmS o 3 with|some s=>aBs (aI s.ks 0) t && (rF (aI s.ks 1) 2).isSome|none=>false
def aFf (v:Tm)(m:Nat)(w:World)(e:Ending)(w':World):Prop:=∃k n ks,v = .mk k n ks∧aRu (fun _=>False) w k n ks e w'∧aG ks+1≤m
theorem vY (n:Int)(t0 t1 t2 t3:Tm)(A:Option Addr)(c:Nat)(w:World)(hM:aG [t0,t1,t2,t3]≤400)(hrd:rdx 9 [t0,t1,t2,t3]=2)(hr:Rd w A 0 [t0,t1,t2,t3]) :
  Calls prog 128 #[.agg #[.int .i64 9,.int .i64 n,.slice A ([t0,t1,t2,t3]:List Tm).length c]] w (aFf t1 190000 w):=by
 have hrd:=aD hrd;obtain ⟨b,off,k1,n1,ks1,A1,c1,hA,hk1,p1,q1,r1,hl1,hr1⟩:=hr.at_ (j:=1) (by simp);have hk1:t1 = .mk k1 n1 ks1:=hk1;subst hk1 hA;simp only [Nat.reduceMul,Nat.zero_mul,Nat.add_zero] at p1 q1 r1
 have hsz:aG ks1≤400:=by simp only [aG,Tm.size] at hM;omega
 go_enter func128,ntmps128;go_wp2_with (first
  | (go_at_call 35;have _t:=tok;refine (eI _ k1 n1 ks1 A1 c1 _ (oH _) (by omega) (hr1.keeps K1)).mono ?_;rintro e w2 ⟨A2,c2,rfl,hl2,hf2,hb2⟩;replace hZ:=hZ.keep hb2;obtain ⟨d0,d1,d2,e0,e1,e2⟩:=bW hZ;replace g1:=g1.trans (hb2.mono g1.size))
  | (go_at_call 127;refine (dY 9 n [t0,.mk k1 n1 ks1,t2,t3] _ c _ (by simp) rfl ((hr.alloc _).alloc _)).mono ?_;rw [hrd.out];rintro e w1 ⟨rfl,hb1⟩;have hB:Blk w1 w.heap.size #[.int .i64 9,.int .i64 n,.slice (some ⟨b,off,none⟩) ([t0,.mk k1 n1 ks1,t2,t3]:List Tm).length c]:=((aC w 32 _ rfl).alloc _).keep hb1;have hZ:Blk w1 (w.heap.size+1) Zr:=(aC _ 32 _ (by simp)).keep hb1;have g1:Bw w w1:=bU bw2 hb1;have s1:=hZ.lt;have K1:=cM g1;have x2:=hB.at_ (i:=2) rfl;have tok:=trivial;replace p1:=K1 _ _ p1;replace q1:=K1 _ _ q1;replace r1:=K1 _ _ r1))
 refine bodyPost_ret (v:=.agg (Ro k1 n1 A2 ks1.length c2)) (by simp [results,results128,go_sem,d0,d1,d2]) rfl ⟨k1,n1,ks1,rfl,⟨A2,c2,rfl,hl2,?_,?_⟩,by omega⟩
 ·exact (Fresh.rdp (tT hf2)).mono (fun b hb=>.inr (by have h0:w1.drew.heap.size=w1.heap.size:=rfl;have:=hb.1;omega))
 ·exact bP g1
theorem vF (n:Int)(t0 t1 t2:Tm)(A:Option Addr)(c:Nat)(w:World)(hM:aG [t0,t1,t2]≤400)(hrd:rdx 12 [t0,t1,t2]=4)(hr:Rd w A 0 [t0,t1,t2]) :
  Calls prog 128 #[.agg #[.int .i64 12,.int .i64 n,.slice A ([t0,t1,t2]:List Tm).length c]] w (aFf t2 190000 w):=by
 have hrd:=aD hrd;obtain ⟨b,off,k1,n1,ks1,A1,c1,hA,hk1,p1,q1,r1,hl1,hr1⟩:=hr.at_ (j:=2) (by simp);have hk1:t2 = .mk k1 n1 ks1:=hk1;subst hk1 hA;simp only [Nat.reduceMul,Nat.zero_mul,Nat.add_zero] at p1 q1 r1
 have hsz:aG ks1≤400:=by simp only [aG,Tm.size] at hM;omega
 go_enter func128,ntmps128;go_wp2_with (first
  | (go_at_call 35;have _t:=tok;refine (eI _ k1 n1 ks1 A1 c1 _ (oH _) (by omega) (hr1.keeps K1)).mono ?_;rintro e w2 ⟨A2,c2,rfl,hl2,hf2,hb2⟩;replace hZ:=hZ.keep hb2;obtain ⟨d0,d1,d2,e0,e1,e2⟩:=bW hZ;replace g1:=g1.trans (hb2.mono g1.size))
  | (go_at_call 127;refine (dY 12 n [t0,t1,.mk k1 n1 ks1] _ c _ (by simp) rfl ((hr.alloc _).alloc _)).mono ?_;rw [hrd.out];rintro e w1 ⟨rfl,hb1⟩;have hB:Blk w1 w.heap.size #[.int .i64 12,.int .i64 n,.slice (some ⟨b,off,none⟩) ([t0,t1,.mk k1 n1 ks1]:List Tm).length c]:=((aC w 32 _ rfl).alloc _).keep hb1;have hZ:Blk w1 (w.heap.size+1) Zr:=(aC _ 32 _ (by simp)).keep hb1;have g1:Bw w w1:=bU bw2 hb1;have s1:=hZ.lt;have K1:=cM g1;have x2:=hB.at_ (i:=2) rfl;have tok:=trivial;replace p1:=K1 _ _ p1;replace q1:=K1 _ _ q1;replace r1:=K1 _ _ r1))
 refine bodyPost_ret (v:=.agg (Ro k1 n1 A2 ks1.length c2)) (by simp [results,results128,go_sem,d0,d1,d2]) rfl ⟨k1,n1,ks1,rfl,⟨A2,c2,rfl,hl2,?_,?_⟩,by omega⟩
 ·exact (Fresh.rdp (tT hf2)).mono (fun b hb=>.inr (by have h0:w1.drew.heap.size=w1.heap.size:=rfl;have:=hb.1;omega))
 ·exact bP g1
theorem wQ (n n0:Int)(s0 s1 s2:Tm)(A:Option Addr)(c:Nat)(w:World)(hM:aG [.mk 14 n0 [s0,s1,s2]]≤400)(hr:Rd w A 0 [.mk 14 n0 [s0,s1,s2]]) :
  Calls prog 128 #[.agg #[.int .i64 15,.int .i64 n,.slice A ([.mk 14 n0 [s0,s1,s2]]:List Tm).length c]] w (aFf s1 190000 w):=by
 have hrd:=aD (show rdx 15 [.mk 14 n0 [s0,s1,s2]]=5 from rfl);obtain ⟨b,off,k0',n0',ks0,A0,c0,hA,hk0,p0,q0,r0,hl0,hr0⟩:=hr.at_ (j:=0) (by simp);injection hk0 with h1 h2 h3;subst h1 h2 h3;obtain ⟨b1,off1,k1,n1,ks1,A1,c1,hA0,hk1,p1,q1,r1,hl1,hr1⟩:=hr0.at_ (j:=1) (by simp);have hk1:s1 = .mk k1 n1 ks1:=hk1;subst hk1 hA hA0;simp only [Nat.reduceMul,Nat.zero_mul,Nat.add_zero] at p0 q0 r0 p1 q1 r1
 have hsz:aG ks1≤400:=by simp only [aG,Tm.size] at hM;omega
 go_enter func128,ntmps128;go_wp2_with (first
  | (go_at_call 35;have _t:=tok;refine (eI _ k1 n1 ks1 A1 c1 _ (oH _) (by omega) (hr1.keeps K1)).mono ?_;rintro e w2 ⟨A2,c2,rfl,hl2,hf2,hb2⟩;replace hZ:=hZ.keep hb2;obtain ⟨d0,d1,d2,e0,e1,e2⟩:=bW hZ;replace g1:=g1.trans (hb2.mono g1.size))
  | (go_at_call 127;refine (dY 15 n [.mk 14 n0 [s0,.mk k1 n1 ks1,s2]] _ c _ (by simp) rfl ((hr.alloc _).alloc _)).mono ?_;rw [hrd.out];rintro e w1 ⟨rfl,hb1⟩;have hB:Blk w1 w.heap.size #[.int .i64 15,.int .i64 n,.slice (some ⟨b,off,none⟩) ([.mk 14 n0 [s0,.mk k1 n1 ks1,s2]]:List Tm).length c]:=((aC w 32 _ rfl).alloc _).keep hb1;have hZ:Blk w1 (w.heap.size+1) Zr:=(aC _ 32 _ (by simp)).keep hb1;have g1:Bw w w1:=bU bw2 hb1;have s1:=hZ.lt;have K1:=cM g1;have x2:=hB.at_ (i:=2) rfl;have tok:=trivial;replace p0:=K1 _ _ p0;replace q0:=K1 _ _ q0;replace r0:=K1 _ _ r0;replace p1:=K1 _ _ p1;replace q1:=K1 _ _ q1;replace r1:=K1 _ _ r1))
 refine bodyPost_ret (v:=.agg (Ro k1 n1 A2 ks1.length c2)) (by simp [results,results128,go_sem,d0,d1,d2]) rfl ⟨k1,n1,ks1,rfl,⟨A2,c2,rfl,hl2,?_,?_⟩,by omega⟩
 ·exact (Fresh.rdp (tT hf2)).mono (fun b hb=>.inr (by have h0:w1.drew.heap.size=w1.heap.size:=rfl;have:=hb.1;omega))
 ·exact bP g1
theorem wO (n n0:Int)(s0 s1 s2:Tm)(A:Option Addr)(c:Nat)(w:World)(hM:aG [.mk 14 n0 [s0,s1,s2]]≤400)(hr:Rd w A 0 [.mk 14 n0 [s0,s1,s2]]) :
  Calls prog 128 #[.agg #[.int .i64 16,.int .i64 n,.slice A ([.mk 14 n0 [s0,s1,s2]]:List Tm).length c]] w (aFf s2 190000 w):=by
 have hrd:=aD (show rdx 16 [.mk 14 n0 [s0,s1,s2]]=6 from rfl);obtain ⟨b,off,k0',n0',ks0,A0,c0,hA,hk0,p0,q0,r0,hl0,hr0⟩:=hr.at_ (j:=0) (by simp);injection hk0 with h1 h2 h3;subst h1 h2 h3;obtain ⟨b1,off1,k1,n1,ks1,A1,c1,hA0,hk1,p1,q1,r1,hl1,hr1⟩:=hr0.at_ (j:=2) (by simp);have hk1:s2 = .mk k1 n1 ks1:=hk1;subst hk1 hA hA0;simp only [Nat.reduceMul,Nat.zero_mul,Nat.add_zero] at p0 q0 r0 p1 q1 r1
 have hsz:aG ks1≤400:=by simp only [aG,Tm.size] at hM;omega
 go_enter func128,ntmps128;go_wp2_with (first
  | (go_at_call 35;have _t:=tok;refine (eI _ k1 n1 ks1 A1 c1 _ (oH _) (by omega) (hr1.keeps K1)).mono ?_;rintro e w2 ⟨A2,c2,rfl,hl2,hf2,hb2⟩;replace hZ:=hZ.keep hb2;obtain ⟨d0,d1,d2,e0,e1,e2⟩:=bW hZ;replace g1:=g1.trans (hb2.mono g1.size))
  | (go_at_call 127;refine (dY 16 n [.mk 14 n0 [s0,s1,.mk k1 n1 ks1]] _ c _ (by simp) rfl ((hr.alloc _).alloc _)).mono ?_;rw [hrd.out];rintro e w1 ⟨rfl,hb1⟩;have hB:Blk w1 w.heap.size #[.int .i64 16,.int .i64 n,.slice (some ⟨b,off,none⟩) ([.mk 14 n0 [s0,s1,.mk k1 n1 ks1]]:List Tm).length c]:=((aC w 32 _ rfl).alloc _).keep hb1;have hZ:Blk w1 (w.heap.size+1) Zr:=(aC _ 32 _ (by simp)).keep hb1;have g1:Bw w w1:=bU bw2 hb1;have s1:=hZ.lt;have K1:=cM g1;have x2:=hB.at_ (i:=2) rfl;have tok:=trivial;replace p0:=K1 _ _ p0;replace q0:=K1 _ _ q0;replace r0:=K1 _ _ r0;replace p1:=K1 _ _ p1;replace q1:=K1 _ _ q1;replace r1:=K1 _ _ r1))
 refine bodyPost_ret (v:=.agg (Ro k1 n1 A2 ks1.length c2)) (by simp [results,results128,go_sem,d0,d1,d2]) rfl ⟨k1,n1,ks1,rfl,⟨A2,c2,rfl,hl2,?_,?_⟩,by omega⟩
 ·exact (Fresh.rdp (tT hf2)).mono (fun b hb=>.inr (by have h0:w1.drew.heap.size=w1.heap.size:=rfl;have:=hb.1;omega))
 ·exact bP g1
theorem tU (n n0:Int)(s0 t:Tm)(k1 n1 ku nu:Int)(us:List Tm)(ks1:List Tm)(A:Option Addr)(c:Nat)(w:World)(ht:t = .mk k1 n1 ks1)(hM:aG [.mk 4 n0 [s0,t],.mk ku nu us]≤400)(hs:shape 30 t=true)(hsu:shape 30 (.mk ku nu us)=true)(hr:Rd w A 0 [.mk 4 n0 [s0,t],.mk ku nu us]) :
  Calls prog 128 #[.agg #[.int .i64 5,.int .i64 n,.slice A ([.mk 4 n0 [s0,t],.mk ku nu us]:List Tm).length c]] w (aFf (bX (.mk ku nu us) 0 0 t) 190000 w):=by
 subst ht;have hrd:=aD (show rdx 5 [.mk 4 n0 [s0,.mk k1 n1 ks1],.mk ku nu us]=1 from rfl);obtain ⟨b,off,k0',n0',ks0,A0,c0,hA,hk0,p0,q0,r0,hl0,hr0⟩:=hr.at_ (j:=0) (by simp);injection hk0 with h1 h2 h3;subst h1 h2 h3;obtain ⟨b1,off1,k1',n1',ks1',A1,c1,hA0,hk1,p1,q1,r1,hl1,hr1⟩:=hr0.at_ (j:=1) (by simp);injection hk1 with h1 h2 h3;subst h1 h2 h3;obtain ⟨b',off',ku',nu',us',U,cu,hA',hk2,p2,q2,r2,hl2,hr2⟩:=hr.at_ (j:=1) (by simp);injection hk2 with h1 h2 h3;subst h1 h2 h3;subst hA hA0;injection hA' with hA';injection hA' with h1 h2;subst h1 h2;simp only [Nat.reduceMul,Nat.zero_mul,Nat.add_zero] at p0 q0 r0 p1 q1 r1 p2 q2 r2
 have hsz:aG ks1≤400∧aG us≤400∧(Tm.mk k1 n1 ks1).size+(Tm.mk ku nu us).size≤400:=by simp only [aG,Tm.size] at hM⊢;omega
 obtain ⟨k2,n2,ks2,h2⟩:=jF (bX (.mk ku nu us) 0 0 (.mk k1 n1 ks1));have hbig:aG ks2+1≤190000:=by
  have h3:=vD (.mk ku nu us) (m:=400) (by omega) (by omega) (.mk k1 n1 ks1) 0 0;rw [h2,Tm.size] at h3;have:(Tm.mk k1 n1 ks1).size*400≤400*400:=Nat.mul_le_mul_right _ (by omega);omega
 have h2':=aD h2;have hs':=aD hs;have hsu':=aD hsu;clear h2 hs hsu;go_enter func128,ntmps128;go_wp2_with (first
  | (go_at_call 127;refine (dY 5 n [.mk 4 n0 [s0,.mk k1 n1 ks1],.mk ku nu us] _ c _ (by simp) rfl ((hr.alloc _).alloc _)).mono ?_;rw [hrd.out];rintro e w1 ⟨rfl,hb1⟩;have hB:Blk w1 w.heap.size #[.int .i64 5,.int .i64 n,.slice (some ⟨b,off,none⟩) ([.mk 4 n0 [s0,.mk k1 n1 ks1],.mk ku nu us]:List Tm).length c]:=((aC w 32 _ rfl).alloc _).keep hb1;have hZ:Blk w1 (w.heap.size+1) Zr:=(aC _ 32 _ (by simp)).keep hb1;have g1:Bw w w1:=bU bw2 hb1;have s1:=hZ.lt;have K1:=cM g1;have x2:=hB.at_ (i:=2) rfl;have tok:=trivial;replace p0:=K1 _ _ p0;replace q0:=K1 _ _ q0;replace r0:=K1 _ _ r0;replace p1:=K1 _ _ p1;replace q1:=K1 _ _ q1;replace r1:=K1 _ _ r1;replace p2:=K1 _ _ p2;replace q2:=K1 _ _ q2;replace r2:=K1 _ _ r2;skip))
 obtain ⟨y2,y3,y4⟩:=qD x2 r0 p1;obtain ⟨y5,y6,y7⟩:=qD q1 r1 p2;have y8:=aF q2;have y9:=aF r2;refine bL (fun w'=>Bw w1 w') [0,1,2,3,4,5,6,7,8,9,10] [11] [12] [_,_,_,_,_,_,_,_,_,_,_] [_] [_] (by kernel_rfl) (by kernel_rfl) rfl rfl rfl (fun _ _ d _ _ h=>by cases d<;>exact h) (eR _ _).drew ?_;refine bZ (aD ?_);refine bO ?_;go_wp2_with (go_at_call 92;refine (uQ ku nu us hsu'.out (by omega) _ k1 n1 ks1 _ _ _ _ 0 0 30 _ (oH _) (by omega) hs'.out (by omega) (by omega) (by omega) (by omega) (hr1.keeps K1).drew (hr2.keeps K1).drew k2 n2 ks2 h2'.out).mono ?_;rintro e w2 ⟨A2,c2,rfl,hl2,hf2,hb2⟩)
 have hx1:Bw w1 w2:=(eR _ _).drew.trans hb2;refine aQ hx1 (dL ?_);replace hZ:=hZ.keep hx1;obtain ⟨d0,d1,d2,e0,e1,e2⟩:=bW hZ;replace g1:=g1.trans (hx1.mono g1.size);clear y2 y3 y4 y5 y6 y7 y8 y9;go_wp2_with fail
 refine bodyPost_ret (v:=.agg (Ro k2 n2 A2 ks2.length c2)) (by simp [results,results128,go_sem,d0,d1,d2]) rfl ⟨k2,n2,ks2,h2'.out,⟨A2,c2,rfl,hl2,?_,?_⟩,hbig⟩
 ·exact (Fresh.rdp (tT hf2)).mono (fun b hb=>.inr (by have h0:w1.drew.heap.size=w1.heap.size:=rfl;have:=hb.1;omega))
 ·exact bP g1
def mD:Prop:=∀(n n8:Int) (t0 t1 t2 m:Tm) (A:Option Addr) (c:Nat) (w:World),aG [t0,t1,t2,.mk 8 n8 [m]]≤400→Rd w A 0 [t0,t1,t2,.mk 8 n8 [m]]→
 Calls prog 128 #[.agg #[.int .i64 9,.int .i64 n,.slice A ([t0,t1,t2,.mk 8 n8 [m]]:List Tm).length c]] w (aFf (.mk 5 0 [.mk 5 0 [t2,m],.mk 9 0 [t0,t1,t2,m]]) 190000 w)
theorem aHm {ks:List Tm}(h:ks.length=1):∃a,ks=[a]:=List.length_eq_one_iff.1 h
theorem aIa {ks:List Tm}(h:ks.length=2):∃a b,ks=[a,b]:=by
 match ks,h with
 | [a,b],_=>exact ⟨a,b,rfl⟩
theorem aDt {ks:List Tm}(h:ks.length=3):∃a b c,ks=[a,b,c]:=by
 match ks,h with
 | [a,b,c],_=>exact ⟨a,b,c,rfl⟩
theorem aTi {ks:List Tm}(h:ks.length=4):∃a b c d,ks=[a,b,c,d]:=by
 match ks,h with
 | [a,b,c,d],_=>exact ⟨a,b,c,d,rfl⟩
theorem pR (hC:mD)(d:Nat)(hd:d≤30)(k n:Int)(ks:List Tm)(A:Option Addr)(c:Nat)(w:World)(hM:aG ks≤400)(hs:shape d (.mk k n ks)=true)(hx:rdx k ks≠0)(hr:Rd w A 0 ks) :
  Calls prog 128 #[.agg (Ro k n A ks.length c)] w (aFf (eA (.mk k n ks)) 190000 w):=by
 obtain ⟨d,rfl,ha,_,_,hk⟩:=bY hs;by_cases h5:k=5
 ·subst h5;obtain ⟨a,b,rfl⟩:=aIa (ks:=ks) (by have h:aU 5=2:=rfl;omega);obtain ⟨k0,n0,ls⟩:=a;have h4:k0=4:=by
   rcases Classical.em (k0=4) with h|h
   ·exact h
   ·exact absurd (by simp [rdx,fZ,Tm.k,h]) hx
  subst h4;obtain ⟨d,rfl,ha0,_,_,hk0⟩:=bY (hk (.mk 4 n0 ls) (by simp));obtain ⟨s0,t,rfl⟩:=aIa (ks:=ls) (by have h:aU 4=2:=rfl;omega);obtain ⟨ku,nu,us⟩:=b;obtain ⟨k1,n1,ks1⟩:=t;rw [show eA _=bX (.mk ku nu us) 0 0 (.mk k1 n1 ks1) from by simp [eA,rdx,fZ,Tm.k,Tm.ks,aI]];exact tU n n0 s0 _ k1 n1 ku nu us ks1 A c w rfl hM (rI (by omega) _ (hk0 _ (by simp))) (rI (by omega) _ (hk _ (by simp))) hr
 ·by_cases h9:k=9
  ·subst h9;obtain ⟨a,b,e,f,rfl⟩:=aTi (ks:=ks) (by have h:aU 9=4:=rfl;omega);obtain ⟨k3,n3,ls⟩:=f;by_cases h7:k3=7
   ·subst h7;rw [show eA _=b from by simp [eA,rdx,fZ,Tm.k,Tm.ks,aI]];exact vY n a b e _ A c w hM (by simp [rdx,fZ,Tm.k]) hr
   ·have h8:k3=8:=by
     rcases Classical.em (k3=8) with h|h
     ·exact h
     ·exact absurd (by simp [rdx,fZ,Tm.k,h,h7]) hx
    subst h8;obtain ⟨d,rfl,ha0,_,_,hk0⟩:=bY (hk (.mk 8 n3 ls) (by simp));obtain ⟨m,rfl⟩:=aHm (ks:=ls) (by have h:aU 8=1:=rfl;omega);rw [show eA _=(.mk 5 0 [.mk 5 0 [e,m],.mk 9 0 [a,b,e,m]]) from by simp [eA,rdx,fZ,Tm.k,Tm.ks,aI]];exact hC n n3 a b e m A c w hM hr
  ·by_cases h12:k=12
   ·subst h12;obtain ⟨a,b,e,rfl⟩:=aDt (ks:=ks) (by have h:aU 12=3:=rfl;omega);obtain ⟨k3,n3,ls⟩:=b;have h8:k3=11:=by
     rcases Classical.em (k3=11) with h|h
     ·exact h
     ·exact absurd (by simp [rdx,fZ,Tm.k,h]) hx
    subst h8;rw [show eA _=e from by simp [eA,rdx,fZ,Tm.k,Tm.ks,aI]];exact vF n a _ e A c w hM (by simp [rdx,fZ,Tm.k]) hr
   ·by_cases h15:k=15
    ·subst h15;obtain ⟨a,rfl⟩:=aHm (ks:=ks) (by have h:aU 15=1:=rfl;omega);obtain ⟨k3,n3,ls⟩:=a;have h8:k3=14:=by
      rcases Classical.em (k3=14) with h|h
      ·exact h
      ·exact absurd (by simp [rdx,fZ,Tm.k,h]) hx
     subst h8;obtain ⟨d,rfl,ha0,_,_,hk0⟩:=bY (hk (.mk 14 n3 ls) (by simp));obtain ⟨s0,s1,s2,rfl⟩:=aDt (ks:=ls) (by have h:aU 14=3:=rfl;omega);rw [show eA _=s1 from by simp [eA,rdx,fZ,Tm.k,Tm.ks,aI]];exact wQ n n3 s0 s1 s2 A c w hM hr
    ·by_cases h16:k=16
     ·subst h16;obtain ⟨a,rfl⟩:=aHm (ks:=ks) (by have h:aU 16=1:=rfl;omega);obtain ⟨k3,n3,ls⟩:=a;have h8:k3=14:=by
       rcases Classical.em (k3=14) with h|h
       ·exact h
       ·exact absurd (by simp [rdx,fZ,Tm.k,h]) hx
      subst h8;obtain ⟨d,rfl,ha0,_,_,hk0⟩:=bY (hk (.mk 14 n3 ls) (by simp));obtain ⟨s0,s1,s2,rfl⟩:=aDt (ks:=ls) (by have h:aU 14=3:=rfl;omega);rw [show eA _=s2 from by simp [eA,rdx,fZ,Tm.k,Tm.ks,aI]];exact wO n n3 s0 s1 s2 A c w hM hr
     ·exact absurd (zL ks (by omega)) hx
theorem tB:∀(ks:List Tm) (j:Nat) (t:Tm),aG (ks.set j t)≤aG ks+t.size
 | [],j,t=>by simp [aG]
 | a::ks,0,t=>by simp only [List.set_cons_zero,aG];omega
 | a::ks,j+1,t=>by have:=tB ks j t;simp only [List.set_cons_succ,aG];omega
theorem rdp_lt {p:Nat→Prop}{w:World}:(∀t b off i,RdPC p w b off i t→RdPC (fun b=>p b∧b<w.heap.size) w b off i t)∧(∀ks A i,RdP p w A i ks→RdP (fun b=>p b∧b<w.heap.size) w A i ks):=by
 refine bA (fun k n ks ih b off i hh=>?_) (fun _ _ _=>RdP.nil) (fun t ts h1 h2 A i hh=>?_)
 ·rw [RdPC.iff] at hh⊢;obtain ⟨h0,h1,h2,A,c,h3,h4,h5⟩:=hh;exact ⟨⟨h0,mI _ _ h1⟩,h1,h2,A,c,h3,h4,ih _ _ h5⟩
 ·rw [RdP.cons_iff] at hh⊢;obtain ⟨⟨b,off,hA,hc⟩,hr⟩:=hh;exact ⟨⟨b,off,hA,h1 _ _ _ hc⟩,h2 _ _ hr⟩
theorem RdP.lt_ {p:Nat→Prop}{w:World}{A:Option Addr}{i:Nat}{ks:List Tm}(h:RdP p w A i ks):RdP (fun b=>p b∧b<w.heap.size) w A i ks:=rdp_lt.2 _ _ _ h
theorem aMt (ks:List Tm)(j:Nat)(v:Tm):∀(i:Nat) (t:Tm),ks[i]?=some t→(ks.set j v)[i]?=some (if i=j then v else t):=by
 intro i t h;have hl:i<ks.length:=(List.getElem?_eq_some_iff.1 h).1;rw [List.getElem?_set];by_cases e:j=i
 ·subst e;rw [if_pos rfl,if_pos hl,if_pos rfl]
 ·rw [if_neg e,if_neg (fun h=>e h.symm),h]
def aOc (t0:Tm)(m:Nat)(w:World)(e:Ending)(w':World):Prop:=
 ∃(k n:Int) (ks:List Tm) (A:Option Addr) (c:Nat) (b:Bool),.mk k n ks=(dT t0).getD t0∧b=(dT t0).isSome∧e = .returned (.tuple #[.agg (Ro k n A ks.length c),.bool b])∧ks.length≤9223372036854775807∧aG ks+1≤m∧RdP (fun x=>if b=true then w.heap.size≤x else x<w.heap.size) w' A 0 ks∧Bw w w'
theorem zU {o:Option Tm}{t u:Tm}(h:u=o.getD t){b:Bool}(hb:b=o.isSome)(hbt:b=true):o=some u:=by
 subst hbt;cases o with
 | none=>cases hb
 | some v=>rw [h];rfl
theorem aFj {o:Option Tm}{b:Bool}(hb:b=o.isSome)(hbt:b=false):o=none:=by
 subst hbt;cases o with
 | none=>rfl
 | some v=>cases hb
theorem sF:∀(ks:List Tm) (j:Nat) (h:j<ks.length) (u:Tm),(∀i,(hi:i<ks.length)→i<j→dT ks[i]=none)→dT ks[j]=some u→gA ks=some (ks.set j u)
 | t::ts,0,h,u,hn,hs=>by rw [gA];simp only [List.getElem_cons_zero] at hs;rw [hs];rfl
 | t::ts,j+1,h,u,hn,hs=>by
  have h0:dT t=none:=hn 0 (by simp) (by omega);rw [gA,h0,sF ts j (by simpa using h) u (fun i hi hij=>hn (i+1) (by simpa using hi) (by omega)) (by simpa using hs)];rfl
theorem tF:∀(ks:List Tm),(∀i,(hi:i<ks.length)→dT ks[i]=none)→gA ks=none
 | [],_=>rfl
 | t::ts,hn=>by
  have h0:dT t=none:=hn 0 (by simp);rw [gA,h0,tF ts (fun i hi=>hn (i+1) (by simpa using hi))];rfl
theorem aIu (hC:mD)(N:Nat):∀(d:Nat) (k n:Int) (ks:List Tm) (A:Option Addr) (c:Nat) (w:World),d≤30→aG ks<N→aG ks≤400→shape d (.mk k n ks)=true→Rd w A 0 ks→
  Calls prog 154 #[.agg (Ro k n A ks.length c),.bool false] w (aOc (.mk k n ks) (190000+401*d) w):=by
 induction N with
 | zero=>intro d k n ks A c w _ hN;exact absurd hN (Nat.not_lt_zero _)
 | succ N ih=>
 intro d k n ks A c w hd hN hM hs hr;have hlen:=aJ ks;obtain ⟨d,rfl,ha,_,_,hk⟩:=bY hs;have hk':=aD hk;have ha':=aD ha;have hs':=aD hs;clear hk ha hs;by_cases hx:rdx k ks=0
 ·have hrd:=aD hx;clear hx;go_enter func154,ntmps154;go_wp2_with (go_at_call 127;refine (dY k n ks A c _ (by omega) ha'.out ((hr.alloc _).alloc _)).mono ?_;rw [hrd.out];rintro e w1 ⟨rfl,hb1⟩;have hB:Blk w1 w.heap.size (Ro k n A ks.length c):=((aC w 32 _ rfl).alloc _).keep hb1;have hZ:Blk w1 (w.heap.size+1) Zr:=(aC _ 32 _ (by simp)).keep hb1;have g1:Bw w w1:=bU bw2 hb1)
  go_loopw [6] (fun jv wr=>∃j:Nat,j≤ks.length∧Hid (∀i,(hi:i<ks.length)→i<j→dT ks[i]=none)∧jv = .int .i64 j∧Blk wr (w.heap.size+1) Zr∧Blk wr w.heap.size (Ro k n A ks.length c)∧Bw w wr)
   (fun jv _=>ks.length - (intOf jv).toNat)
  case atStart=>exact ⟨0,Nat.zero_le _,aD (fun i hi h=>absurd h (by omega)),rfl,hZ,hB,g1⟩
  case round=>
   clear hZ hB g1;obtain ⟨j,hj,hnj,rfl,hZ,hB,g1⟩:=hrel;obtain ⟨x0,x1,x2⟩:=hB.three;have sr:=g1.size;have lz0:=hZ.lt;by_cases hlt:j<ks.length
   ·obtain ⟨b,off,k',n',ks',A',c',rfl,hkj,hc1,hc2,hc3,hl',hr'⟩:=(hr.below g1).at_ hlt;have hsz:=cF (iC hlt);have hsk:=hk'.out _ (iC hlt);rw [hkj] at hsz hsk;simp only [Tm.size] at hsz
    have H4:=aD hsk;have H5:=aD hkj;clear hkj hsk;have bl:b<wr.heap.size:=mI _ _ hc1;go_wp2_with (first
     | (go_at_call 154;refine (ih d k' n' ks' A' c' _ (by omega) (by omega) (by omega) H4.out hr').mono ?_;rintro e w2 ⟨k2,n2,ks2,A2,c2,bb,hv2,hv3,rfl,hl2,hs2,hr2,hb2⟩;replace hv2:=aD hv2;replace hv3:=aD hv3;have hrw:=((hr.below g1).below hb2).alloc (.cells (Ro k2 n2 A2 ks2.length c2) 32);replace hZ:=(hZ.keep hb2).alloc (.cells (Ro k2 n2 A2 ks2.length c2) 32);replace hB:=(hB.keep hb2).alloc (.cells (Ro k2 n2 A2 ks2.length c2) 32);replace g1:=(g1.trans (hb2.mono g1.size)).alloc (by have:=hb2.size;omega) (.cells (Ro k2 n2 A2 ks2.length c2) 32);have hr2':=hr2.alloc (.cells (Ro k2 n2 A2 ks2.length c2) 32);have s2:=hb2.size;have hK2:=aC w2 32 (Ro k2 n2 A2 ks2.length c2) rfl;obtain ⟨y0,y1,y2⟩:=hK2.three;clear x0 x1 x2;obtain ⟨x0,x1,x2⟩:=hB.three;have tok:=trivial))
    ·have hbb:bb=true:=by assumption
     have hrx:RdP (fun x=>wr.heap.size≤x∧x<w2.heap.size) w2 A2 0 ks2:=(hr2.lt_).mono (fun x hx=>⟨by have h1:=hx.1;rw [hbb] at h1;simpa using h1,hx.2⟩);refine (xT (p:=fun x=>wr.heap.size≤x∧x<w2.heap.size) k n ks _ c j k2 n2 ks2 A2 c2 (ks.set j (.mk k2 n2 ks2)) (by simp) (aMt ks j _) _ (by omega) hl2 hrw (hrx.alloc _) (fun x hx=>by have:=hx.2;simp;omega)).mono ?_;rintro e w3 ⟨A3,c3,rfl,hl3,hr3,hb3⟩;replace hZ:=hZ.keep hb3;obtain ⟨d0,d1,d2,e0,e1,e2⟩:=bW hZ;replace g1:=g1.trans (hb3.mono g1.size);go_wp2_with fail
     have hsz2:=tB ks j (.mk k2 n2 ks2);rw [Tm.size] at hsz2;refine bodyPost_ret (v:=.tuple #[.agg #[.int .i64 k,.int .i64 n,.slice A3 (ks.set j (.mk k2 n2 ks2)).length c3],.bool true]) (by simp [results,results154,go_sem,d0,d1,d2]) rfl ⟨k,n,ks.set j (.mk k2 n2 ks2),A3,c3,true,(by rw [dT,if_pos hrd.out,sF ks j hlt _ hnj.out (by rw [H5.out];exact zU hv2.out hv3.out hbb)];rfl),(by rw [dT,if_pos hrd.out,sF ks j hlt _ hnj.out (by rw [H5.out];exact zU hv2.out hv3.out hbb)];rfl),rfl,by simp;omega,by omega,?_,?_⟩
     ·have hr4:=hr3.mono (q:=fun x=>w.heap.size+2≤x) (fun x hx=>hx.elim (fun h=>by have:=h.1;omega) (fun h=>by simp at h;omega));exact (((hr4.setCell (by simp) _).setCell (by simp) _).setCell (by simp) _).mono (fun x hx=>by simp;omega)
     ·exact bP g1
    ·have hbb:bb=false:=by first|assumption|(cases bb with|false=>rfl|true=>simp_all)
     refine ⟨⟨j+1,by omega,aD (fun i hi hij=>?_),by go_num,hZ,hB,g1⟩,by simp [intOf];omega⟩;by_cases hij2:i=j
     ·subst hij2;rw [H5.out];exact aFj hv3.out hbb
     ·exact hnj.out i hi (by omega)
   ·have hje:j=ks.length:=by omega
    subst hje;obtain ⟨d0,d1,d2,e0,e1,e2⟩:=bW hZ;go_wp2_with fail
    refine bodyPost_ret (v:=.tuple #[.agg (Ro k n A ks.length c),.bool false]) (by simp [results,results154,go_sem,d0,d1,d2]) rfl ⟨k,n,ks,A,c,false,(by rw [dT,if_pos hrd.out,tF ks (fun i hi=>hnj.out i hi hi)];rfl),(by rw [dT,if_pos hrd.out,tF ks (fun i hi=>hnj.out i hi hi)];rfl),rfl,by omega,by omega,?_,?_⟩
    ·exact ((((hr.rdp.below g1).setCell (by simp) _).setCell (by simp) _).setCell (by simp) _).mono (fun x hx=>by simpa using hx)
    ·exact bP g1
 ·have hq:(rdx k ks==0)=false:=by simpa using hx
  have hc:=aD (fun w A c hr=>pR hC (d+1) hd k n ks A c w hM hs'.out hx hr);obtain ⟨rr,hrr⟩:∃rr,rdx k ks=rr:=⟨_,rfl⟩;rw [hrr] at hq;have hrd:=aD hrr;have hst:=aD (show dT (.mk k n ks)=some (eA (.mk k n ks)) from by rw [dT,if_neg hx]);clear hx hrr;go_enter func154,ntmps154;go_wp2_with (first
   | (go_at_call 128;have _t:=tok;refine (hc.out _ A c hr1).mono ?_;rintro e w2 ⟨k2,n2,ks2,hv2,⟨A2,c2,rfl,hl2,hr2,hb2⟩,hs2⟩;replace hv2:=aD hv2;replace hZ:=hZ.keep hb2;obtain ⟨d0,d1,d2,e0,e1,e2⟩:=bW hZ;replace g1:=g1.trans (hb2.mono g1.size))
   | (go_at_call 127;refine (dY k n ks A c _ (by omega) ha'.out ((hr.alloc _).alloc _)).mono ?_;rw [hrd.out];rintro e w1 ⟨rfl,hb1⟩;have hB:Blk w1 w.heap.size (Ro k n A ks.length c):=((aC w 32 _ rfl).alloc _).keep hb1;have hZ:Blk w1 (w.heap.size+1) Zr:=(aC _ 32 _ (by simp)).keep hb1;have g1:Bw w w1:=bU bw2 hb1;have hr1:=hr.below g1;have s1:=hZ.lt;obtain ⟨x0,x1,x2⟩:=hB.three;have tok:=trivial))
  refine bodyPost_ret (v:=.tuple #[.agg (Ro k2 n2 A2 ks2.length c2),.bool true]) (by simp [results,results154,go_sem,d0,d1,d2]) rfl ⟨k2,n2,ks2,A2,c2,true,(by rw [hst.out,hv2.out];rfl),(by rw [hst.out];rfl),rfl,hl2,by omega,?_,?_⟩
  ·exact ((((hr2.mono (q:=fun x=>w.heap.size+2≤x) (fun x hx=>hx.elim (fun h=>h.elim) (fun h=>by omega))).setCell (by simp) _).setCell (by simp) _).setCell (by simp) _).mono (fun x hx=>by simp;omega)
  ·exact bP g1
theorem RdX.oneCell {p:Nat→Prop}{w:World}:∀{ts:List Tm} {xs:List Value},RdX p w ts xs→∀u,u∈xs→u.oneCell'=true
 | [],xs,h,u,hu=>by have h:xs=[]:=h;subst h;cases hu
 | .mk k n ks::ts,xs,h,u,hu=>by
  obtain ⟨A,c,ys,rfl,hl,hr,hx⟩:=h;simp only [List.mem_cons] at hu
  rcases hu with rfl|rfl|rfl|hu
  ·rfl
  ·rfl
  ·rfl
  ·exact hx.oneCell u hu
theorem tD {w:World}{us:List Tm}{x1:List Value}{g:Nat}{lo:Nat→Prop}(hg:w.heap[g]?=some (.cells #[] 32 (0,0)))(hlo:∀b,lo b→b<g)(hgw:g<w.heap.size)
  (ht : RdX lo w us x1) (hlen : us.length ≤ 1099511627776) (ad : Addr) (c : Nat) (hc : ∀ j u, x1[j]? = some u → w.cell? (ad.add j) = some u) (ty : TypeId) :
  ∃A c' w',(Builtin.append_ #[29,29] ty #[.slice (some ⟨g,0,none⟩) 0 0,.slice (some ad) us.length c]).run prog w = .ok (.slice A us.length c') w'∧RdP (fun b=>lo b∨g≤b) w' A 0 us∧w.grownBy w' (some g):=by
 obtain ⟨i,hi,hz,hz1,hz2⟩:=info_parts nH;have k1:w.ownsRow g 32 3 (.slice (some ⟨g,0,none⟩) 0 0) 0 []:=⟨by simp,.inr ⟨g,0,#[],rfl,oL _,hg,oL _,by simp [maxLen],by simp,by simp⟩⟩;obtain ⟨v',w',hrun,hown,hgr,_,hat⟩:=run_append_own_at (P:=prog) w g 29 ty 32 i _ 3 40 Tryz.underlying29 hi hz hz1 hz2 rfl (by omega) _ 0 [] k1 ad us.length c x1 ht.length hc ht.oneCell
  (by simp only [maxLen]; omega) (by omega) (by omega)
 rw [Nat.zero_add,List.nil_append] at hown;obtain ⟨h2,h3⟩:=hown;rcases h3 with ⟨rfl,h0⟩|⟨g',cap,cur,rfl,hb',hg',_,_,_,htk⟩
 ·have:us=[]:=lEn h0;subst this;exact ⟨none,0,w',hrun,RdP.nil,hgr⟩
 ·refine ⟨_,_,w',hrun,RdX.rdp (.inr hb') (ht.keep (fun b hb=>.inl hb) fun b hb hl=>hgr.block b hl (fun e=>by injection e with e;have e:b=g:=e;have:=hlo b hb;omega)) fun j u hu=>?_,hgr⟩;rw [show 0+0*3+j=j by omega,cell_of_row w' g' j cur 32 (0,0) hg'];rw [← htk,List.getElem?_take] at hu;split at hu
  ·simpa using hu
  ·cases hu
theorem pN {w:World}{us:List Tm}{x1:List Value}{g:Nat}{lo:Nat→Prop}(hg:w.heap[g]?=some (.cells #[] 32 (0,0)))(hlo:∀b,lo b→b<g)(hgw:g<w.heap.size)
  (ht : RdX lo w us x1) (hlen : us.length ≤ 1099511627776) (ad : Addr) (c : Nat) (hc : ∀ j u, x1[j]? = some u → w.cell? (ad.add j) = some u)
  {ops:Array Oper} {rest:List Oper} {o:Oper} {a:Act} {Q:Exit→Act→World→Prop} (hgd:o.guard=none) (s x:Operand)
  (ho : o.op = .call { callee := .builtin .append, args := #[s, x], argTypes := #[29, 29] }) (hse : a.eval s = .slice (some ⟨g, 0, none⟩) 0 0) (hx : a.eval x = .slice (some ad) us.length c)
  (h : ∀ A' c' w', RdP (fun b => lo b ∨ g ≤ b) w' A' 0 us → w.grownBy w' (some g) → wpList prog ops Q rest (a.put o.dst (.slice A' us.length c')) w') :
  wpList prog ops Q (o::rest) a w:=by
 refine wpList_plain hgd fun K hK=>?_
 obtain ⟨A',c',w',hrun,h2,h3⟩:=tD hg hlo hgw ht hlen ad c hc o.type;unfold Oper.wp execOp
 simp only [ho,resolve,invoke,builtin,Sem.run_bind,Sem.run_pure,Result.andThen_ok,List.map_toArray,List.map_cons,List.map_nil,hse,hx,hrun]
 exact hK _ _ (h A' c' w' h2 h3)
theorem lE {p:Nat→Prop}{w:World}{us:List Tm}{x1:List Value}(k:Int)(ht:RdX p w us x1)(hpw:∀b,p b→b<w.heap.size)(hlen:us.length≤1099511627776)(g c:Nat)(hb:Blk w g x1.toArray) :
  Calls prog 67 #[.int .i64 k,.slice (some ⟨g,0,none⟩) us.length c] w (aRu p w k 0 us):=by
 have hgl:=hb.lt;go_enter func67,ntmps67;have H1:=aD (show ((w.alloc (.cells Zr 32)).alloc (.cells #[] 32)).heap[w.heap.size+1]?=some (.cells #[] 32 (0,0)) by simpa using heap_alloc_new (w.alloc (.cells Zr 32)) (.cells #[] 32));have H2:=aD (show RdX p ((w.alloc (.cells Zr 32)).alloc (.cells #[] 32)) us x1 from ht.keep (fun _ h=>h) fun b hb _=>(Below.heap_alloc _ _ b (by have:=hpw b hb;simp;omega)).trans (Below.heap_alloc _ _ b (hpw b hb)));have H3:=aD (show ∀j u,x1[j]?=some u→((w.alloc (.cells Zr 32)).alloc (.cells #[] 32)).cell? (Addr.add ⟨g,0,none⟩ j)=some u from fun j u hj=>by
  have:=((hb.alloc (.cells Zr 32)).alloc (.cells #[] 32)).at_ (i:=j) (v:=u) (by simpa using hj);rw [aIb];exact this)
 go_wp2_with (at_builtin;(refine pN (us:=us) (x1:=x1) (g:=w.heap.size+1) (lo:=p) H1.out (fun b hb=>by have:=hpw b hb;omega) (by simp) H2.out hlen ⟨g,0,none⟩ c H3.out rfl _ _ rfl rfl rfl ?_);intro A' c' w2 hfr hg2;have hT:Blk w2 w.heap.size Zr:=((aC w 32 Zr rfl).alloc _).grown hg2 (by simp);have d0:=hT.at_ (i:=0) rfl;have d1:=hT.at_ (i:=1) rfl;have d2:=hT.at_ (i:=2) rfl;obtain ⟨e0,e1,e2⟩:=bkf hT;have hb2:Bw w w2:=bw2.trans ⟨hg2.os,hg2.tape,hg2.output,hg2.size,fun b hb=>hg2.block b (by simp;omega) (fun e=>by injection e with e;omega)⟩)
 have hzz:¬(p w.heap.size∨w.heap.size+1≤w.heap.size):=fun h=>h.elim (fun h=>by have:=hpw _ h;omega) (fun h=>by omega)
 refine bodyPost_ret (v:=.agg (Ro k 0 A' us.length c')) (by simp [results,results67,go_sem,d0,d1,d2]) rfl ⟨A',c',rfl,by omega,?_,(bP hb2)⟩;exact (((hfr.setCell hzz _).setCell hzz _).setCell hzz _).mono (fun b hb=>hb.imp id (fun h=>by omega))
theorem aBd (ku nu:Int)(us:List Tm)(hus:shape 31 (.mk ku nu us)=true)(huz:aG us≤1000000)(N:Nat):∀(k n:Int) (ks:List Tm) (A:Option Addr) (c:Nat) (U:Option Addr) (cu:Nat) (x d:Int) (q:Nat) (w:World),aG ks<N→aG ks≤1000000→shape q (.mk k n ks)=true→0≤x→x+q≤900→0≤d→d+q≤900→Rd w A 0 ks→Rd w U 0 us→
  ∀(k2 n2:Int) (ks2:List Tm),bX (.mk ku nu us) x d (.mk k n ks) = .mk k2 n2 ks2→
  Calls prog 92 #[.agg (Ro k n A ks.length c),.int .i64 x,.agg (Ro ku nu U us.length cu),.int .i64 d] w (qU w k2 n2 ks2):=by
 induction N with
 | zero=>intro k n ks A c U cu x d q w hN;exact absurd hN (Nat.not_lt_zero _)
 | succ N ih=>
 intro k n ks A c U cu x d q w hN hM hsh hx0 hxq hd0 hdq hr hru kr nr ksr hfl;have hlen:=aJ ks;obtain ⟨q,rfl⟩:∃q',q=q'+1:=by cases q with|zero=>simp [shape] at hsh|succ q=>exact ⟨q,rfl⟩
 obtain ⟨ha,hm1,hm2,hkids⟩:=(bF q k n ks).1 hsh;rw [bX] at hfl;have hus':=aD hus;by_cases hk:k=1
 ·subst hk;have hks:ks=[]:=by
   have h0:aU 1=0:=rfl;rw [h0] at ha;exact lEn (by omega)
  subst hks;have h20:dG 1=20:=rfl;rw [h20] at hm2;clear hkids hsh ha h20;by_cases hnx:n=x
  ·rw [if_pos ⟨rfl,hnx⟩,bT] at hfl;injection hfl with h1 h2 h3;subst h1 h2 h3;obtain ⟨n2,hn2⟩:∃n2,(if ku=1∧0≤nu then nu+d else nu)=n2:=⟨_,rfl⟩;have hn2':=aD hn2;rw [hn2];clear hn2;subst hnx;go_enter func92,ntmps92;go_wp2_with (go_at_call 29;refine (gN _ ku nu us U cu d 0 31 _ (oH _) (by omega) hus'.out (by omega) (by omega) (by omega) (((hru.alloc _).alloc _).alloc _)).mono ?_;rw [hn2'.out];rintro e w1 ⟨A1,c1,rfl,hl1,hf1,hb1⟩;have hT:Blk w1 (w.heap.size+1+1) Zr:=(aC _ 32 _ (by simp)).keep hb1;obtain ⟨d0,d1,d2,e0,e1,e2⟩:=bW hT;replace hf1:Fresh (w.heap.size+3) w1 A1 (bN d ku 0 0 us):=hf1.mono (by simp);replace hb1:Bw w w1:=bw3.trans (hb1.mono (by simp;omega)))
   refine bodyPost_ret (v:=.agg #[.int .i64 ku,.int .i64 n2,.slice A1 (bN d ku 0 0 us).length c1]) (by simp [results,results92,go_sem,d0,d1,d2]) rfl ⟨A1,c1,by simp,hl1,?_,?_⟩
   ·exact (tT hf1).mono (by omega)
   ·exact bP hb1
  ·rw [if_neg (by rintro ⟨-,h⟩;exact hnx h)] at hfl;have q0:(n==x)=false:=by simpa using hnx
   by_cases hxn:x<n
   ·rw [if_pos ⟨rfl,hxn⟩] at hfl;injection hfl with h1 h2 h3;subst h1 h2 h3;have q2:decide (x<n)=true:=by simpa using hxn
    clear hnx;go_enter func92,ntmps92;go_wp2_with fail
    go_loopw [10] (fun i wr=>i = .int .i64 0∧Blk wr (w.heap.size+1+1+1) (Ro 1 (n - 1) none 0 0)∧Blk wr (w.heap.size+1+1) Zr∧Blk wr w.heap.size (Ro 1 n A 0 c)∧Bw w wr)
     (fun _ _=>0)
    case atStart=>exact ⟨rfl,aC _ _ _ (by simp),(aC _ _ _ (by simp)).alloc _,(((aC _ _ _ rfl).alloc _).alloc _).alloc _,bw4⟩
    case round=>
     obtain ⟨rfl,hB3,hB2,hB1,hb⟩:=hrel;have b2:=hB1.at_ (i:=2) rfl;obtain ⟨c0,c1,c2⟩:=hB3.three;obtain ⟨d0,d1,d2,e0,e1,e2⟩:=bW hB2;go_wp2_with fail
     refine bodyPost_ret (v:=.agg (Ro 1 (n - 1) none 0 0)) (by simp [results,results92,go_sem,d0,d1,d2]) rfl ⟨none,0,by simp [cE],by simp [cE],?_,?_⟩
     ·simpa [cE] using (Fresh.nil:Fresh w.heap.size _ none [])
     ·exact bP hb
   ·rw [if_neg (by rintro ⟨-,h⟩;exact hxn h)] at hfl;injection hfl with h1 h2 h3;subst h1 h2 h3;have q2:decide (x<n)=false:=by simpa using hxn
    clear hnx;go_enter func92,ntmps92;go_wp2_with fail
    go_loopw [10] (fun i wr=>i = .int .i64 0∧Blk wr (w.heap.size+1+1+1) (Ro 1 (n) none 0 0)∧Blk wr (w.heap.size+1+1) Zr∧Blk wr w.heap.size (Ro 1 n A 0 c)∧Bw w wr)
     (fun _ _=>0)
    case atStart=>exact ⟨rfl,aC _ _ _ (by simp),(aC _ _ _ (by simp)).alloc _,(((aC _ _ _ rfl).alloc _).alloc _).alloc _,bw4⟩
    case round=>
     obtain ⟨rfl,hB3,hB2,hB1,hb⟩:=hrel;have b2:=hB1.at_ (i:=2) rfl;obtain ⟨c0,c1,c2⟩:=hB3.three;obtain ⟨d0,d1,d2,e0,e1,e2⟩:=bW hB2;go_wp2_with fail
     refine bodyPost_ret (v:=.agg (Ro 1 (n) none 0 0)) (by simp [results,results92,go_sem,d0,d1,d2]) rfl ⟨none,0,by simp [cE],by simp [cE],?_,?_⟩
     ·simpa [cE] using (Fresh.nil:Fresh w.heap.size _ none [])
     ·exact bP hb
 ·have hn:¬(k=1∧n=x):=by rintro ⟨h,-⟩;exact hk h
  rw [if_neg hn,if_neg (by rintro ⟨h,-⟩;exact hk h)] at hfl;injection hfl with h1 h2 h3;subst h1 h2 h3;have hkids':=aD hkids;have hm2':=aD hm2;clear hkids ha hsh hm2;have q1:(k==1)=false:=by simpa using hk
  clear hn hk;go_enter func92,ntmps92;go_wp2_with fail
  go_loopw [10,11] (fun i _ wr=>∃(j:Nat) (v:Value),j≤ks.length∧i = .int .i64 j∧Part (w.heap.size+4) wr v (cE (.mk ku nu us) k x d 0 (ks.take j))∧Blk wr (w.heap.size+1+1+1) #[.int .i64 k,.int .i64 (n),v]∧Blk wr (w.heap.size+1+1) Zr∧Blk wr (w.heap.size+1) (Ro ku nu U us.length cu)∧Blk wr w.heap.size (Ro k n A ks.length c)∧Bw w wr)
   (fun i _ _=>ks.length - (intOf i).toNat)
  case atStart=>exact ⟨0,_,Nat.zero_le _,rfl,Part.nil,aC _ _ _ (by simp),(aC _ _ _ (by simp)).alloc _,((aC _ _ _ (by simp)).alloc _).alloc _,(((aC _ _ _ rfl).alloc _).alloc _).alloc _,bw4⟩
  case round=>
   obtain ⟨j,v,hj,rfl,hp,hB3,hB2,hBu,hB1,hb⟩:=hrel;have c12:=hB1.at_ (i:=2) rfl;have c10:=hB1.at_ (i:=0) rfl;by_cases hlt:j<ks.length
   ·obtain ⟨b,off,k',n',ks',A',c',rfl,hkj,hc1,hc2,hc3,hl',hr'⟩:=(hr.below hb).at_ hlt;have hsz:=cF (iC hlt);have hsk:=hkids'.out _ (iC hlt);rw [hkj] at hsz hsk;simp only [Tm.size] at hsz
    have H3:=aD hkj;have H4:=aD hsk;clear hkj hsk;have hz:=hB3.lt;obtain ⟨k2,n2,ks2,hct⟩:∃k2 n2 ks2,bX (.mk ku nu us) (x+aM k j) (d+aM k j) (.mk k' n' ks') = .mk k2 n2 ks2:=jF _;have hct':=aD hct;clear hct;have hun:=cW k j;go_wp2_with (go_at_call 44;refine (nL _ _ _).mono ?_;rintro e w9 ⟨rfl,rfl⟩)
    have x2:=hB3.rule (i:=2) rfl;have a0:=hBu.rule (i:=0) rfl;have a1:=hBu.rule (i:=1) rfl;have a2:=hBu.rule (i:=2) rfl;have b2:=hB1.rule (i:=2) rfl;obtain ⟨y0,y1,y2⟩:=qD hc1 hc2 hc3;refine bL (fun w'=>Bw wr w') [0,1,2,3,4,5,6,7,8,9,10,11,12,13] [14,15] [16,17,18] [_,_,_,_,_,_,_,_,_,_,_,_,_,_] [_,_] [_,_,_] (by kernel_rfl) (by kernel_rfl) rfl rfl rfl (fun _ _ d _ _ h=>by cases d<;>exact h) (eR _ _).drew ?_;refine bZ (aD ?_);refine bO ?_;go_wp2_with (go_at_call 92;refine (ih k' n' ks' A' c' U cu (x+aM k j) (d+aM k j) q _ (by omega) (by omega) H4.out (by omega) (by omega) (by omega) (by omega) hr'.drew (hru.below hb).drew k2 n2 ks2 hct'.out).mono ?_;rintro e w1 ⟨A1,c1,rfl,hl1,hf1,hb1⟩)
    have hx1:Bw wr w1:=(eR _ _).drew.trans hb1;refine aQ hx1 (bO ?_);go_wp2_with fail
    refine aQ (hx1.alloc hx1.size _) (dL ?_);refine eC (B:=w.heap.size+4) (m:=j) hp.drew hb1 (by simp;omega) hf1 hl1 (by rw [dK];simp;omega) (by omega) rfl (.tmp 54) (.tmp 68) rfl rfl rfl ?_;intro A2 c2 w2 hp2 hb2 hg2;have q3:Blk w2 (w.heap.size+1+1+1) #[.int .i64 k,.int .i64 (n),v]:=(hB3.below hx1 (by omega)).below hb2 (by omega);have q2:Blk w2 (w.heap.size+1+1) Zr:=(hB2.below hx1 (by omega)).below hb2 (by omega);have qu:Blk w2 (w.heap.size+1) (Ro ku nu U us.length cu):=(hBu.below hx1 (by omega)).below hb2 (by omega);have q1':Blk w2 w.heap.size (Ro k n (some ⟨b,off,none⟩) ks.length c):=(hB1.below hx1 (by omega)).below hb2 (by omega);have c3:w2.cell? ⟨w.heap.size+1+1+1,2,none⟩=some v:=q3.at_ rfl;have z3:=q3.frozen 2;have hbf:Bw w w2:=(hb.trans (hx1.mono (by omega))).trans (hb2.mono (by omega));clear x2 y0 y1 y2 b2 a0 a1 a2;go_wp2_with fail
    go_roundw
    case rel=>exact ⟨j+1,_,by omega,by go_num,by rw [yG _ k x d hlt,H3.out,hct'.out];exact hp2.setCell (by simp) _,q3.set_ 2 _,q2.far (by simp) _,qu.far (by simp) _,q1'.far (by simp;omega) _,hbf.setCell (by simp;omega) _⟩
    case measure=>simp [intOf];omega
   ·have hjl:j=ks.length:=by omega
    subst hjl;rw [List.take_length] at hp;obtain ⟨Ar,cr,rfl,hfr⟩:=hp.fresh;obtain ⟨c0,c1,c2⟩:=hB3.three;obtain ⟨d0,d1,d2,e0,e1,e2⟩:=bW hB2;go_wp2_with fail
    refine bodyPost_ret (v:=.agg #[.int .i64 k,.int .i64 (n),.slice Ar (cE (.mk ku nu us) k x d 0 ks).length cr]) (by simp [results,results92,go_sem,d0,d1,d2]) rfl ⟨Ar,cr,rfl,by rw [dK];omega,?_,?_⟩
    ·exact (tT hfr).mono (by omega)
    ·exact bP hb
end Go.Proofs.YtjlaenhcemacdaaGreat
