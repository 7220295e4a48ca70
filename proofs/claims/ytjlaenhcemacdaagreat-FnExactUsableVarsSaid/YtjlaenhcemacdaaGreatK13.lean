/- Parts of the proof. No condition. -/
import Derived.Test.YtjlaenhcemacdaaGreatK11
open Go.Proofs.Tryz
namespace Go.Proofs.YtjlaenhcemacdaaGreat
open Go.RowKit
set_option maxHeartbeats 16000000
set_option maxRecDepth 100000
set_option linter.unusedSimpArgs false
set_option linter.unusedVariables false
theorem yD (k n:Int)(ks:List Tm)(A:Option Addr)(c:Nat)(w:World)(hM:aG ks≤1099511627775)(hr:Rd w A 0 ks)(hv:aE (.mk k n ks)=false) :
  Calls prog 84 #[(.agg (Ro k n A ks.length c))] w fun e w'=>e = .returned (.tuple #[.agg Zr,.bool false])∧Bw w w':=vG k n ks A c w hM hr hv
theorem aDv {W q:World}{a b c d:Nat}{xa ya za xb yb zb xc yc zc xd yd zd:Value}(hab:a≠b)(hac:a≠c)(had:a≠d)(hbc:b≠c)(hbd:b≠d)(hcd:c≠d)(za0:Blk q a Zr)(zb0:Blk q b Zr)(zc0:Blk q c Zr)(zd0:Blk q d Zr)(h:Bw W q)(sa:W.heap.size≤a)(sb:W.heap.size≤b)(sc:W.heap.size≤c)(sd:W.heap.size≤d) :
  Blk ((((((((((((q.setCell ⟨a,0,none⟩ xa).setCell ⟨a,1,none⟩ ya).setCell ⟨a,2,none⟩ za).setCell ⟨b,0,none⟩ xb).setCell ⟨b,1,none⟩ yb).setCell ⟨b,2,none⟩ zb).setCell ⟨c,0,none⟩ xc).setCell ⟨c,1,none⟩ yc).setCell ⟨c,2,none⟩ zc).setCell ⟨d,0,none⟩ xd).setCell ⟨d,1,none⟩ yd).setCell ⟨d,2,none⟩ zd) a #[xa,ya,za]∧Blk ((((((((((((q.setCell ⟨a,0,none⟩ xa).setCell ⟨a,1,none⟩ ya).setCell ⟨a,2,none⟩ za).setCell ⟨b,0,none⟩ xb).setCell ⟨b,1,none⟩ yb).setCell ⟨b,2,none⟩ zb).setCell ⟨c,0,none⟩ xc).setCell ⟨c,1,none⟩ yc).setCell ⟨c,2,none⟩ zc).setCell ⟨d,0,none⟩ xd).setCell ⟨d,1,none⟩ yd).setCell ⟨d,2,none⟩ zd) b #[xb,yb,zb]∧Blk ((((((((((((q.setCell ⟨a,0,none⟩ xa).setCell ⟨a,1,none⟩ ya).setCell ⟨a,2,none⟩ za).setCell ⟨b,0,none⟩ xb).setCell ⟨b,1,none⟩ yb).setCell ⟨b,2,none⟩ zb).setCell ⟨c,0,none⟩ xc).setCell ⟨c,1,none⟩ yc).setCell ⟨c,2,none⟩ zc).setCell ⟨d,0,none⟩ xd).setCell ⟨d,1,none⟩ yd).setCell ⟨d,2,none⟩ zd) c #[xc,yc,zc]∧Blk ((((((((((((q.setCell ⟨a,0,none⟩ xa).setCell ⟨a,1,none⟩ ya).setCell ⟨a,2,none⟩ za).setCell ⟨b,0,none⟩ xb).setCell ⟨b,1,none⟩ yb).setCell ⟨b,2,none⟩ zb).setCell ⟨c,0,none⟩ xc).setCell ⟨c,1,none⟩ yc).setCell ⟨c,2,none⟩ zc).setCell ⟨d,0,none⟩ xd).setCell ⟨d,1,none⟩ yd).setCell ⟨d,2,none⟩ zd) d #[xd,yd,zd]∧Bw W ((((((((((((q.setCell ⟨a,0,none⟩ xa).setCell ⟨a,1,none⟩ ya).setCell ⟨a,2,none⟩ za).setCell ⟨b,0,none⟩ xb).setCell ⟨b,1,none⟩ yb).setCell ⟨b,2,none⟩ zb).setCell ⟨c,0,none⟩ xc).setCell ⟨c,1,none⟩ yc).setCell ⟨c,2,none⟩ zc).setCell ⟨d,0,none⟩ xd).setCell ⟨d,1,none⟩ yd).setCell ⟨d,2,none⟩ zd):=
 ⟨((((((((((((za0.set_ 0 _).set_ 1 _).set_ 2 _).far (p:=⟨b,0,none⟩) hab _).far (p:=⟨b,1,none⟩) hab _).far (p:=⟨b,2,none⟩) hab _).far (p:=⟨c,0,none⟩) hac _).far (p:=⟨c,1,none⟩) hac _).far (p:=⟨c,2,none⟩) hac _).far (p:=⟨d,0,none⟩) had _).far (p:=⟨d,1,none⟩) had _).far (p:=⟨d,2,none⟩) had _),((((((((((((zb0.far (p:=⟨a,0,none⟩) hab.symm _).far (p:=⟨a,1,none⟩) hab.symm _).far (p:=⟨a,2,none⟩) hab.symm _).set_ 0 _).set_ 1 _).set_ 2 _).far (p:=⟨c,0,none⟩) hbc _).far (p:=⟨c,1,none⟩) hbc _).far (p:=⟨c,2,none⟩) hbc _).far (p:=⟨d,0,none⟩) hbd _).far (p:=⟨d,1,none⟩) hbd _).far (p:=⟨d,2,none⟩) hbd _),((((((((((((zc0.far (p:=⟨a,0,none⟩) hac.symm _).far (p:=⟨a,1,none⟩) hac.symm _).far (p:=⟨a,2,none⟩) hac.symm _).far (p:=⟨b,0,none⟩) hbc.symm _).far (p:=⟨b,1,none⟩) hbc.symm _).far (p:=⟨b,2,none⟩) hbc.symm _).set_ 0 _).set_ 1 _).set_ 2 _).far (p:=⟨d,0,none⟩) hcd _).far (p:=⟨d,1,none⟩) hcd _).far (p:=⟨d,2,none⟩) hcd _),((((((((((((zd0.far (p:=⟨a,0,none⟩) had.symm _).far (p:=⟨a,1,none⟩) had.symm _).far (p:=⟨a,2,none⟩) had.symm _).far (p:=⟨b,0,none⟩) hbd.symm _).far (p:=⟨b,1,none⟩) hbd.symm _).far (p:=⟨b,2,none⟩) hbd.symm _).far (p:=⟨c,0,none⟩) hcd.symm _).far (p:=⟨c,1,none⟩) hcd.symm _).far (p:=⟨c,2,none⟩) hcd.symm _).set_ 0 _).set_ 1 _).set_ 2 _),pP (pP (pP (pP h sa) sb) sc) sd⟩
theorem aTh (n kp np:Int)(sp:List Tm)(kz nz:Int)(sz:List Tm)(k2 n2:Int)(s2:List Tm)(n8 ka na:Int)(sa:List Tm)(A:Option Addr)(c:Nat)(w:World)(hv:aE (.mk 9 n [.mk kp np sp,.mk kz nz sz,.mk k2 n2 s2,.mk 8 n8 [.mk ka na sa]])=true)(hr:Rd w A 0 [.mk kp np sp,.mk kz nz sz,.mk k2 n2 s2,.mk 8 n8 [.mk ka na sa]])(o:Option Tm)(ho0:vO (.mk 5 0 [.mk 5 0 [.mk k2 n2 s2,.mk ka na sa],.mk 9 0 [.mk kp np sp,.mk kz nz sz,.mk k2 n2 s2,.mk ka na sa]])=o) :
  Calls prog 133 #[.agg (Ro 9 n A 4 c)] w (oM w o):=by
 have har:=aD (bG hv).1;have hrx:=aD (show rdx 9 [.mk kp np sp,.mk kz nz sz,.mk k2 n2 s2,.mk 8 n8 [.mk ka na sa]]=3 from rfl);have hszv:=aH hv;simp only [aG,Tm.size] at hszv
 have ho:=aD ho0;clear hv ho0;obtain ⟨b0,o0,x1,x2,x3,Ap,cp,hA0,hk,i1,i2,i3,hlp,hr0⟩:=hr.at_ (j:=0) (by simp);injection hk with e1 e2 e3;subst e1 e2 e3;subst hA0;obtain ⟨b1,o1,x1,x2,x3,Az,cz,hA1,hk,j1,j2,j3,hlz,hr1⟩:=hr.at_ (j:=1) (by simp);injection hk with e1 e2 e3;subst e1 e2 e3;injection hA1 with hA;injection hA with hA1 hA2;subst hA1 hA2;obtain ⟨b2,o2,x1,x2,x3,A2,c2,hA2,hk,m1,m2,m3,hl2,hr2⟩:=hr.at_ (j:=2) (by simp);injection hk with e1 e2 e3;subst e1 e2 e3;injection hA2 with hA;injection hA with hA1 hA2;subst hA1 hA2;obtain ⟨b3,o3,x1,x2,x3,A8',c8',hA3,hk,y1,y2,y3,hly,hr3⟩:=hr.at_ (j:=3) (by simp);injection hk with e1 e2 e3;subst e1 e2 e3;injection hA3 with hA;injection hA with hA1 hA2;subst hA1 hA2;obtain ⟨ba,oa,x1,x2,x3,Aa,ca,hAa,hk,z1,z2,z3,hla,hra⟩:=hr3.at_ (j:=0) (by simp);injection hk with e1 e2 e3;subst e1 e2 e3 hAa;simp only [Nat.zero_mul,Nat.add_zero,Nat.one_mul,Nat.reduceMul] at i1 i2 i3 j1 j2 j3 m1 m2 m3 y1 y2 y3 z1 z2 z3
 go_enter func133,ntmps133;go_wp2_with (go_at_call 110;refine (cU 9 n [.mk kp np sp,.mk kz nz sz,.mk k2 n2 s2,.mk 8 n8 [.mk ka na sa]] _ c _ (by simp) har.out ((hr.alloc _).alloc _)).mono ?_;rw [hrx.out];rintro e w1 ⟨rfl,hb1⟩;have hX:=((aC w 32 (Ro 9 n (some ⟨b0,o0,none⟩) 4 c) rfl).alloc (.cells Zr 32)).keep hb1;have hZ:Blk w1 (w.heap.size+1) Zr:=(aC _ 32 _ (by simp)).keep hb1;have g1:Bw w w1:=bU bw2 hb1)
 refine aW ?_;intro wx hwx;have hXx:=(show Blk wx w.heap.size _ by rw [hwx];exact hX);have hZx:=(show Blk wx (w.heap.size+1) _ by rw [hwx];exact hZ);have gx:Bw w wx:=by rw [hwx];exact g1
 clear hwx;have lz:=hZx.lt;have rpx:=hr0.below gx;have rzx:=hr1.below gx;have r2x:=hr2.below gx;have rax:=hra.below gx;have g0:=aF hXx.three.1;have g1':=aF hXx.three.2.1;have g2:=aF hXx.three.2.2;have ui1:=aF ((cM gx) _ _ i1);have ui2:=aF ((cM gx) _ _ i2);have ui3:=aF ((cM gx) _ _ i3);have uj1:=aF ((cM gx) _ _ j1);have uj2:=aF ((cM gx) _ _ j2);have uj3:=aF ((cM gx) _ _ j3);have um1:=aF ((cM gx) _ _ m1);have um2:=aF ((cM gx) _ _ m2);have um3:=aF ((cM gx) _ _ m3);have uy1:=aF ((cM gx) _ _ y1);have uy2:=aF ((cM gx) _ _ y2);have uy3:=aF ((cM gx) _ _ y3);have uz1:=aF ((cM gx) _ _ z1);have uz2:=aF ((cM gx) _ _ z2);have uz3:=aF ((cM gx) _ _ z3);clear i1 i2 i3 j1 j2 j3 m1 m2 m3 y1 y2 y3 z1 z2 z3;go_cut [4,5,6,7] (fun v4 v5 v6 v7 wy=>∃(g4 g5 g6 g7:Nat),v4 = .pointer (some ⟨g4,0,none⟩)∧v5 = .pointer (some ⟨g5,0,none⟩)∧v6 = .pointer (some ⟨g6,0,none⟩)∧v7 = .pointer (some ⟨g7,0,none⟩)∧Blk wy g4 (Ro kp np Ap sp.length cp)∧Blk wy g5 (Ro kz nz Az sz.length cz)∧Blk wy g6 (Ro k2 n2 A2 s2.length c2)∧Blk wy g7 (Ro ka na Aa sa.length ca)∧Bw wx wy)
 case first=>
  refine eT wx [26] [0,1,2,3,4,5,6,7,8,9,10,11,12,13,14,15,16,17,18] 27 8 (lT:=[_,_,_,_,_,_,_,_,_,_,_,_,_,_,_,_,_,_,_]) ?_;intro q0 bq0;refine bZ (aD ?_);refine aOb (i:=19) (j:=20) (m:=21) (q:=22) (by kernel_rfl) rfl rfl rfl rfl ?_ ?_ ?_ ?_;all_goals
   go_wp2_with fail
   refine cB ?_;intro q1 hn;have hbq1:Bw q0 q1:=by rw [hn];exact bw1
   have zq1:Blk q1 q0.heap.size Zr:=by rw [hn];exact aC _ 32 _ rfl
   have seq1:q0.heap.size<q1.heap.size:=by rw [hn];simp
   clear hn;refine aX bq0 hbq1 ?_;intro bq1 lq1
  all_goals first
   | refine rS (i:=20) (j:=21) (m:=22) (by decide +kernel) rfl rfl rfl ?_ ?_ ?_
   | refine rS (i:=19) (j:=21) (m:=22) (by decide +kernel) rfl rfl rfl ?_ ?_ ?_
   | refine rS (i:=19) (j:=20) (m:=22) (by decide +kernel) rfl rfl rfl ?_ ?_ ?_
   | refine rS (i:=19) (j:=20) (m:=21) (by decide +kernel) rfl rfl rfl ?_ ?_ ?_
  all_goals
   go_wp2_with fail
   refine cB ?_;intro q2 hn;have hbq2:Bw q1 q2:=by rw [hn];exact bw1
   have zq2:Blk q2 q1.heap.size Zr:=by rw [hn];exact aC _ 32 _ rfl
   have seq2:q1.heap.size<q2.heap.size:=by rw [hn];simp
   clear hn;replace zq1:=zq1.keep hbq2;refine aX bq1 hbq2 ?_;intro bq2 lq2
  all_goals first
   | refine oZ (i:=19) (j:=20) (by decide +kernel) rfl rfl ?_ ?_
   | refine oZ (i:=19) (j:=21) (by decide +kernel) rfl rfl ?_ ?_
   | refine oZ (i:=19) (j:=22) (by decide +kernel) rfl rfl ?_ ?_
   | refine oZ (i:=20) (j:=21) (by decide +kernel) rfl rfl ?_ ?_
   | refine oZ (i:=20) (j:=22) (by decide +kernel) rfl rfl ?_ ?_
   | refine oZ (i:=21) (j:=22) (by decide +kernel) rfl rfl ?_ ?_
  all_goals
   go_wp2_with fail
   refine cB ?_;intro q3 hn;have hbq3:Bw q2 q3:=by rw [hn];exact bw1
   have zq3:Blk q3 q2.heap.size Zr:=by rw [hn];exact aC _ 32 _ rfl
   have seq3:q2.heap.size<q3.heap.size:=by rw [hn];simp
   clear hn;replace zq1:=zq1.keep hbq3;replace zq2:=zq2.keep hbq3;refine aX bq2 hbq3 ?_;intro bq3 lq3
  all_goals first
   | refine oA (i:=19) (by decide +kernel) rfl ?_
   | refine oA (i:=20) (by decide +kernel) rfl ?_
   | refine oA (i:=21) (by decide +kernel) rfl ?_
   | refine oA (i:=22) (by decide +kernel) rfl ?_
  all_goals
   go_wp2_with fail
   refine cB ?_;intro q4 hn;have hbq4:Bw q3 q4:=by rw [hn];exact bw1
   have zq4:Blk q4 q3.heap.size Zr:=by rw [hn];exact aC _ 32 _ rfl
   have seq4:q3.heap.size<q4.heap.size:=by rw [hn];simp
   clear hn;replace zq1:=zq1.keep hbq4;replace zq2:=zq2.keep hbq4;replace zq3:=zq3.keep hbq4;refine aX bq3 hbq4 ?_;intro bq4 lq4
  all_goals
   obtain ⟨d10,d11,d12,e10,e11,e12⟩:=bW zq1;have sb1:wx.heap.size≤q0.heap.size:=bq0.size;obtain ⟨d20,d21,d22,e20,e21,e22⟩:=bW zq2;have sb2:wx.heap.size≤q1.heap.size:=bq1.size;obtain ⟨d30,d31,d32,e30,e31,e32⟩:=bW zq3;have sb3:wx.heap.size≤q2.heap.size:=bq2.size;obtain ⟨d40,d41,d42,e40,e41,e42⟩:=bW zq4;have sb4:wx.heap.size≤q3.heap.size:=bq3.size;have n01:q0.heap.size≠q1.heap.size:=by omega
   have n02:q0.heap.size≠q2.heap.size:=by omega
   have n03:q0.heap.size≠q3.heap.size:=by omega
   have n10:q1.heap.size≠q0.heap.size:=by omega
   have n12:q1.heap.size≠q2.heap.size:=by omega
   have n13:q1.heap.size≠q3.heap.size:=by omega
   have n20:q2.heap.size≠q0.heap.size:=by omega
   have n21:q2.heap.size≠q1.heap.size:=by omega
   have n23:q2.heap.size≠q3.heap.size:=by omega
   have n30:q3.heap.size≠q0.heap.size:=by omega
   have n31:q3.heap.size≠q1.heap.size:=by omega
   have n32:q3.heap.size≠q2.heap.size:=by omega
   refine bB 23 ?_;go_wp2_with fail
   refine aQ (pP bq4 (by assumption)) ?_;refine bB 24 ?_;go_wp2_with fail
   refine aQ (pP (pP bq4 (by assumption)) (by assumption)) ?_;refine bB 25 ?_;go_wp2_with fail
   refine aQ (pP (pP (pP bq4 (by assumption)) (by assumption)) (by assumption)) ?_;refine cP [26] (lB:=[_]) ?_;go_wp2_with fail
   go_meet
   exact ⟨_,_,_,_,rfl,rfl,rfl,rfl,aDv (by assumption) (by assumption) (by assumption) (by assumption) (by assumption) (by assumption) (by assumption) (by assumption) (by assumption) (by assumption) bq4 (by assumption) (by assumption) (by assumption) (by assumption)⟩
 case rest=>
  obtain ⟨g4,g5,g6,g7,rfl,rfl,rfl,rfl,hT4,hT5,hT6,hT7,hxy⟩:=hcut;clear ui1 ui2 ui3 uj1 uj2 uj3 um1 um2 um3 uy1 uy2 uy3 uz1 uz2 uz3 g0 g1' g2;go_upto_region 8 with fail
  refine aW ?_;intro wy hwy;subst hwy;have gy:Bw w wy:=gx.trans (hxy.mono gx.size);have hZy:=hZx.keep hxy;have rp:=rpx.below hxy;have rz:=rzx.below hxy;have r2:=r2x.below hxy;have ra:=rax.below hxy;obtain ⟨t40,t41,t42⟩:=jR hT4;obtain ⟨t50,t51,t52⟩:=jR hT5;obtain ⟨t60,t61,t62⟩:=jR hT6;obtain ⟨t70,t71,t72⟩:=jR hT7;refine eT wy [14,15,16,17] [0,1,4,5,6,7] 18 12 (lT:=[_,_,_,_,_,_]) ?_;intro q0 bq0;refine bZ (aD ?_);refine nK 2 8 ?_ ?_;all_goals first
   | (go_wp2_with (go_at_call 71;refine (aP _ _ ⟨_,_,_,rfl⟩ _).mono ?_;rintro e q1 ⟨rfl,hbq1⟩);first|(replace rA:=rA.below hbq1;replace rB:=rB.below hbq1)|replace rA:=rA.below hbq1|replace rB:=rB.below hbq1)
   | (go_wp2_with fail;refine cB ?_;intro q1 hn;have hbq1:Bw q0 q1:=(by rw [hn];exact bw1);have zA:Blk q1 q0.heap.size #[.int .i64 k2,.int .i64 n2,.slice A2 s2.length c2,.int .i64 ka,.int .i64 na,.slice Aa sa.length ca]:=(by rw [hn];exact aC _ 32 _ rfl);clear hn;have rA:=dP zA hl2 hla ((r2.below bq0).below hbq1) ((ra.below bq0).below hbq1);clear zA;obtain ⟨aA,haA⟩:∃a,a=q0.heap.size:=⟨_,rfl⟩;rw [← haA] at rA;try replace rB:=rB.below hbq1)
   | (go_wp2_with fail;refine cB ?_;intro q1 hn;have hbq1:Bw q0 q1:=(by rw [hn];exact bw1);have zB:Blk q1 q0.heap.size #[.int .i64 kp,.int .i64 np,.slice Ap sp.length cp,.int .i64 kz,.int .i64 nz,.slice Az sz.length cz,.int .i64 k2,.int .i64 n2,.slice A2 s2.length c2,.int .i64 ka,.int .i64 na,.slice Aa sa.length ca]:=(by rw [hn];exact aC _ 32 _ rfl);clear hn;have rB:=uB zB hlp hlz hl2 hla ((rp.below bq0).below hbq1) ((rz.below bq0).below hbq1) ((r2.below bq0).below hbq1) ((ra.below bq0).below hbq1);clear zB;obtain ⟨aB,haB⟩:∃a,a=q0.heap.size:=⟨_,rfl⟩;rw [← haB] at rB;try replace rA:=rA.below hbq1)
  all_goals
   refine aX bq0 hbq1 ?_;intro bq1 lq1
  all_goals first
   | refine oZ (i:=3) (j:=8) (by decide +kernel) rfl rfl ?_ ?_
   | refine oA (i:=2) (by decide +kernel) rfl ?_
  all_goals first
   | (go_wp2_with (go_at_call 71;refine (aP _ _ ⟨_,_,_,rfl⟩ _).mono ?_;rintro e q2 ⟨rfl,hbq2⟩);first|(replace rA:=rA.below hbq2;replace rB:=rB.below hbq2)|replace rA:=rA.below hbq2|replace rB:=rB.below hbq2)
   | (go_wp2_with fail;refine cB ?_;intro q2 hn;have hbq2:Bw q1 q2:=(by rw [hn];exact bw1);have zA:Blk q2 q1.heap.size #[.int .i64 k2,.int .i64 n2,.slice A2 s2.length c2,.int .i64 ka,.int .i64 na,.slice Aa sa.length ca]:=(by rw [hn];exact aC _ 32 _ rfl);clear hn;have rA:=dP zA hl2 hla ((r2.below bq1).below hbq2) ((ra.below bq1).below hbq2);clear zA;obtain ⟨aA,haA⟩:∃a,a=q1.heap.size:=⟨_,rfl⟩;rw [← haA] at rA;try replace rB:=rB.below hbq2)
   | (go_wp2_with fail;refine cB ?_;intro q2 hn;have hbq2:Bw q1 q2:=(by rw [hn];exact bw1);have zB:Blk q2 q1.heap.size #[.int .i64 kp,.int .i64 np,.slice Ap sp.length cp,.int .i64 kz,.int .i64 nz,.slice Az sz.length cz,.int .i64 k2,.int .i64 n2,.slice A2 s2.length c2,.int .i64 ka,.int .i64 na,.slice Aa sa.length ca]:=(by rw [hn];exact aC _ 32 _ rfl);clear hn;have rB:=uB zB hlp hlz hl2 hla ((rp.below bq1).below hbq2) ((rz.below bq1).below hbq2) ((r2.below bq1).below hbq2) ((ra.below bq1).below hbq2);clear zB;obtain ⟨aB,haB⟩:∃a,a=q1.heap.size:=⟨_,rfl⟩;rw [← haB] at rB;try replace rA:=rA.below hbq2)
  all_goals
   refine aX bq1 hbq2 ?_;intro bq2 lq2
  all_goals first
   | refine oA (i:=8) (by decide +kernel) rfl ?_
   | refine oA (i:=3) (by decide +kernel) rfl ?_
  all_goals first
   | (go_wp2_with (go_at_call 71;refine (aP _ _ ⟨_,_,_,rfl⟩ _).mono ?_;rintro e q3 ⟨rfl,hbq3⟩);first|(replace rA:=rA.below hbq3;replace rB:=rB.below hbq3)|replace rA:=rA.below hbq3|replace rB:=rB.below hbq3)
   | (go_wp2_with fail;refine cB ?_;intro q3 hn;have hbq3:Bw q2 q3:=(by rw [hn];exact bw1);have zA:Blk q3 q2.heap.size #[.int .i64 k2,.int .i64 n2,.slice A2 s2.length c2,.int .i64 ka,.int .i64 na,.slice Aa sa.length ca]:=(by rw [hn];exact aC _ 32 _ rfl);clear hn;have rA:=dP zA hl2 hla ((r2.below bq2).below hbq3) ((ra.below bq2).below hbq3);clear zA;obtain ⟨aA,haA⟩:∃a,a=q2.heap.size:=⟨_,rfl⟩;rw [← haA] at rA;try replace rB:=rB.below hbq3)
   | (go_wp2_with fail;refine cB ?_;intro q3 hn;have hbq3:Bw q2 q3:=(by rw [hn];exact bw1);have zB:Blk q3 q2.heap.size #[.int .i64 kp,.int .i64 np,.slice Ap sp.length cp,.int .i64 kz,.int .i64 nz,.slice Az sz.length cz,.int .i64 k2,.int .i64 n2,.slice A2 s2.length c2,.int .i64 ka,.int .i64 na,.slice Aa sa.length ca]:=(by rw [hn];exact aC _ 32 _ rfl);clear hn;have rB:=uB zB hlp hlz hl2 hla ((rp.below bq2).below hbq3) ((rz.below bq2).below hbq3) ((r2.below bq2).below hbq3) ((ra.below bq2).below hbq3);clear zB;obtain ⟨aB,haB⟩:∃a,a=q2.heap.size:=⟨_,rfl⟩;rw [← haB] at rB;try replace rA:=rA.below hbq3)
  all_goals
   refine aX bq2 hbq3 ?_;intro bq3 lq3
  all_goals first
   | refine oA (i:=9) (by decide +kernel) rfl ?_
  all_goals first
   | (go_wp2_with (go_at_call 71;refine (aP _ _ ⟨_,_,_,rfl⟩ _).mono ?_;rintro e q4 ⟨rfl,hbq4⟩);first|(replace rA:=rA.below hbq4;replace rB:=rB.below hbq4)|replace rA:=rA.below hbq4|replace rB:=rB.below hbq4)
   | (go_wp2_with fail;refine cB ?_;intro q4 hn;have hbq4:Bw q3 q4:=(by rw [hn];exact bw1);have zA:Blk q4 q3.heap.size #[.int .i64 k2,.int .i64 n2,.slice A2 s2.length c2,.int .i64 ka,.int .i64 na,.slice Aa sa.length ca]:=(by rw [hn];exact aC _ 32 _ rfl);clear hn;have rA:=dP zA hl2 hla ((r2.below bq3).below hbq4) ((ra.below bq3).below hbq4);clear zA;obtain ⟨aA,haA⟩:∃a,a=q3.heap.size:=⟨_,rfl⟩;rw [← haA] at rA;try replace rB:=rB.below hbq4)
   | (go_wp2_with fail;refine cB ?_;intro q4 hn;have hbq4:Bw q3 q4:=(by rw [hn];exact bw1);have zB:Blk q4 q3.heap.size #[.int .i64 kp,.int .i64 np,.slice Ap sp.length cp,.int .i64 kz,.int .i64 nz,.slice Az sz.length cz,.int .i64 k2,.int .i64 n2,.slice A2 s2.length c2,.int .i64 ka,.int .i64 na,.slice Aa sa.length ca]:=(by rw [hn];exact aC _ 32 _ rfl);clear hn;have rB:=uB zB hlp hlz hl2 hla ((rp.below bq3).below hbq4) ((rz.below bq3).below hbq4) ((r2.below bq3).below hbq4) ((ra.below bq3).below hbq4);clear zB;obtain ⟨aB,haB⟩:∃a,a=q3.heap.size:=⟨_,rfl⟩;rw [← haB] at rB;try replace rA:=rA.below hbq4)
  all_goals
   refine aX bq3 hbq4 ?_;intro bq4 lq4
  all_goals
   refine bB 10 ?_;go_wp2_with fail
   refine cB ?_;intro q5 hn;have hbq5:Bw q4 q5:=by rw [hn];exact bw1
   have zq5:Blk q5 q4.heap.size #[.int .i64 5,.int .i64 0,.slice (some ⟨aA,0,none⟩) 2 2,.int .i64 9,.int .i64 0,.slice (some ⟨aB,0,none⟩) 4 4]:=by rw [hn,haA,haB];exact aC _ 32 _ rfl
   clear hn;have rq5:Rd q5 (some ⟨q4.heap.size,0,none⟩) 0 [.mk 5 0 [.mk k2 n2 s2,.mk ka na sa],.mk 9 0 [.mk kp np sp,.mk kz nz sz,.mk k2 n2 s2,.mk ka na sa]]:=dP (s0:=[.mk k2 n2 s2,.mk ka na sa]) (s1:=[.mk kp np sp,.mk kz nz sz,.mk k2 n2 s2,.mk ka na sa]) zq5 (by simp) (by simp) (rA.below hbq5) (rB.below hbq5);refine aX bq4 hbq5 ?_;intro bq5 lq5;refine bB 11 ?_;go_wp2_with (go_at_call 71;refine (aP 5 _ ⟨_,_,_,rfl⟩ _).mono ?_;rintro e q6 ⟨rfl,hbq6⟩)
   have Tq6:=rq5.below hbq6;refine aX bq5 hbq6 ?_;intro bq6 lq6;refine bB 12 ?_;go_wp2_with (go_at_call 63;refine (kA 10000 5 0 [.mk 5 0 [.mk k2 n2 s2,.mk ka na sa],.mk 9 0 [.mk kp np sp,.mk kz nz sz,.mk k2 n2 s2,.mk ka na sa]] _ 2 _ (by simp only [aG,Tm.size];omega) (by simp only [aG,Tm.size];omega) Tq6).mono ?_;rintro e q7 ⟨A8,c8,rfl,hl8,hfq7,hbq7⟩)
   have hgq7:=hfq7.mono (B':=wy.heap.size) bq6.size;refine aX bq6 hbq7 ?_;intro bq7 lq7;refine bB 13 ?_;have hZ7:=hZy.keep bq7;have gf7:=gy.trans (bq7.mono gy.size);have sy:=gy.size;have lzy:=hZy.lt;cases hvr0:aE (.mk 5 0 [.mk 5 0 [.mk k2 n2 s2,.mk ka na sa],.mk 9 0 [.mk kp np sp,.mk kz nz sz,.mk k2 n2 s2,.mk ka na sa]]) with
   | false=>
    obtain rfl:o=none:=by rw [← ho.out,vO,hvr0];rfl
    have hvr:=aD hvr0;clear hvr0 ho;go_wp2_with (go_at_call 84;refine (yD 5 0 _ A8 c8 _ (by simp only [aG,Tm.size];omega) hgq7.rd hvr.out).mono ?_;rintro e q8 ⟨rfl,hbq8⟩)
    have Oq8:=hgq7.below hbq8;have bq8:Bw wy q8:=bq7.trans (hbq8.mono bq7.size);refine aQ bq8 ?_;refine fB [14,15] 2 (lT:=[_,_]) ?_;refine bZ (aD ?_);refine cP [16,17] (lB:=[_,_]) ?_;have hZ2:=hZy.keep bq8;obtain ⟨d0,d1,d2,e0,e1,e2⟩:=bW hZ2;have gf:=gy.trans (bq8.mono gy.size);go_wp2_with fail
    refine bodyPost_ret (v:=.tuple #[fO,.bool false]) (by simp [results,results133,go_sem,d0,d1,d2,fO]) rfl ⟨rfl,?_⟩;exact ((gf.setCell (by simp) _).setCell (by simp) _).setCell (by simp) _
   | true=>
    obtain rfl:o=some (.mk 5 0 [.mk 5 0 [.mk k2 n2 s2,.mk ka na sa],.mk 9 0 [.mk kp np sp,.mk kz nz sz,.mk k2 n2 s2,.mk ka na sa]]):=by rw [← ho.out,vO,hvr0];rfl
    have hvr:=aD hvr0;clear hvr0 ho;go_wp2_with (go_at_call 84;refine (gY 5 0 _ A8 c8 _ (by simp only [aG,Tm.size];omega) hgq7.rd hvr.out).mono ?_;rintro e q8 ⟨rfl,hbq8⟩)
    have Oq8:=hgq7.below hbq8;have bq8:Bw wy q8:=bq7.trans (hbq8.mono bq7.size);refine aQ bq8 ?_;refine fB [14,15] 2 (lT:=[_,_]) ?_;refine bZ (aD ?_);refine cP [16,17] (lB:=[_,_]) ?_;have hZ2:=hZy.keep bq8;obtain ⟨d0,d1,d2,e0,e1,e2⟩:=bW hZ2;have gf:=gy.trans (bq8.mono gy.size);go_wp2_with fail
    refine bodyPost_ret (v:=.tuple #[.agg (Ro 5 0 A8 2 c8),.bool true]) (by simp [results,results133,go_sem,d0,d1,d2,fO]) rfl ⟨A8,c8,rfl,by simp [Tm.ks],?_,?_⟩
    ·exact (((Oq8.setCell (by simp;omega) _).setCell (by simp;omega) _).setCell (by simp;omega) _).mono (by omega)
    ·exact ((gf.setCell (by simp) _).setCell (by simp) _).setCell (by simp) _
theorem lU (k n:Int)(ks:List Tm)(A:Option Addr)(c:Nat)(w:World)(hv:aE (.mk k n ks)=true)(hx:rdx k ks≠0)(hr:Rd w A 0 ks) :
  Calls prog 133 #[.agg (Ro k n A ks.length c)] w (oM w (tX (.mk k n ks))):=by
 have har:=(bG hv).1;rcases aGc hx with ⟨h,rfl,h2⟩|⟨h,rfl,h2⟩|⟨h,rfl,h2⟩|⟨h,rfl,h2⟩|⟨h,rfl,h2⟩|⟨h,rfl,h2⟩
 ·obtain ⟨a,b,rfl⟩:=jY (l:=ks) (by have:aU 5=2:=rfl;omega);obtain ⟨k0,n0,s0⟩:=a;obtain ⟨k1,n1,s1⟩:=b;obtain rfl:k0=4:=h2;have ha0:=(bG (aO hv (t:=.mk 4 n0 s0) (by simp))).1;obtain ⟨x,y,rfl⟩:=jY (l:=s0) (by have:aU 4=2:=rfl;omega);obtain ⟨ka,na,kas⟩:=x;obtain ⟨kb,nb,kbs⟩:=y;exact aSi n n0 ka na kas kb nb kbs k1 n1 s1 A c w hv hr
 ·obtain ⟨a,b,x,d,rfl⟩:=uT (l:=ks) (by have:aU 9=4:=rfl;omega);obtain ⟨k1,n1,s1⟩:=b;obtain ⟨k3,n3,s3⟩:=d;obtain rfl:k3=7:=h2;have hz:tX (.mk 9 n [a,.mk k1 n1 s1,x,.mk 7 n3 s3])=some (.mk k1 n1 s1):=by
   show vO (.mk k1 n1 s1)=_
   rw [vO,if_pos (aO hv (by simp))]
  rw [hz];exact aSv n a k1 n1 s1 x n3 s3 A c w hv hr
 ·obtain ⟨a,b,x,d,rfl⟩:=uT (l:=ks) (by have:aU 9=4:=rfl;omega);obtain ⟨kp,np,sp⟩:=a;obtain ⟨kz,nz,sz⟩:=b;obtain ⟨k2,n2,s2⟩:=x;obtain ⟨k3,n8,s3⟩:=d;obtain rfl:k3=8:=h2;have ha0:=(bG (aO hv (t:=.mk 8 n8 s3) (by simp))).1;obtain ⟨x,rfl⟩:=lH (l:=s3) (by have:aU 8=1:=rfl;omega);obtain ⟨ka,na,sa⟩:=x;have hz:tX (.mk 9 n [.mk kp np sp,.mk kz nz sz,.mk k2 n2 s2,.mk 8 n8 [.mk ka na sa]])=vO (.mk 5 0 [.mk 5 0 [.mk k2 n2 s2,.mk ka na sa],.mk 9 0 [.mk kp np sp,.mk kz nz sz,.mk k2 n2 s2,.mk ka na sa]]):=rfl;rw [hz];exact aTh n kp np sp kz nz sz k2 n2 s2 n8 ka na sa A c w hv hr _ rfl
 ·obtain ⟨a,b,x,rfl⟩:=gG (l:=ks) (by have:aU 12=3:=rfl;omega);obtain ⟨k1,n1,s1⟩:=x;obtain ⟨k3,n3,s3⟩:=b;obtain rfl:k3=11:=h2;have hz:tX (.mk 12 n [a,.mk 11 n3 s3,.mk k1 n1 s1])=some (.mk k1 n1 s1):=by
   show vO (.mk k1 n1 s1)=_
   rw [vO,if_pos (aO hv (by simp))]
  rw [hz];exact aTe n a n3 s3 k1 n1 s1 A c w hv hr
 ·obtain ⟨a,rfl⟩:=lH (l:=ks) (by have:aU 15=1:=rfl;omega);obtain ⟨k3,n3,s3⟩:=a;obtain rfl:k3=14:=h2;have hv0:=aO hv (t:=.mk 14 n3 s3) (by simp);have ha0:=(bG hv0).1;obtain ⟨a,b,x,rfl⟩:=gG (l:=s3) (by have:aU 14=3:=rfl;omega);obtain ⟨k1,n1,s1⟩:=b;have hz:tX (.mk 15 n [.mk 14 n3 [a,.mk k1 n1 s1,x]])=some (.mk k1 n1 s1):=by
   show vO (.mk k1 n1 s1)=_
   rw [vO,if_pos (aO hv0 (by simp))]
  rw [hz];exact aTc n n3 a k1 n1 s1 x A c w hv hr
 ·obtain ⟨a,rfl⟩:=lH (l:=ks) (by have:aU 16=1:=rfl;omega);obtain ⟨k3,n3,s3⟩:=a;obtain rfl:k3=14:=h2;have hv0:=aO hv (t:=.mk 14 n3 s3) (by simp);have ha0:=(bG hv0).1;obtain ⟨a,b,x,rfl⟩:=gG (l:=s3) (by have:aU 14=3:=rfl;omega);obtain ⟨k1,n1,s1⟩:=x;have hz:tX (.mk 16 n [.mk 14 n3 [a,b,.mk k1 n1 s1]])=some (.mk k1 n1 s1):=by
   show vO (.mk k1 n1 s1)=_
   rw [vO,if_pos (aO hv0 (by simp))]
  rw [hz];exact aSj n n3 a b k1 n1 s1 A c w hv hr
end Go.Proofs.YtjlaenhcemacdaaGreat
